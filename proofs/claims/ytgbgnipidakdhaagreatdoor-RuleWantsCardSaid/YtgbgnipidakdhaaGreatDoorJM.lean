/- A region that draws its order and holds operations that write or make memory: the operations that only read are taken first; whenever one that writes is taken, it alone can come. One walk in that order serves every order. -/
import Derived.Test.YtgbgnipidakdhaaGreatDoorProg
import Derived.Still
import Derived.Orders
import Derived.Laws.World
namespace Go.Proofs.YtgbgnipidakdhaaGreatDoor
def isQ : Op → Bool
  | .move _ | .assign _ | .pick _ _ _ | .build _ _ | .load _ _ | .nilCheck _ | .binOp _ _ _ _ _ | .unOp _ _ _ | .convert _ _ _ | .makeFunc _ _ _ | .slice _ _ _ _ _ | .fieldAddr _ _ _ | .field _ _ _ | .indexAddr _ _ _ | .index _ _ _ | .extract _ _ | .lookup _ _ _ _ | .makeInterface _ _ => true
  | .call c => match c.callee with
    | .builtin .len => true
    | _ => false
  | _ => false
section
variable {P : Program} {ops : Array Oper} {md : Region.Mode} {C : World → Prop}
def effUp (P : Program) (K : Value → World → Prop) : Result Next → Prop
  | .ok (.value v) w' => K v w'
  | .ok .skip w' => K undef w'
  | .ok (.enter f args) w' => Calls P f args w' (fun e w'' => ∃ v, e = .returned v ∧ K v w'')
  | _ => False
theorem effUp_mono {K K' : Value → World → Prop} {r : Result Next} (h : effUp P K r) (hk : ∀ v w, K v w → K' v w) : effUp P K' r := by
  cases r with
  | ok n w =>
    cases n <;> simp only [effUp] at h ⊢
    case value v => exact hk _ _ h
    case skip => exact hk _ _ h
    case enter f args => exact h.mono fun e w' ⟨v, e1, h1⟩ => ⟨v, e1, hk _ _ h1⟩
  | halt x w => exact h.elim
def mOp (P : Program) (ops : Array Oper) (C : World → Prop) (z : Nat) (i : Nat) (K : Act → World → Prop) (a : Act) (w : World) : Prop :=
  match ops[i]? with
  | none => K a w
  | some o => if Region.wanted o (yielded ops a.tmps) then effUp P (fun v w' => (i = z ∨ C w') ∧ K (a.put o.dst v) w') ((execOp a.eval o).run P w) else K (a.put o.dst undef) w
def wpAnyM (P : Program) (md : Region.Mode) (ops : Array Oper) (C : World → Prop) (z : Nat) (K : Act → World → Prop) : Nat → Array Bool → Act → World → Prop
  | 0, listed, a, w => Region.ready md ops listed = [] ∧ K a w
  | fuel + 1, listed, a, w =>
    (Region.ready md ops listed = [] → K a w) ∧
    ∀ i ∈ Region.ready md ops listed, mOp P ops C z i (wpAnyM P md ops C z K fuel (listed.setIfInBounds i true)) a w
theorem wpOp_of_mOp {z i : Nat} {a : Act} {w : World} {K K' : Act → World → Prop} {Q : Exit → Act → World → Prop} (hk : ∀ a w, K a w → K' a w) (h : mOp P ops C z i K a w) : wpOp P ops Q i K' a w := by
  unfold mOp at h
  unfold wpOp
  cases ho : ops[i]? with
  | none => simp only [ho] at h ⊢; exact hk _ _ h
  | some o =>
    simp only [ho] at h ⊢
    split
    · rename_i hw
      simp only [hw, if_true] at h
      refine .inl ?_
      unfold Oper.wp
      generalize (execOp a.eval o).run P w = r at *
      cases r with
      | ok n w' =>
        cases n <;> simp only [effUp] at h <;> simp only [Oper.upon]
        case value v => exact hk _ _ h.2
        case skip => exact hk _ _ h.2
        case enter f args =>
          refine h.mono fun e w'' ⟨v, e1, h1, h2⟩ => ?_
          subst e1
          exact hk _ _ h2
      | halt x w' => exact h.elim
    · rename_i hw
      simp only [hw] at h
      exact hk _ _ h
theorem wpAny_of_M {z : Nat} {K : Act → World → Prop} {Q : Exit → Act → World → Prop} (hQ : ∀ a w, K a w → Q .normal a w) : ∀ (fuel : Nat) (listed : Array Bool) (a : Act) (w : World), wpAnyM P md ops C z K fuel listed a w → wpAny P md ops Q fuel listed a w
  | 0, _, _, _, h => ⟨h.1, hQ _ _ h.2⟩
  | fuel + 1, _, _, _, h => ⟨fun h0 => hQ _ _ (h.1 h0), fun i hi => wpOp_of_mOp (fun a w hk => wpAny_of_M hQ fuel _ a w hk) (h.2 i hi)⟩
def YV (P : Program) (ops : Array Oper) (C : World → Prop) (o : Oper) (v : Value) (a : Act) : Prop :=
  (Region.wanted o (yielded ops a.tmps) = true ∧ ∀ w, C w → (execOp a.eval o).run P w = .ok (.value v) w) ∨ (Region.wanted o (yielded ops a.tmps) = false ∧ v = undef)
theorem YV.of_same {o : Oper} {v : Value} {a a' : Act} (hy : YV P ops C o v a) (he : execOp a'.eval o = execOp a.eval o) (hw : Region.wanted o (yielded ops a'.tmps) = Region.wanted o (yielded ops a.tmps)) : YV P ops C o v a' := by
  unfold YV at *; rw [he, hw]; exact hy
theorem YV.mOp {z i : Nat} {o : Oper} {v : Value} {a : Act} {w : World} (hi : ops[i]? = some o) (hy : YV P ops C o v a) (hC : C w) {K : Act → World → Prop} (h : K (a.put o.dst v) w) : mOp P ops C z i K a w := by
  unfold Go.Proofs.YtgbgnipidakdhaaGreatDoor.mOp
  simp only [hi]
  rcases hy with ⟨hw, hv⟩ | ⟨hw, rfl⟩
  · simp only [hw, if_true, hv w hC, effUp]; exact ⟨.inr hC, h⟩
  · simp only [hw, Bool.false_eq_true, if_false]; exact h
theorem mOp_mono {z i : Nat} {a : Act} {w : World} {K K' : Act → World → Prop} (hi : i ≠ z) (hC : C w) (hk : ∀ a w, C w → K a w → K' a w) (h : mOp P ops C z i K a w) : mOp P ops C z i K' a w := by
  unfold mOp at *
  cases ho : ops[i]? with
  | none => simp only [ho] at h ⊢; exact hk _ _ hC h
  | some o =>
    simp only [ho] at h ⊢
    split
    · rename_i hw; simp only [hw, if_true] at h; exact effUp_mono h fun v w ⟨h1, h2⟩ => ⟨h1, hk _ _ (h1.resolve_left hi) h2⟩
    · rename_i hw; simp only [hw] at h; exact hk _ _ hC h
theorem mOp_put {z j : Nat} {oi oj : Oper} {v : Value} (hj : ops[j]? = some oj) (hap : oi.apart ops oj = true) (hsi : ∀ cs b, oi.op ≠ .select cs b) (hsj : ∀ cs b, oj.op ≠ .select cs b) {K : Act → World → Prop} {a : Act} {w : World}
    (hy : YV P ops C oi v a) (h : mOp P ops C z j K (a.put oi.dst v) w) : mOp P ops C z j (fun a' w' => YV P ops C oi v a' ∧ K (a'.put oi.dst v) w') a w := by
  obtain ⟨h1, h2, h3⟩ := Oper.apart_spec hap
  have keep : ∀ u, YV P ops C oi v (a.put oj.dst u) := fun u => hy.of_same (execOp_put oi hsi a oj.dst u h3) (wanted_put oi a oj.dst u h3)
  unfold mOp at *
  simp only [hj] at *
  rw [wanted_put oj a oi.dst v h1, execOp_put oj hsj a oi.dst v h1] at h
  split
  · rename_i hw
    simp only [hw, if_true] at h
    refine effUp_mono h fun u w' ⟨g1, g2⟩ => ⟨g1, keep u, ?_⟩
    rw [← Act.put_comm a v u h2]; exact g2
  · rename_i hw
    simp only [hw] at h
    exact ⟨keep _, by rw [← Act.put_comm a v undef h2]; exact h⟩
def Clo (md : Region.Mode) (ops : Array Oper) (listed : Array Bool) : Prop := ∀ j o, ops[j]? = some o → listed.getD j false = true → ∀ e ∈ o.after, Region.binds md e = true → listed.getD e.on false = true
theorem getD_set_mono {listed : Array Bool} {i k : Nat} (h : listed.getD k false = true) : (listed.setIfInBounds i true).getD k false = true := by
  by_cases e : i = k
  · subst e
    have hs : i < listed.size := by
      rcases Nat.lt_or_ge i listed.size with h' | h'
      · exact h'
      · simp [Array.getElem?_eq_none h'] at h
    simp [hs]
  · rw [getD_set_ne false e]; exact h
theorem Clo.set {listed : Array Bool} {i : Nat} (h : Clo md ops listed) (hi : i ∈ Region.ready md ops listed) : Clo md ops (listed.setIfInBounds i true) := by
  intro j o ho hj e he hb
  by_cases ej : i = j
  · subst ej
    obtain ⟨_, o2, ho2, hall⟩ := mem_ready.1 hi
    rw [ho] at ho2; cases ho2
    exact getD_set_mono (hall e he hb)
  · rw [getD_set_ne false ej] at hj
    exact getD_set_mono (h j o ho hj e he hb)
theorem Clo.start (n : Nat) : Clo md ops (Array.replicate n false) := by
  intro j o _ hj
  rcases Nat.lt_or_ge j n with h | h
  · simp [h] at hj
  · simp [Nat.not_lt.2 h] at hj
theorem wpAnyM_first {z : Nat} {K : Act → World → Prop} {i : Nat} {oi : Oper} {v : Value} (hi : ops[i]? = some oi) (hsel : ∀ (j : Nat) (o : Oper) cs b, ops[j]? = some o → o.op ≠ .select cs b)
    (hz : ∀ listed : Array Bool, Clo md ops listed → listed.getD i true = false → i ≠ z → z ∉ Region.ready md ops listed) (hiz : i ≠ z) :
    ∀ (fuel : Nat) (listed : Array Bool) (a : Act) (w : World), C w → Clo md ops listed →
      (∀ j oj, ops[j]? = some oj → j ≠ i → listed.getD j true = false → (∀ e ∈ oj.after, Region.binds md e = true → e.on ≠ i) → oi.apart ops oj = true) →
      i ∈ Region.ready md ops listed → YV P ops C oi v a →
      wpAnyM P md ops C z K fuel (listed.setIfInBounds i true) (a.put oi.dst v) w → wpAnyM P md ops C z K (fuel + 1) listed a w := by
  intro fuel
  induction fuel with
  | zero =>
    intro listed a w hC _ _ hr hy H
    refine ⟨fun h => (by rw [h] at hr; cases hr), fun j hj => ?_⟩
    by_cases hji : j = i
    · subst hji; exact hy.mOp hi hC H
    · have := ready_mono hj hji
      rw [H.1] at this
      cases this
  | succ fuel ih =>
    intro listed a w hC hcl hfree hr hy H
    refine ⟨fun h => (by rw [h] at hr; cases hr), fun j hj => ?_⟩
    by_cases hji : j = i
    · subst hji; exact hy.mOp hi hC H
    · have h1 := H.2 j (ready_mono hj hji)
      obtain ⟨hjun, oj, hoj, hall⟩ := mem_ready.1 hj
      have hnot : ∀ e ∈ oj.after, Region.binds md e = true → e.on ≠ i := fun e he hb heq => by
        have h1 := hall e he hb
        have h0 := (mem_ready.1 hr).1
        rw [heq] at h1
        rcases Nat.lt_or_ge i listed.size with h' | h'
        · simp [h'] at h0 h1; rw [h0] at h1; cases h1
        · simp [Array.getElem?_eq_none h'] at h1
      have h2 := mOp_put hoj (hfree j oj hoj hji hjun hnot) (fun cs b => hsel i oi cs b hi) (fun cs b => hsel j oj cs b hoj) hy h1
      have hfree' : ∀ k ok, ops[k]? = some ok → k ≠ i → (listed.setIfInBounds j true).getD k true = false →
          (∀ e ∈ ok.after, Region.binds md e = true → e.on ≠ i) → oi.apart ops ok = true := fun k ok hk hki hun hno => by
        refine hfree k ok hk hki ?_ hno
        by_cases hjk : j = k
        · subst hjk; exact hjun
        · rw [getD_set_ne true hjk] at hun; exact hun
      have hjz : j ≠ z := fun e => by subst e; exact hz listed hcl (mem_ready.1 hr).1 hiz hj
      refine mOp_mono hjz hC (fun a' w' hC' h3 => ih (listed.setIfInBounds j true) a' w' hC' (hcl.set hj) hfree' (ready_mono hr (Ne.symm hji)) h3.1 ?_) h2
      rw [Array.setIfInBounds_comm _ _ hji]
      exact h3.2
def wpMix (P : Program) (ops : Array Oper) (C : World → Prop) (sk : Bool) (K : Act → World → Prop) : List Oper → Act → World → Prop
  | [], a, w => K a w
  | o :: rest, a, w =>
    if Region.wanted o (yielded ops a.tmps) then
      (if isQ o.op then ∃ v, (∀ w, C w → (execOp a.eval o).run P w = .ok (.value v) w) ∧ wpMix P ops C sk K rest (a.put o.dst v) w
       else effUp P (fun v w' => ((sk = true ∧ rest = []) ∨ C w') ∧ wpMix P ops C sk K rest (a.put o.dst v) w') ((execOp a.eval o).run P w))
    else wpMix P ops C sk K rest (a.put o.dst undef) w
def lexM (md : Region.Mode) (ops : Array Oper) : List Nat → Array Bool → Bool
  | [], listed => (Region.ready md ops listed).isEmpty
  | k :: r, listed =>
    (match ops[k]? with
     | some o => if isQ o.op then (Region.ready md ops listed).contains k && Region.free md ops listed k else Region.ready md ops listed == [k]
     | none => false) && lexM md ops r (listed.setIfInBounds k true)
def pick (l : List Oper) : List Nat → List Oper
  | [] => []
  | i :: r => l.getD i default :: pick l r
def ancB (md : Region.Mode) (ops : Array Oper) : Nat → Nat → Nat → Bool
  | 0, _, _ => false
  | f + 1, z, k => match ops[z]? with
    | some o => o.after.any fun e => Region.binds md e && (e.on == k || ancB md ops f e.on k)
    | none => false
theorem ancB_spec {listed : Array Bool} (hcl : Clo md ops listed) : ∀ (f z k : Nat), (∀ o, ops[z]? = some o → ∀ e ∈ o.after, Region.binds md e = true → listed.getD e.on false = true) → ancB md ops f z k = true → listed.getD k false = true
  | 0, _, _, _, h => by simp [ancB] at h
  | f + 1, z, k, hz, h => by
    unfold ancB at h
    cases ho : ops[z]? with
    | none => simp [ho] at h
    | some o =>
      simp only [ho, Array.any_eq_true', Bool.and_eq_true, Bool.or_eq_true, beq_iff_eq] at h
      obtain ⟨e, he, hb, h1⟩ := h
      have h2 := hz o ho e he hb
      rcases h1 with h1 | h1
      · rw [← h1]; exact h2
      · exact ancB_spec hcl f e.on k (fun o2 ho2 e2 he2 hb2 => hcl e.on o2 ho2 h2 e2 he2 hb2) h1
def sinkB (md : Region.Mode) (ops : Array Oper) (z : Nat) : Bool :=
  (List.range ops.size).all fun k => k == z || ancB md ops 16 z k
theorem sinkB_spec {z i : Nat} (h : sinkB md ops z = true) (hi : i < ops.size) (hne : i ≠ z) {listed : Array Bool} (hcl : Clo md ops listed) (hl : listed.getD i true = false) : z ∉ Region.ready md ops listed := by
  intro hz
  obtain ⟨_, o, ho, hall⟩ := mem_ready.1 hz
  simp only [sinkB, List.all_eq_true, List.mem_range] at h
  have h1 := h i hi
  simp only [Bool.or_eq_true, beq_iff_eq, hne, false_or] at h1
  have h2 := ancB_spec hcl 16 z i (fun o2 ho2 e he hb => by rw [ho] at ho2; cases ho2; exact hall e he hb) h1
  rcases Nat.lt_or_ge i listed.size with h' | h'
  · simp [h'] at hl h2; rw [hl] at h2; cases h2
  · simp [Array.getElem?_eq_none h'] at h2
theorem wpAnyM_lex {l : List Oper} {sk : Bool} {z : Nat} {K : Act → World → Prop} (hs : Region.noSelect l.toArray = true) (hz : z < l.length → sinkB md l.toArray z = true) : ∀ (ord : List Nat) (listed : Array Bool) (a : Act) (w : World), C w → Clo md l.toArray listed → (sk = true → ord.getLast? = some z) → (∀ k ∈ ord, k = z → ∃ r, ord = r ++ [z] ∧ z ∉ r) → (z < l.length → isQ (l.getD z default).op = false) →
    lexM md l.toArray ord listed = true → wpMix P l.toArray C sk K (pick l ord) a w → wpAnyM P md l.toArray C z K ord.length listed a w
  | [], _, _, _, _, _, _, _, _, hB, h => ⟨by simpa [lexM] using hB, h⟩
  | k :: r, listed, a, w, hC, hcl, hsk, hone, hzq, hB, h => by
    simp only [lexM, Bool.and_eq_true] at hB
    obtain ⟨hB1, hB2⟩ := hB
    cases ho : l.toArray[k]? with
    | none => simp [ho] at hB1
    | some o =>
      have hl : l[k]? = some o := by simpa using ho
      have hkl : k < l.length := (List.getElem?_eq_some_iff.1 hl).1
      have hp : pick l (k :: r) = o :: pick l r := by simp [pick, hl]
      rw [hp] at h
      simp only [ho] at hB1
      have hsk' : r ≠ [] → sk = true → r.getLast? = some z := fun hr e => by
        have := hsk e
        rw [List.getLast?_cons] at this
        cases hrl : r.getLast? with
        | none => simp at hrl; exact absurd hrl hr
        | some y => rw [hrl] at this; simpa using this
      have hone' : ∀ q ∈ r, q = z → ∃ r', r = r' ++ [z] ∧ z ∉ r' := fun q hq e => by
        obtain ⟨r', e1, e2⟩ := hone q (List.mem_cons_of_mem _ hq) e
        cases r' with
        | nil => simp at e1; rw [e1.2] at hq; cases hq
        | cons y r'' => simp at e1; exact ⟨r'', e1.2, fun h => e2 (List.mem_cons_of_mem _ h)⟩
      by_cases hq : isQ o.op = true
      · simp only [hq, if_true, Bool.and_eq_true] at hB1
        have hkz : k ≠ z := fun e => by
          subst e
          have := hzq hkl
          rw [List.getD_eq_getElem?_getD, hl] at this
          simp [hq] at this
        have hy : ∃ v, YV P l.toArray C o v a ∧ wpMix P l.toArray C sk K (pick l r) (a.put o.dst v) w := by
          unfold wpMix at h
          by_cases hw : Region.wanted o (yielded l.toArray a.tmps) = true
          · simp only [hw, hq, if_true] at h
            obtain ⟨v, h1, h2⟩ := h
            exact ⟨v, .inl ⟨hw, h1⟩, h2⟩
          · simp only [hw] at h
            exact ⟨undef, .inr ⟨by simpa using hw, rfl⟩, h⟩
        obtain ⟨v, hy, hK⟩ := hy
        have hsk2 : sk = true → r.getLast? = some z := fun e => by
          by_cases hr : r = []
          · subst hr; have := hsk e; simp at this; exact absurd this hkz
          · exact hsk' hr e
        have hkr : k ∈ Region.ready md l.toArray listed := by simpa using hB1.1
        refine wpAnyM_first ho (Region.noSelect_spec hs) (fun listed hcl2 hl2 hne => ?_) hkz r.length listed a w hC hcl (Region.free_spec ho hB1.2) hkr hy (wpAnyM_lex hs hz r _ _ _ hC (hcl.set hkr) hsk2 hone' hzq hB2 hK)
        by_cases hzl : z < l.length
        · exact sinkB_spec (hz hzl) (by simpa using hkl) hne hcl2 hl2
        · intro hz2
          obtain ⟨_, o2, ho2, _⟩ := mem_ready.1 hz2
          have : z < l.length := by
            have := (Array.getElem?_eq_some_iff.1 ho2).1
            simpa using this
          exact hzl this
      · simp only [hq] at hB1
        have hr : Region.ready md l.toArray listed = [k] := by simpa using hB1
        refine ⟨fun h0 => (by rw [hr] at h0; cases h0), fun i hi => ?_⟩
        rw [hr] at hi
        obtain rfl : i = k := by simpa using hi
        unfold mOp
        simp only [ho]
        unfold wpMix at h
        by_cases hw : Region.wanted o (yielded l.toArray a.tmps) = true
        · simp only [hw, hq, if_true] at h ⊢
          refine effUp_mono h fun v w' ⟨g1, g2⟩ => ?_
          by_cases hrn : r = []
          · subst hrn
            refine ⟨?_, ?_⟩
            · rcases g1 with ⟨e, _⟩ | g1
              · have := hsk e; simp at this; exact .inl this
              · exact .inr g1
            · exact ⟨by simpa [lexM] using hB2, g2⟩
          · have hpr : pick l r ≠ [] := by cases r with
              | nil => exact absurd rfl hrn
              | cons y r' => simp [pick]
            have hC' : C w' := by
              rcases g1 with ⟨_, e⟩ | g1
              · exact absurd e hpr
              · exact g1
            exact ⟨.inr hC', wpAnyM_lex hs hz r _ _ _ hC' (hcl.set (by rw [hr]; simp)) (hsk' hrn) hone' hzq hB2 g2⟩
        · simp only [hw] at h ⊢
          by_cases hrn : r = []
          · subst hrn; exact ⟨by simpa [lexM] using hB2, h⟩
          · exact wpAnyM_lex hs hz r _ _ _ hC (hcl.set (by rw [hr]; simp)) (hsk' hrn) hone' hzq hB2 h
def mixB (l : List Oper) (ord : List Nat) : Bool := Region.noSelect l.toArray && (ord.length == l.length) && lexM .any l.toArray ord (Array.replicate l.length false)
def mixSB (l : List Oper) (ord : List Nat) (z : Nat) : Bool := mixB l (ord ++ [z]) && sinkB .any l.toArray z && !ord.contains z && !isQ (l.getD z default).op
theorem wp_region_mixS {id : Nat} {Q : Exit → Act → World → Prop} {a : Act} {w : World} {l : List Oper} (ord : List Nat) (z : Nat) (hm : P.follows .mixedOrders = true) (hB : mixSB l ord z = true) (hC : C w.drew)
    (h : wpMix P l.toArray C true (Q .normal) (pick l (ord ++ [z])) a w.drew) : (Code.region id l.toArray true).wp P Q a w := by
  simp only [mixSB, mixB, Bool.and_eq_true, beq_iff_eq, Bool.not_eq_true'] at hB
  obtain ⟨⟨⟨⟨⟨h1, h2⟩, h3⟩, h4⟩, h5⟩, h6⟩ := hB
  have h5' : z ∉ ord := by intro e; rw [List.contains_iff_mem.2 e] at h5; cases h5
  refine wp_region_any hm (wpAny_of_M (C := C) (z := z) (K := Q .normal) (fun _ _ h => h) _ _ _ _ ?_)
  have := wpAnyM_lex (md := .any) (z := z) (sk := true) h1 (fun _ => h4) (ord ++ [z]) (Array.replicate l.length false) a w.drew hC (Clo.start _) (fun _ => by simp) (fun k hk e => ⟨ord, rfl, h5'⟩) (fun _ => h6) h3 h
  rw [h2] at this
  simpa using this
end
end Go.Proofs.YtgbgnipidakdhaaGreatDoor
