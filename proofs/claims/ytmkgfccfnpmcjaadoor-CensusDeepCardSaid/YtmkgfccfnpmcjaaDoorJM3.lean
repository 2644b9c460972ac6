/- A region that draws its order, in which two operations that make memory may come in either order: each order is walked. -/
import Derived.Test.YtmkgfccfnpmcjaaDoorJK
namespace Go.Proofs.YtmkgfccfnpmcjaaDoor
open Go.RowKit

section
variable {P : Program} {md : Region.Mode} {C : World → Prop}
def preB (md : Region.Mode) (ops : Array Oper) : List Nat → Array Bool → Bool
  | [], _ => true
  | k :: r, listed => (match ops[k]? with
     | some o => isQ o.op && (Region.ready md ops listed).contains k && Region.free md ops listed k
     | none => false) && preB md ops r (listed.setIfInBounds k true)
def setAll : List Nat → Array Bool → Array Bool
  | [], listed => listed
  | k :: r, listed => setAll r (listed.setIfInBounds k true)

theorem no_z {l : List Oper} {listed : Array Bool} : l.length ∉ Region.ready md l.toArray listed := by
  intro h
  obtain ⟨_, o2, ho2, _⟩ := mem_ready.1 h
  have := (Array.getElem?_eq_some_iff.1 ho2).1
  simp at this

theorem wpAnyM_pre {l : List Oper} {K K2 : Act → World → Prop} (hs : Region.noSelect l.toArray = true) (fuel : Nat) : ∀ (pre : List Nat) (listed : Array Bool) (a : Act) (w : World), C w → Clo md l.toArray listed → preB md l.toArray pre listed = true →
    wpMix P l.toArray C false K2 (pick l pre) a w → (∀ a', K2 a' w → Clo md l.toArray (setAll pre listed) → wpAnyM P md l.toArray C l.length K fuel (setAll pre listed) a' w) → wpAnyM P md l.toArray C l.length K (fuel + pre.length) listed a w
  | [], listed, a, w, hC, hcl, _, h, hk => hk a h hcl
  | k :: r, listed, a, w, hC, hcl, hB, h, hk => by
    simp only [preB, Bool.and_eq_true] at hB
    obtain ⟨hB1, hB2⟩ := hB
    cases ho : l.toArray[k]? with
    | none => simp [ho] at hB1
    | some o =>
      have hl : l[k]? = some o := by simpa using ho
      have hkl : k < l.length := (List.getElem?_eq_some_iff.1 hl).1
      have hp : pick l (k :: r) = o :: pick l r := by simp [pick, hl]
      rw [hp] at h
      simp only [ho, Bool.and_eq_true] at hB1
      obtain ⟨⟨hq, hkr'⟩, hfr⟩ := hB1
      have hy : ∃ v, YV P l.toArray C o v a ∧ wpMix P l.toArray C false K2 (pick l r) (a.put o.dst v) w := by
        unfold wpMix at h
        by_cases hw : Region.wanted o (yielded l.toArray a.tmps) = true
        · simp only [hw, hq, if_true] at h
          obtain ⟨v, h1, h2⟩ := h
          exact ⟨v, .inl ⟨hw, h1⟩, h2⟩
        · simp only [hw] at h
          exact ⟨undef, .inr ⟨by simpa using hw, rfl⟩, h⟩
      obtain ⟨v, hy, hK⟩ := hy
      have hkr : k ∈ Region.ready md l.toArray listed := by simpa using hkr'
      have hkz : k ≠ l.length := by omega
      exact wpAnyM_first ho (Region.noSelect_spec hs) (fun listed _ _ _ => no_z) hkz (fuel + r.length) listed a w hC hcl (Region.free_spec ho hfr) hkr hy (wpAnyM_pre hs fuel r _ _ _ hC (hcl.set hkr) hB2 hK hk)

theorem mOp_eff {l : List Oper} {K : Act → World → Prop} (hs : Region.noSelect l.toArray = true) {k : Nat} {r : List Nat} {listed : Array Bool} {a : Act} {w : World} (hC : C w) (hcl : Clo md l.toArray listed) (hkr : k ∈ Region.ready md l.toArray listed)
    (hq : (match l.toArray[k]? with | some o => isQ o.op | none => true) = false) (hB : lexM md l.toArray r (listed.setIfInBounds k true) = true) (hin : ∀ k ∈ r, k < l.length) (h : wpMix P l.toArray C false K (pick l (k :: r)) a w) :
    mOp P l.toArray C l.length k (wpAnyM P md l.toArray C l.length K r.length (listed.setIfInBounds k true)) a w := by
  cases ho : l.toArray[k]? with
  | none => simp [ho] at hq
  | some o =>
    simp only [ho] at hq
    have hl : l[k]? = some o := by simpa using ho
    have hp : pick l (k :: r) = o :: pick l r := by simp [pick, hl]
    rw [hp] at h
    have next : ∀ a' w', C w' → wpMix P l.toArray C false K (pick l r) a' w' → wpAnyM P md l.toArray C l.length K r.length (listed.setIfInBounds k true) a' w' := fun a' w' hC' h' =>
      wpAnyM_lex hs (fun h => absurd h (Nat.lt_irrefl _)) r _ a' w' hC' (hcl.set hkr) (fun e => by cases e) (fun q hq e => by have := hin q hq; omega) (fun h => absurd h (Nat.lt_irrefl _)) hB h'
    unfold mOp
    simp only [ho]
    unfold wpMix at h
    by_cases hw : Region.wanted o (yielded l.toArray a.tmps) = true
    · simp only [hw, hq, if_true] at h ⊢
      refine effUp_mono h fun v w' ⟨g1, g2⟩ => ?_
      have hC' : C w' := by
        rcases g1 with ⟨e, _⟩ | g1
        · cases e
        · exact g1
      exact ⟨.inr hC', next _ _ hC' g2⟩
    · simp only [hw] at h ⊢
      exact next _ _ hC h

def br2B (l : List Oper) (pre : List Nat) (i : Nat) (r1 : List Nat) (j : Nat) (r2 : List Nat) : Bool :=
  let s := setAll pre (Array.replicate l.length false)
  Region.noSelect l.toArray && preB .any l.toArray pre (Array.replicate l.length false) && (Region.ready .any l.toArray s == [i, j]) && !(match l.toArray[i]? with | some o => isQ o.op | none => true) && !(match l.toArray[j]? with | some o => isQ o.op | none => true)
    && lexM .any l.toArray r1 (s.setIfInBounds i true) && lexM .any l.toArray r2 (s.setIfInBounds j true) && (r1.length + 1 + pre.length == l.length) && (r2.length == r1.length) && r1.all (· < l.length) && r2.all (· < l.length)

theorem wp_region_mix2 {id : Nat} {Q : Exit → Act → World → Prop} {a : Act} {w : World} {l : List Oper} (pre : List Nat) (i : Nat) (r1 : List Nat) (j : Nat) (r2 : List Nat) (hm : P.follows .mixedOrders = true) (hB : br2B l pre i r1 j r2 = true) (hC : C w.drew)
    (h : wpMix P l.toArray C false (fun a w => wpMix P l.toArray C false (Q .normal) (pick l (i :: r1)) a w ∧ wpMix P l.toArray C false (Q .normal) (pick l (j :: r2)) a w) (pick l pre) a w.drew) : (Code.region id l.toArray true).wp P Q a w := by
  simp only [br2B, Bool.and_eq_true, beq_iff_eq, Bool.not_eq_true', List.all_eq_true, decide_eq_true_eq] at hB
  obtain ⟨⟨⟨⟨⟨⟨⟨⟨⟨⟨b1, b2⟩, b3⟩, b4⟩, b5⟩, b6⟩, b7⟩, b8⟩, b9⟩, b10⟩, b11⟩ := hB
  refine wp_region_any hm (wpAny_of_M (C := C) (z := l.length) (K := Q .normal) (fun _ _ h => h) _ _ _ _ ?_)
  have := wpAnyM_pre (md := .any) (C := C) (K := Q .normal) b1 (r1.length + 1) pre (Array.replicate l.length false) a w.drew hC (Clo.start _) b2 h (fun a' h' hcl => ?_)
  · rw [b8] at this; simpa using this
  · refine ⟨fun h0 => (by rw [b3] at h0; cases h0), fun k hk => ?_⟩
    have hk2 := hk
    rw [b3] at hk2
    rcases (show k = i ∨ k = j by simpa using hk2) with rfl | rfl
    · exact mOp_eff b1 hC hcl hk b4 b6 b10 h'.1
    · have := mOp_eff b1 hC hcl hk b5 b7 b11 h'.2
      rw [b9] at this; exact this
end

section
variable {G : Prg} {Q : Exit → Act → World → Prop} {n : Nat} {E : Env} {w : World}
theorem Cd.regionB {id : Nat} {l : List Oper} (pre : List Nat) (i : Nat) (r1 : List Nat) (j : Nat) (r2 : List Nat) (C : World → Prop) (hB : br2B l pre i r1 j r2 = true) (hC : C w.drew)
    (h : Ops G l.toArray (.mix false (fun _ a w => wpMix G.P l.toArray C false (Q .normal) (pick l (i :: r1)) a w ∧ wpMix G.P l.toArray C false (Q .normal) (pick l (j :: r2)) a w) C w.drew) n (pick l pre) E) : Cd G Q n (.region id l.toArray true) E w :=
  ⟨fun a ha => wp_region_mix2 pre i r1 j r2 G.mixed hB hC (h.h a ha)⟩
theorem Fin.both {ops : Array Oper} {C : World → Prop} {l1 l2 : List Oper} {e : Exit} (h1 : Ops G ops (.mix false Q C w) n l1 E) (h2 : Ops G ops (.mix false Q C w) n l2 E) :
    Fin (fun _ a w => wpMix G.P ops C false (Q .normal) l1 a w ∧ wpMix G.P ops C false (Q .normal) l2 a w) n e E w := ⟨fun a ha => ⟨h1.h a ha, h2.h a ha⟩⟩
end
end Go.Proofs.YtmkgfccfnpmcjaaDoor
/- A region that draws its order: first operations that only read, in one world; then others, one by one. A plain move may come late: it does not look at the world. -/
namespace Go.Proofs.YtmkgfccfnpmcjaaDoor
open Go.RowKit

section
variable {P : Program} {ops : Array Oper} {md : Region.Mode} {C : World → Prop}
def zOp (P : Program) (ops : Array Oper) (Z : Nat → Bool) (i : Nat) (K : Act → World → Prop) (a : Act) (w : World) : Prop :=
  match ops[i]? with
  | none => K a w
  | some o => if Region.wanted o (yielded ops a.tmps) then effUp P (fun v w' => (Z i = true ∨ w' = w) ∧ K (a.put o.dst v) w') ((execOp a.eval o).run P w) else K (a.put o.dst undef) w
def wpZ (P : Program) (md : Region.Mode) (ops : Array Oper) (Z : Nat → Bool) (K : Act → World → Prop) : Nat → Array Bool → Act → World → Prop
  | 0, listed, a, w => Region.ready md ops listed = [] ∧ K a w
  | fuel + 1, listed, a, w =>
    (Region.ready md ops listed = [] → K a w) ∧ ∀ i ∈ Region.ready md ops listed, zOp P ops Z i (wpZ P md ops Z K fuel (listed.setIfInBounds i true)) a w
theorem mOp_of_zOp {Z : Nat → Bool} {i : Nat} {a : Act} {w : World} {K K' : Act → World → Prop} (hk : ∀ a w, K a w → K' a w) (h : zOp P ops Z i K a w) : mOp P ops (fun _ => True) ops.size i K' a w := by
  unfold zOp at h
  unfold mOp
  cases ho : ops[i]? with
  | none => simp only [ho] at h ⊢; exact hk _ _ h
  | some o =>
    simp only [ho] at h ⊢
    split
    · rename_i hw; simp only [hw, if_true] at h; exact effUp_mono h fun v w ⟨_, h2⟩ => ⟨.inr trivial, hk _ _ h2⟩
    · rename_i hw; simp only [hw] at h; exact hk _ _ h
theorem wpAnyM_of_Z {Z : Nat → Bool} {K : Act → World → Prop} : ∀ (fuel : Nat) (listed : Array Bool) (a : Act) (w : World), wpZ P md ops Z K fuel listed a w → wpAnyM P md ops (fun _ => True) ops.size K fuel listed a w
  | 0, _, _, _, h => h
  | fuel + 1, _, _, _, h => ⟨h.1, fun i hi => mOp_of_zOp (fun a w hk => wpAnyM_of_Z fuel _ a w hk) (h.2 i hi)⟩
theorem YV.zOp {D : World → Prop} {Z : Nat → Bool} {i : Nat} {o : Oper} {v : Value} {a : Act} {w : World} (hi : ops[i]? = some o) (hy : YV P ops D o v a) (hD : D w) {K : Act → World → Prop} (h : K (a.put o.dst v) w) : zOp P ops Z i K a w := by
  unfold Go.Proofs.YtmkgfccfnpmcjaaDoor.zOp
  simp only [hi]
  rcases hy with ⟨hw, hv⟩ | ⟨hw, rfl⟩
  · simp only [hw, if_true, hv w hD, effUp]; exact ⟨.inr trivial, h⟩
  · simp only [hw, Bool.false_eq_true, if_false]; exact h
theorem zOp_mono {D : World → Prop} {Z : Nat → Bool} {i : Nat} {a : Act} {w : World} {K K' : Act → World → Prop} (hD : Z i = true → ∀ w', D w') (hw0 : D w) (hk : ∀ a w, D w → K a w → K' a w) (h : zOp P ops Z i K a w) : zOp P ops Z i K' a w := by
  unfold zOp at *
  cases ho : ops[i]? with
  | none => simp only [ho] at h ⊢; exact hk _ _ hw0 h
  | some o =>
    simp only [ho] at h ⊢
    split
    · rename_i hw; simp only [hw, if_true] at h; exact effUp_mono h fun v w' ⟨h1, h2⟩ => ⟨h1, hk _ _ (h1.elim (fun e => hD e w') (fun e => by rw [e]; exact hw0)) h2⟩
    · rename_i hw; simp only [hw] at h; exact hk _ _ hw0 h
theorem zOp_put {D : World → Prop} {Z : Nat → Bool} {j : Nat} {oi oj : Oper} {v : Value} (hj : ops[j]? = some oj) (hap : oi.apart ops oj = true) (hsi : ∀ cs b, oi.op ≠ .select cs b) (hsj : ∀ cs b, oj.op ≠ .select cs b) {K : Act → World → Prop} {a : Act} {w : World}
    (hy : YV P ops D oi v a) (h : zOp P ops Z j K (a.put oi.dst v) w) : zOp P ops Z j (fun a' w' => YV P ops D oi v a' ∧ K (a'.put oi.dst v) w') a w := by
  obtain ⟨h1, h2, h3⟩ := Oper.apart_spec hap
  have keep : ∀ u, YV P ops D oi v (a.put oj.dst u) := fun u => hy.of_same (execOp_put oi hsi a oj.dst u h3) (wanted_put oi a oj.dst u h3)
  unfold zOp at *
  simp only [hj] at *
  rw [wanted_put oj a oi.dst v h1, execOp_put oj hsj a oi.dst v h1] at h
  split
  · rename_i hw
    simp only [hw, if_true] at h
    refine effUp_mono h fun u w' ⟨g1, g2⟩ => ⟨g1, keep u, ?_⟩
    rw [← Act.put_comm a v u h2]; exact g2
  · rename_i hw
    simp only [hw] at h
    exact ⟨keep _, by rw [← Act.put_comm a v undef h2]; exact h⟩

theorem wpZ_first {D : World → Prop} {Z : Nat → Bool} {K : Act → World → Prop} {i : Nat} {oi : Oper} {v : Value} (hi : ops[i]? = some oi) (hsel : ∀ (j : Nat) (o : Oper) cs b, ops[j]? = some o → o.op ≠ .select cs b)
    (hD : ∀ listed : Array Bool, Clo md ops listed → listed.getD i true = false → ∀ j ∈ Region.ready md ops listed, Z j = true → ∀ w', D w') :
    ∀ (fuel : Nat) (listed : Array Bool) (a : Act) (w : World), D w → Clo md ops listed →
      (∀ j oj, ops[j]? = some oj → j ≠ i → listed.getD j true = false → (∀ e ∈ oj.after, Region.binds md e = true → e.on ≠ i) → oi.apart ops oj = true) →
      i ∈ Region.ready md ops listed → YV P ops D oi v a →
      wpZ P md ops Z K fuel (listed.setIfInBounds i true) (a.put oi.dst v) w → wpZ P md ops Z K (fuel + 1) listed a w := by
  intro fuel
  induction fuel with
  | zero =>
    intro listed a w hw _ _ hr hy H
    refine ⟨fun h => (by rw [h] at hr; cases hr), fun j hj => ?_⟩
    by_cases hji : j = i
    · subst hji; exact hy.zOp hi hw H
    · have := ready_mono hj hji
      rw [H.1] at this
      cases this
  | succ fuel ih =>
    intro listed a w hw hcl hfree hr hy H
    refine ⟨fun h => (by rw [h] at hr; cases hr), fun j hj => ?_⟩
    by_cases hji : j = i
    · subst hji; exact hy.zOp hi hw H
    · have h1 := H.2 j (ready_mono hj hji)
      obtain ⟨hjun, oj, hoj, hall⟩ := mem_ready.1 hj
      have hnot : ∀ e ∈ oj.after, Region.binds md e = true → e.on ≠ i := fun e he hb heq => by
        have h1 := hall e he hb
        have h0 := (mem_ready.1 hr).1
        rw [heq] at h1
        rcases Nat.lt_or_ge i listed.size with h' | h'
        · simp [h'] at h0 h1; rw [h0] at h1; cases h1
        · simp [Array.getElem?_eq_none h'] at h1
      have h2 := zOp_put hoj (hfree j oj hoj hji hjun hnot) (fun cs b => hsel i oi cs b hi) (fun cs b => hsel j oj cs b hoj) hy h1
      have hfree' : ∀ k ok, ops[k]? = some ok → k ≠ i → (listed.setIfInBounds j true).getD k true = false →
          (∀ e ∈ ok.after, Region.binds md e = true → e.on ≠ i) → oi.apart ops ok = true := fun k ok hk hki hun hno => by
        refine hfree k ok hk hki ?_ hno
        by_cases hjk : j = k
        · subst hjk; exact hjun
        · rw [getD_set_ne true hjk] at hun; exact hun
      refine zOp_mono (D := D) (hD listed hcl (mem_ready.1 hr).1 j hj) hw (fun a' w' hw' h3 => ih (listed.setIfInBounds j true) a' w' hw' (hcl.set hj) hfree' (ready_mono hr (Ne.symm hji)) h3.1 ?_) h2
      rw [Array.setIfInBounds_comm _ _ hji]
      exact h3.2

def isMv : Op → Bool
  | .move _ | .assign _ => true
  | _ => false
theorem YV.mv {o : Oper} {v : Value} {a : Act} {w0 : World} (hm : isMv o.op = true) (h : YV P ops (fun w => w = w0) o v a) : YV P ops (fun _ => True) o v a := by
  rcases h with ⟨h1, h2⟩ | h
  · refine .inl ⟨h1, fun w _ => ?_⟩
    have h3 := h2 w0 rfl
    obtain ⟨d, op, ty, pos, aft, gd⟩ := o
    cases op <;> simp only [isMv] at hm <;> try cases hm
    all_goals
      simp only [execOp] at h3 ⊢
      simp at h3 ⊢
      exact h3
  · exact .inr h

/-- each of l waits for k -/
def allAnc (md : Region.Mode) (ops : Array Oper) (l : List Nat) (k : Nat) : Bool := l.all fun z => ancB md ops 4 z k
def twoB (md : Region.Mode) (ops : Array Oper) (tail : List Nat) : List Nat → Array Bool → Bool
  | [], listed => lexT md ops tail listed
  | k :: r, listed => (match ops[k]? with
     | some o => isQ o.op && (Region.ready md ops listed).contains k && Region.free md ops listed k && (isMv o.op || allAnc md ops tail k) && !tail.contains k
     | none => false) && twoB md ops tail r (listed.setIfInBounds k true)
where lexT (md : Region.Mode) (ops : Array Oper) : List Nat → Array Bool → Bool
  | [], listed => (Region.ready md ops listed).isEmpty
  | k :: r, listed => (ops[k]?).isSome && (Region.ready md ops listed == [k]) && lexT md ops r (listed.setIfInBounds k true)

theorem wpZ_tail {l : List Oper} {Z : Nat → Bool} {K : Act → World → Prop} : ∀ (tail : List Nat) (listed : Array Bool) (a : Act) (w : World), (∀ k ∈ tail, Z k = true) → twoB.lexT md l.toArray tail listed = true → wpMix P l.toArray (fun _ => True) false K (pick l tail) a w → wpZ P md l.toArray Z K tail.length listed a w
  | [], listed, a, w, _, hB, h => ⟨by simpa [twoB.lexT] using hB, h⟩
  | k :: r, listed, a, w, hZ, hB, h => by
    simp only [twoB.lexT, Bool.and_eq_true, beq_iff_eq] at hB
    obtain ⟨⟨h1, h2⟩, h3⟩ := hB
    refine ⟨fun h0 => (by rw [h2] at h0; cases h0), fun i hi => ?_⟩
    rw [h2] at hi
    obtain rfl : i = k := by simpa using hi
    obtain ⟨o, ho⟩ := Option.isSome_iff_exists.1 h1
    have hl : l[i]? = some o := by simpa using ho
    have hp : pick l (i :: r) = o :: pick l r := by simp [pick, hl]
    rw [hp] at h
    have hz := hZ i List.mem_cons_self
    have next : ∀ a' w', wpMix P l.toArray (fun _ => True) false K (pick l r) a' w' → wpZ P md l.toArray Z K r.length (listed.setIfInBounds i true) a' w' := fun a' w' h' =>
      wpZ_tail r _ a' w' (fun k hk => hZ k (List.mem_cons_of_mem _ hk)) h3 h'
    unfold zOp
    simp only [ho]
    unfold wpMix at h
    by_cases hw : Region.wanted o (yielded l.toArray a.tmps) = true
    · simp only [hw, if_true] at h ⊢
      by_cases hq : isQ o.op = true
      · simp only [hq, if_true] at h
        obtain ⟨v, hv, hn⟩ := h
        simp only [hv w trivial, effUp]
        exact ⟨.inl hz, next _ _ hn⟩
      · simp only [hq] at h
        exact effUp_mono h fun v w' ⟨_, g2⟩ => ⟨.inl hz, next _ _ g2⟩
    · simp only [hw] at h ⊢
      exact next _ _ h

theorem wpZ_pre {l : List Oper} {w0 : World} {tail : List Nat} {K : Act → World → Prop} (hs : Region.noSelect l.toArray = true) : ∀ (pre : List Nat) (listed : Array Bool) (a : Act), Clo md l.toArray listed → twoB md l.toArray tail pre listed = true →
    wpMix P l.toArray (fun w => w = w0) false (fun a w => wpMix P l.toArray (fun _ => True) false K (pick l tail) a w) (pick l pre) a w0 → wpZ P md l.toArray (fun k => tail.contains k) K (tail.length + pre.length) listed a w0
  | [], listed, a, hcl, hB, h => wpZ_tail tail listed a w0 (fun k hk => by simpa using hk) hB h
  | k :: r, listed, a, hcl, hB, h => by
    simp only [twoB, Bool.and_eq_true] at hB
    obtain ⟨hB1, hB2⟩ := hB
    cases ho : l.toArray[k]? with
    | none => simp [ho] at hB1
    | some o =>
      have hl : l[k]? = some o := by simpa using ho
      have hp : pick l (k :: r) = o :: pick l r := by simp [pick, hl]
      rw [hp] at h
      simp only [ho, Bool.and_eq_true, Bool.or_eq_true, Bool.not_eq_true'] at hB1
      obtain ⟨⟨⟨⟨hq, hkr'⟩, hfr⟩, hanc⟩, hnt⟩ := hB1
      have hy : ∃ v, YV P l.toArray (fun w => w = w0) o v a ∧ wpMix P l.toArray (fun w => w = w0) false (fun a w => wpMix P l.toArray (fun _ => True) false K (pick l tail) a w) (pick l r) (a.put o.dst v) w0 := by
        unfold wpMix at h
        by_cases hw : Region.wanted o (yielded l.toArray a.tmps) = true
        · simp only [hw, hq, if_true] at h
          obtain ⟨v, h1, h2⟩ := h
          exact ⟨v, .inl ⟨hw, h1⟩, h2⟩
        · simp only [hw] at h
          exact ⟨undef, .inr ⟨by simpa using hw, rfl⟩, h⟩
      obtain ⟨v, hy, hK⟩ := hy
      have hkr : k ∈ Region.ready md l.toArray listed := by simpa using hkr'
      have H := wpZ_pre hs r _ _ (hcl.set hkr) hB2 hK
      rcases hanc with hmv | hanc
      · exact wpZ_first (D := fun _ => True) ho (Region.noSelect_spec hs) (fun _ _ _ _ _ _ _ => trivial) (tail.length + r.length) listed a w0 trivial hcl (Region.free_spec ho hfr) hkr (hy.mv hmv) H
      · refine wpZ_first (D := fun w => w = w0) ho (Region.noSelect_spec hs) (fun listed hcl2 hun j hj hz w' => ?_) (tail.length + r.length) listed a w0 rfl hcl (Region.free_spec ho hfr) hkr hy H
        have hjt : j ∈ tail := by simpa using hz
        obtain ⟨_, oj, hoj, hall⟩ := mem_ready.1 hj
        have h1 := List.all_eq_true.1 hanc j hjt
        have h2 := ancB_spec hcl2 4 j k (fun o2 ho2 e he hb => by rw [hoj] at ho2; cases ho2; exact hall e he hb) h1
        exfalso
        rcases Nat.lt_or_ge k listed.size with h' | h'
        · simp [h'] at hun h2; rw [hun] at h2; cases h2
        · simp [Array.getElem?_eq_none h'] at h2

theorem wp_region_two {id : Nat} {Q : Exit → Act → World → Prop} {a : Act} {w : World} {l : List Oper} (pre tail : List Nat) (hm : P.follows .mixedOrders = true)
    (hB : (Region.noSelect l.toArray && (tail.length + pre.length == l.length) && twoB .any l.toArray tail pre (Array.replicate l.length false)) = true)
    (h : wpMix P l.toArray (fun w' => w' = w.drew) false (fun a w => wpMix P l.toArray (fun _ => True) false (Q .normal) (pick l tail) a w) (pick l pre) a w.drew) : (Code.region id l.toArray true).wp P Q a w := by
  simp only [Bool.and_eq_true, beq_iff_eq] at hB
  obtain ⟨⟨b1, b2⟩, b3⟩ := hB
  refine wp_region_any hm (wpAny_of_M (C := fun _ => True) (z := l.toArray.size) (K := Q .normal) (fun _ _ h => h) _ _ _ _ (wpAnyM_of_Z _ _ _ _ (Z := fun k => tail.contains k) ?_))
  have := wpZ_pre (md := .any) b1 pre _ a (Clo.start _) b3 h
  rw [b2] at this
  simpa using this
end
section
variable {G : Prg} {Q : Exit → Act → World → Prop} {n : Nat} {E : Env} {w : World}
theorem Cd.region2 {id : Nat} {l : List Oper} (pre tail : List Nat) (hB : (Region.noSelect l.toArray && (tail.length + pre.length == l.length) && twoB .any l.toArray tail pre (Array.replicate l.length false)) = true)
    (h : Ops G l.toArray (.mix false (fun _ a w => wpMix G.P l.toArray (fun _ => True) false (Q .normal) (pick l tail) a w) (fun w' => w' = w.drew) w.drew) n (pick l pre) E) : Cd G Q n (.region id l.toArray true) E w :=
  ⟨fun a ha => wp_region_two pre tail G.mixed hB (h.h a ha)⟩
theorem Fin.tail {ops : Array Oper} {l1 : List Oper} {e : Exit} (h1 : Ops G ops (.mix false Q (fun _ => True) w) n l1 E) :
    Fin (fun _ a w => wpMix G.P ops (fun _ => True) false (Q .normal) l1 a w) n e E w := ⟨fun a ha => h1.h a ha⟩
end
end Go.Proofs.YtmkgfccfnpmcjaaDoor
