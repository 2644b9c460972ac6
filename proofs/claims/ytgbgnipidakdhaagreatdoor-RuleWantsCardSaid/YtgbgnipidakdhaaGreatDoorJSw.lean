/- The operand stack (layer 21): the methods that have no loop. -/
import Derived.Test.YtgbgnipidakdhaaGreatDoorJAu
import Derived.Test.YtgbgnipidakdhaaGreatDoorJAw
import Derived.Test.YtgbgnipidakdhaaGreatDoorJSk
import Derived.Test.YtgbgnipidakdhaaGreatDoorJU
import Derived.Test.YtgbgnipidakdhaaGreatDoorJSr
import Derived.OrdersIn
import Derived.Test.YtgbgnipidakdhaaGreatDoorJIn
namespace Go.Proofs.YtgbgnipidakdhaaGreatDoor
open Go.RowKit
set_option maxRecDepth 100000
abbrev TStk : Nat := 145
abbrev TPrt : Nat := 184
abbrev TVl : Nat := 37
def partC (p : Int × Bool) : List Value := [.int .i64 p.1, .bool p.2]
def partsC (l : List (Int × Bool)) : List Value := l.flatMap partC
def valsC (l : List Int) : List Value := l.map (Value.int .i64)
def overB (s : Stk) : Bool := decide (256 < s.most)
def stkM (sp : Nat) (s : Stk) (x : Value × Value) : List Res := [.blk sp [x.1, x.2, .bool (overB s)] TStk, .own 0 TVl 1 x.1 s.ts.length (valsC s.ts), .own 0 TPrt 2 x.2 s.ps.length (partsC s.ps)]
theorem own_take {w : World} {B T s n c : Nat} {p : Option Addr} {xs : List Value} (h : w.ownsRow B T s (.slice p n c) n xs) {k : Nat} (hk : k ≤ n) : w.ownsRow B T s (.slice p k c) k (xs.take (k * s)) := by
  obtain ⟨h1, h2⟩ := h
  have hm : k * s ≤ n * s := Nat.mul_le_mul_right s hk
  refine ⟨by rw [List.length_take]; omega, ?_⟩
  rcases h2 with ⟨e, h0⟩ | ⟨g, cap, cur, e, hg, hh, hn, hc, hs, ht⟩
  · cases e
    have : k = 0 := by omega
    subst this
    exact .inl ⟨rfl, rfl⟩
  · cases e
    refine .inr ⟨g, c, cur, rfl, hg, hh, by omega, hc, hs, ?_⟩
    rw [← ht, List.take_take, Nat.min_eq_left hm]
theorem Ok.ownTake {M M' : List Res} {R : List (World → Prop)} {w : World} {B T s n c : Nat} {p : Option Addr} {xs : List Value} (h : Ok M R w) (k : Nat) (hk : k ≤ n) (hM : Up (.own B T s (.slice p n c) n xs) (.own B T s (.slice p k c) k (xs.take (k * s))) M M') : Ok M' R w :=
  h.upd hM (Chg.refl _ w) (own_take (h.m _ hM.mem).1 hk) (fun i hi => by
    have hi' : (Value.slice p n c).ownBlock = some i := by cases p <;> exact hi
    exact ⟨(h.m _ hM.mem).2 i hi', fun _ => hi'⟩)
section
variable {ops : Array Oper} {Q : Exit → Act → World → Prop} {n : Nat} {E : Env} {M M' : List Res} {R R' : List (World → Prop)} {v : Value} {x y z : Operand} {t t2 : TypeId} {C : World → Prop}
theorem Yl.neqPN {ti : TypeId} {ad : Addr} (ht : G.P.underlying t = some (.pointer ti)) (hx : ev E x = some (.pointer (some ad))) (hy : ev E y = some (.pointer none)) : Yl G n (.binOp .neq t x y t2) E C (.bool true) :=
  ⟨fun w _ a ha d ty pos aft gd => by
    have h2 : ∀ m, (Op.equalIn (m + 1) t (.pointer (some ad)) (.pointer none)).run G.P w = .ok false w := by
      intro m; simp [Op.equalIn, run_underlying ht]
    have h3 : (Op.equal t (.pointer (some ad)) (.pointer none)).run G.P w = .ok false w := h2 9999
    simp [execOp, ha.eval hx, ha.eval hy, eqGuard, binOp, h3]⟩
theorem CdH.ownTake {B T s m c : Nat} {p : Option Addr} {xs : List Value} {cd : Code} (k : Nat) (hM : Up (.own B T s (.slice p m c) m xs) (.own B T s (.slice p k c) k (xs.take (k * s))) M M') (hk : k ≤ m) (h : CdH Q n cd E M' R) : CdH Q n cd E M R := ⟨fun w hw => h.h w (hw.ownTake k hk hM)⟩
theorem FinH.ownTake {B T s m c : Nat} {p : Option Addr} {xs : List Value} {e : Exit} (k : Nat) (hM : Up (.own B T s (.slice p m c) m xs) (.own B T s (.slice p k c) k (xs.take (k * s))) M M') (hk : k ≤ m) (h : FinH Q n e E M' R) : FinH Q n e E M R := ⟨fun w hw => h.h w (hw.ownTake k hk hM)⟩
end
theorem overB_push (s : Stk) (l : List Int) : overB (pushK s l) = (overB s || decide (256 < ((s.ts.length + l.length : Nat) : Int))) := by
  unfold overB pushK
  rw [Bool.eq_iff_iff]
  simp only [Bool.or_eq_true, decide_eq_true_eq]; omega
theorem Ok.c1 {M M' : List Res} {R : List (World → Prop)} {w : World} {b T j : Nat} {cs : List Value} {v : Value} (h : Ok M R w) (hM : Up (.blk b cs T) (.blk b cs T) M M') (hj : cs[j]? = some v) : w.cell? ⟨b, j, none⟩ = some v := (show Blk w b cs T from (h.m _ hM.mem).1).cell hj
theorem stkC (sp : Nat) (s : Stk) (x : Value × Value) {M : List Res} {R : List (World → Prop)} {w : World} (h : Ok M R w) (hm : (stkM sp s x).Sublist M) : (∃ p c, x.1 = .slice p s.ts.length c ∧ s.ts.length ≤ c ∧ (0 < s.ts.length → ∃ g, p = some ⟨g, 0, none⟩)) ∧ (∃ p c, x.2 = .slice p s.ps.length c ∧ (0 < s.ps.length → ∃ g, p = some ⟨g, 0, none⟩)) ∧ s.ts.length ≤ 9223372036854775807 ∧ s.ps.length ≤ 9223372036854775807 := by
  have h1 : w.ownsRow 0 TVl 1 x.1 s.ts.length (valsC s.ts) := (h.m (.own 0 TVl 1 x.1 s.ts.length (valsC s.ts)) (hm.subset (by simp [stkM]))).1
  have h2 : w.ownsRow 0 TPrt 2 x.2 s.ps.length (partsC s.ps) := (h.m (.own 0 TPrt 2 x.2 s.ps.length (partsC s.ps)) (hm.subset (by simp [stkM]))).1
  obtain ⟨p, c, e, hn, hc, hg⟩ := own_slice h1
  obtain ⟨p', c', e', hn', hc', hg'⟩ := own_slice h2
  unfold maxLen at hc hc'
  exact ⟨⟨p, c, e, hn, fun h => by obtain ⟨g, e, _⟩ := hg h; exact ⟨g, e⟩⟩, ⟨p', c', e', fun h => by obtain ⟨g, e, _⟩ := hg' h; exact ⟨g, e⟩⟩, by omega, by omega⟩
theorem stack_made (sp n c : Nat) (p : Option Addr) (w : World) (h1 : w.cell? ⟨sp, 1, none⟩ = some (.slice p n c)) (h0 : 0 < n) : Calls G.P 65 #[.pointer (some ⟨sp, 0, none⟩)] w fun e w' => e = .returned (.bool true) ∧ Ext w w' := by
  refine enterH (l := [_]) Tryz.func65 rfl Tryz.ntmps65 rfl (Ok.start w) ?_
  repeat' (first | refine wau ?_ | (refine OpsH.isBin ?_; refine OpsH.y_ (Yl.neqPN Tryz.underlying62 rfl rfl) rfl ?_) | (refine wspl ?_ ?_ <;> intro hc_))
  all_goals first | exact FinH.ret1 rfl rfl fun w' hw' => ⟨by rfl, hw'.at⟩ | exact FinH.ret1 rfl rfl fun w' hw' => ⟨by simp; omega, hw'.at⟩
theorem stack_top (sp n c g : Nat) (w : World) (h1 : w.cell? ⟨sp, 1, none⟩ = some (.slice (some ⟨g, 0, none⟩) n c)) (h0 : 0 < n) (hn : n ≤ 9223372036854775807) : Calls G.P 117 #[.pointer (some ⟨sp, 0, none⟩)] w fun e w' => e = .returned (.pointer (some ⟨g, (n - 1) * 2, none⟩)) ∧ Ext w w' := by
  obtain ⟨k, rfl⟩ : ∃ k, n = k + 1 := ⟨n - 1, by omega⟩
  rw [Nat.add_sub_cancel]
  refine enterH (l := [_]) Tryz.func117 rfl Tryz.ntmps117 rfl (Ok.start w) ?_
  repeat' (first | refine wau ?_ | (refine Ops.y (Yl.idx (i := k) rfl rfl rfl rfl rfl (by omega) (by omega)) rfl ?_) | (refine wspl ?_ ?_ <;> intro hc_))
  all_goals exact FinH.ret1 rfl rfl fun w' hw' => ⟨by simp, hw'.at⟩
theorem parts_at {l : List (Int × Bool)} {i : Nat} (h : i < l.length) : (partsC l)[i * 2]? = some (.int .i64 (ix l i).1) ∧ (partsC l)[i * 2 + 1]? = some (.bool (ix l i).2) := by
  have h1 := flatMap_get partC (s := 2) (fun _ => rfl) l i 0 h (by omega)
  have h2 := flatMap_get partC (s := 2) (fun _ => rfl) l i 1 h (by omega)
  exact ⟨h1, h2⟩
theorem vals_at {l : List Int} {i : Nat} (h : i < l.length) : (valsC l)[0 + i]? = some (.int .i64 (ix l i)) := by
  unfold valsC; rw [Nat.zero_add, List.getElem?_map, ix_some h]; rfl
theorem MutPost.ofC {β : Type} {M0 M : List Res} {R : List (World → Prop)} {w w' : World} {tf : β → Value} {φ : β → Prop} {M1 : β → List Res} (x : β) (hφ : φ x) (h : Ok M R w') (hM : (M1 x).Sublist M) (hR : Chg (Mb M0) w ∈ R) : MutPost M0 w tf φ M1 (.returned (tf x)) w' :=
  ⟨x, rfl, hφ, h.sub hM (fun p hp => absurd hp (by simp)), h.get hR, fun k ⟨q, hq, hk⟩ hlt => h.origin hR k ⟨q, hM.subset hq, hk⟩ hlt⟩
theorem stkM_eq {sp T2 T3 : Nat} {s : Stk} {tv pv : Value} {ov : Bool} {n m : Nat} {cs ds : List Value} {M Mr : List Res} (hM : M = .blk sp [tv, pv, .bool ov] TStk :: .own 0 T2 1 tv n cs :: .own 0 T3 2 pv m ds :: Mr) (hT : T2 = TVl) (hT' : T3 = TPrt) (h1 : n = s.ts.length) (h2 : cs = valsC s.ts) (h3 : m = s.ps.length) (h4 : ds = partsC s.ps) (h5 : ov = overB s) : (stkM sp s (tv, pv)).Sublist M := by
  subst hT hT' h1 h2 h3 h4 h5 hM
  exact (List.nil_sublist Mr).cons_cons _ |>.cons_cons _ |>.cons_cons _
theorem ints_rdR {D : Nat → Prop} {w : World} {p : Option Addr} {n c : Nat} {xs : List Int} {M : List Res} {R : List (World → Prop)} (h : IntsR D w (.slice p n c) xs) (hR : (fun w => IntsR D w (.slice p n c) xs) ∈ R) : xs.length = 0 ∨ ∃ bk o, p = some ⟨bk, o, none⟩ ∧ ∀ w', Ok M R w' → ∀ j u, (xs.map (Value.int .i64))[j]? = some u → w'.cell? ⟨bk, o + j, none⟩ = some u := by
  obtain ⟨p', c', e, hl, h⟩ := h
  cases e
  rcases h with h | ⟨b, o, rfl, hF, h⟩
  · exact .inl (by rw [h]; rfl)
  · refine .inr ⟨b, o, rfl, fun w' hw' j u hj => ?_⟩
    have hI : IntsR D w' (.slice (some ⟨b, o, none⟩) xs.length c) xs := hw'.get (p := fun w => IntsR D w (.slice (some ⟨b, o, none⟩) xs.length c) xs) hR
    have hj' : j < xs.length := by have := (List.getElem?_eq_some_iff.1 hj).1; simpa using this
    obtain ⟨b', o', e, -, hc⟩ := hI.at hj'
    cases e
    rw [hc j hj', ← hj, List.getElem?_map, ix_some hj']; rfl
theorem MutPost.ofS {β : Type} {M0 M : List Res} {R : List (World → Prop)} {w w' : World} {S0 : Nat → Prop} {tf : β → Value} {φ : β → Prop} {M1 : β → List Res} (x : β) (hφ : φ x) (hS : Mb M0 = S0) (h : Ok M R w') (hM : (M1 x).Sublist M) (hR : Chg S0 w ∈ R) : MutPost M0 w tf φ M1 (.returned (tf x)) w' := by
  subst hS; exact MutPost.ofC x hφ h hM hR
def StkPost (sp : Nat) (s : Stk) (x : Value × Value) (v : Value) (s' : Stk) (w : World) : Ending → World → Prop := MutPost (stkM sp s x) w (fun _ : Value × Value => v) (fun _ => True) (stkM sp s')
set_option maxHeartbeats 4000000 in
theorem stack_Push (D : Nat → Prop) (sp : Nat) (s : Stk) (x : Value × Value) (v : Value) (l : List Int) (w : World) (hw : Ok (stkM sp s x) [fun w => IntsR D w v l] w) (hp : 0 < s.ps.length) (hb : (s.ts.length + l.length) * 8 ≤ 140737488355328) :
    Calls G.P 24 #[.pointer (some ⟨sp, 0, none⟩), v] w (StkPost sp s x (.tuple #[]) (pushK s l) w) := by
  obtain ⟨v1, v2⟩ := x; obtain ⟨⟨p1, c1, e1, hcap, hg1⟩, ⟨p2, c2, e2, hg2⟩, hn1, hn2⟩ := stkC sp s (v1, v2) hw (List.Sublist.refl _); dsimp only at e1 e2; subst e1; subst e2; obtain ⟨g2, rfl⟩ := hg2 hp
  have hI : IntsR D w v l := hw.get (p := fun w => IntsR D w v l) (by simp)
  obtain ⟨q, d, rfl, hl⟩ := hI.slice
  refine enterH (l := [_, _]) Tryz.func24 rfl Tryz.ntmps24 rfl (Ok.startM hw) ?_
  unfold StkPost
  generalize hS : Mb (stkM sp s (.slice p1 s.ts.length c1, .slice (some ⟨g2, 0, none⟩) s.ps.length c2)) = S0; unfold stkM; dsimp only
  repeat' (first | refine wau ?_ | (refine OpsH.isCall (f := 65) ?_; refine OpsH.call1 rfl rfl rfl (fun w' hw' => stack_made sp s.ps.length c2 (some ⟨g2, 0, none⟩) w' (hw'.c1 wup (by rfl)) hp) ?_) | (refine wspl ?_ ?_ <;> intro hc_))
  refine OpsH.he (HE.appRB (valsC l) rfl rfl (fun _ => wup) (ints_rdR hI wmem) (by simp [valsC]) rfl rfl rfl (by rfl) (by rfl) (by rfl) (ints_one _) hb (by omega) (fun _ _ => Nat.zero_le _)) rfl ?_
  intro v1 _
  refine OpsH.pure (φ := ∃ p c, v1 = .slice p (s.ts.length + l.length) c) (fun w' hw' => ?_) ?_
  · obtain ⟨p, c, e, _⟩ := own_slice (hw'.own (v := v1)); exact ⟨p, c, e⟩
  rintro ⟨p3, c3, rfl⟩
  repeat' (first | refine wau ?_ | (refine wspl ?_ ?_ <;> intro hc_))
  all_goals exact FinH.end0 rfl fun w' hw' => MutPost.ofS (x := (_, _)) trivial hS hw' (stkM_eq rfl rfl rfl (by simp [pushK]) (by simp [pushK, valsC]) rfl rfl (by rw [overB_push]; simp [overB, hc_])) wmem
section
variable {ops : Array Oper} {md : Region.Mode} {C : World → Prop} {ro : Option Nat} {m : Nat}
theorem wpOpIn_of_qOp {i : Nat} {a : Act} {K : Act → Prop} {K' : Act → World → Prop} {Q' : Exit → Act → World → Prop} {w : World} (hn : ∀ (j : Nat) (o : Oper), ops[j]? = some o → nodef o.op = true) (hC : C w) (h : ∀ a w', C w' → K a → K' a w') (hh : qOp G.P ops C i K a) : wpOpIn (FW ro) m G.P ops Q' i K' a w := by
  unfold qOp at hh
  unfold wpOpIn
  split
  · rename_i ho; simp only [ho] at hh; exact h _ _ hC hh
  · rename_i o ho
    simp only [ho] at hh
    split
    · rename_i hw
      simp only [hw, if_true] at hh
      obtain ⟨v, h1, h2⟩ := hh
      have h3 := h1 w hC
      have hs : Oper.semAt (FW ro).round a.eval o = execOp a.eval o := Oper.semAt_eq _ _ _ (by
        have := hn i o ho
        rintro c e; rw [e] at this; simp [nodef] at this)
      refine ⟨fun _ _ => trivial, ?_⟩
      rw [hs]
      unfold Oper.quietAt at h3
      generalize (execOp a.eval o).run G.P w = r at *
      cases r with
      | ok n w' =>
        cases n <;> simp only [Oper.quietUpon] at h3 <;> simp only [Oper.uponIn]
        case value u =>
          obtain ⟨e1, e2⟩ := h3
          rw [e1, e2]
          exact h _ _ hC h2
        case skip =>
          obtain ⟨e1, e2⟩ := h3
          rw [e1, ← e2]
          exact h _ _ hC h2
        case enter f args =>
          obtain ⟨e1, hc⟩ := h3
          rw [e1]
          exact ⟨fun e => (by cases e), (FW_calls hc).mono fun e w'' ⟨he, hw''⟩ => by subst he; exact h _ _ hw'' h2⟩
      | halt x w' => simp only [Oper.quietUpon] at h3
    · rename_i hw; simp only [hw] at hh; exact ⟨fun _ _ => trivial, h _ _ hC hh⟩
theorem wpAnyIn_of_quiet {Q : Act → Prop} {Q' : Exit → Act → World → Prop} (hn : ∀ (j : Nat) (o : Oper), ops[j]? = some o → nodef o.op = true) (hQ : ∀ a w, C w → Q a → Q' .normal a w) : ∀ (fuel : Nat) (listed : Array Bool) (a : Act) (w : World), C w →
    wpAnyQ G.P md ops C Q fuel listed a → wpAnyIn (FW ro) m G.P md ops Q' fuel listed a w
  | 0, _, _, _, hw, h => ⟨h.1, hQ _ _ hw h.2⟩
  | fuel + 1, _, _, _, hw, h => ⟨fun h0 => hQ _ _ hw (h.1 h0), fun i hi => wpOpIn_of_qOp hn hw (fun a' w' hw' => wpAnyIn_of_quiet hn hQ fuel _ a' w' hw') (h.2 i hi)⟩
theorem wpIn_region_quiet {id : Nat} {Q : Exit → Act → World → Prop} {a : Act} {w : World} (hn : ∀ (j : Nat) (o : Oper), ops[j]? = some o → nodef o.op = true) (hB : Region.lexB .any ops = true) (hC : C { w with drawn := w.drawn + 1 })
    (h : wpQuiet G.P ops C (fun a' => ∀ w', C w' → Q .normal a' w') ops.toList a) : (Code.region id ops true).wpIn (FW ro) m G.P Q a w := by
  simp only [Region.lexB, Bool.and_eq_true] at hB
  refine wpIn_region_any G.mixed (wpAnyIn_of_quiet (Q := fun a' => ∀ w', C w' → Q .normal a' w') hn (fun _ w' hw' h => h w' hw') _ _ _ _ hC ?_)
  have := wpAnyQ_lex (C := C) (md := .any) hB.1 ops.toList 0 (Array.replicate ops.size false) a (by simp) (by simpa using hB.2) h
  simpa using this
end
theorem wpListIn_of_quiet {ops : Array Oper} {C : World → Prop} {ro : Option Nat} {m : Nat} {Q : Act → Prop} {Q' : Exit → Act → World → Prop} (hQ : ∀ a w, C w → Q a → Q' .normal a w) : ∀ (l : List Oper), (∀ o, o ∈ l → nodef o.op = true) → ∀ (a : Act) (w : World), C w →
    wpQuiet G.P ops C Q l a → wpListIn (FW ro) m G.P ops Q' l a w
  | [], _, _, _, hw, h => hQ _ _ hw h
  | o :: rest, hn, a, w, hC, hh => by
    have ih := wpListIn_of_quiet (ops := ops) (ro := ro) (m := m) hQ rest (fun o h => hn o (by simp [h]))
    unfold wpListIn
    simp only [wpQuiet] at hh
    split
    · rename_i hw
      simp only [hw, if_true] at hh
      obtain ⟨v, h1, h2⟩ := hh
      have h3 := h1 w hC
      have hs : Oper.semAt (FW ro).round a.eval o = execOp a.eval o := Oper.semAt_eq _ _ _ (by
        have := hn o (by simp)
        rintro c e; rw [e] at this; simp [nodef] at this)
      refine ⟨fun _ _ => trivial, ?_⟩
      rw [hs]
      unfold Oper.quietAt at h3
      generalize (execOp a.eval o).run G.P w = r at *
      cases r with
      | ok n w' =>
        cases n <;> simp only [Oper.quietUpon] at h3 <;> simp only [Oper.uponIn]
        case value u =>
          obtain ⟨e1, e2⟩ := h3
          rw [e1, e2]
          exact ih _ _ hC h2
        case skip =>
          obtain ⟨e1, e2⟩ := h3
          rw [e1, ← e2]
          exact ih _ _ hC h2
        case enter f args =>
          obtain ⟨e1, hc⟩ := h3
          rw [e1]
          exact ⟨fun e => (by cases e), (FW_calls hc).mono fun e w'' ⟨he, hw''⟩ => by subst he; exact ih _ _ hw'' h2⟩
      | halt x w' => simp only [Oper.quietUpon] at h3
    · rename_i hw; simp only [hw] at hh; exact ⟨fun _ _ => trivial, ih _ _ hC hh⟩
section
variable {ro : Option Nat} {D : List Deferred} {ops : Array Oper} {Q : Exit → Act → World → Prop} {n : Nat} {E : Env} {M M' : List Res} {R R' : List (World → Prop)}
theorem CdN.regionQ {id : Nat} {l : List Oper} (hn : (l.all fun o => nodef o.op) = true) (hB : Region.lexB .any l.toArray = true) (h : Ops G l.toArray (.quiet (fun a' => ∀ w', Ok M R w' → Q .normal a' w') (Ok M R)) n l E) : CdN ro [] Q n (.region id l.toArray true) E M R :=
  ⟨fun w hw => ⟨fun a ha => wpIn_region_quiet (C := Ok M R) (fun j o ho => by
    have hm : o ∈ l := List.mem_of_getElem? (by simpa using ho)
    exact List.all_eq_true.1 hn o hm) hB hw.drew (by have := h.h a ha.toAg; simp only [Mode.run] at this; simpa using this)⟩⟩
theorem CdN.regionL {id : Nat} {l : List Oper} (hn : (l.all fun o => nodef o.op) = true) (h : Ops G l.toArray (.quiet (fun a' => ∀ w', Ok M R w' → Q .normal a' w') (Ok M R)) n l E) : CdN ro [] Q n (.region id l.toArray false) E M R :=
  ⟨fun w hw => ⟨fun a ha => wpIn_region_lit (wpListIn_of_quiet (C := Ok M R) (Q := fun a' => ∀ w', Ok M R w' → Q .normal a' w') (fun _ w' hw' h => h w' hw') l (fun o ho => List.all_eq_true.1 hn o ho) a w hw (by have := h.h a ha.toAg; simp only [Mode.run] at this; simpa using this))⟩⟩
theorem FinH.toN {e : Exit} (h : FinN [] Q n e E M R) : FinH Q n e E M R := ⟨fun w hw => ⟨fun a ha => (h.h w hw).h a (AgD.of ha)⟩⟩
theorem CdN.regionQq {id : Nat} {l : List Oper} (_ : (l.all fun o => isQ o.op) = true) (hn : (l.all fun o => nodef o.op) = true) (hB : Region.lexB .any l.toArray = true) (h : Ops G l.toArray (.quiet (fun a' => ∀ w', Ok M R w' → Q .normal a' w') (Ok M R)) n l E) : CdN ro [] Q n (.region id l.toArray true) E M R := CdN.regionQ hn hB h
theorem CdN.regionLq {id : Nat} {l : List Oper} (_ : (l.all fun o => isQ o.op) = true) (hn : (l.all fun o => nodef o.op) = true) (h : Ops G l.toArray (.quiet (fun a' => ∀ w', Ok M R w' → Q .normal a' w') (Ok M R)) n l E) : CdN ro [] Q n (.region id l.toArray false) E M R := CdN.regionL hn h
theorem wgm {g g' : Prop} (h : g') (hw : Hold g' → g := by (intro hk_; (repeat (first | (refine FinH.is ?_; refine FinH.toN ?_) | refine wq1q ?_ | (refine OpsN.is ?_; (first | refine OpsN.nil ?_ | refine OpsN.y_ (Yl.move rfl) rfl ?_ | refine OpsN.y_ (Yl.assign rfl) rfl ?_ | (refine OpsN.isBin ?_; (first | (refine OpsN.isBin (bo := .lss) ?_; (first | refine OpsN.y_ (Yl.lssT rfl rfl (by omega)) rfl ?_ | refine OpsN.y_ (Yl.lssF rfl rfl (by omega)) rfl ?_)) | (refine OpsN.isBin (bo := .eql) ?_; (first | refine OpsN.y_ (Yl.eqlT rfl rfl (by omega)) rfl ?_ | refine OpsN.y_ (Yl.eqlF rfl rfl (by omega)) rfl ?_)) | (refine OpsN.isBin (bo := .neq) ?_; (first | refine OpsN.y_ (Yl.neqT rfl rfl (by omega)) rfl ?_ | refine OpsN.y_ (Yl.neqF rfl rfl (by omega)) rfl ?_)) | (refine OpsN.isBin (bo := .leq) ?_; (first | refine OpsN.y_ (Yl.leqT rfl rfl (by omega)) rfl ?_ | refine OpsN.y_ (Yl.leqF rfl rfl (by omega)) rfl ?_)) | (refine OpsN.isBin (bo := .gtr) ?_; (first | refine OpsN.y_ (Yl.gtrT rfl rfl (by omega)) rfl ?_ | refine OpsN.y_ (Yl.gtrF rfl rfl (by omega)) rfl ?_)) | (refine OpsN.isBin (bo := .geq) ?_; (first | refine OpsN.y_ (Yl.geqT rfl rfl (by omega)) rfl ?_ | refine OpsN.y_ (Yl.geqF rfl rfl (by omega)) rfl ?_)) | refine OpsN.y_ (Yl.add rfl rfl (by omega)) rfl ?_ | refine OpsN.y_ (Yl.sub rfl rfl (by omega)) rfl ?_ | refine OpsN.y_ (Yl.shr1 rfl rfl) rfl ?_ | refine OpsN.y_ (Yl.eqNil rfl rfl rfl rfl) rfl ?_ | refine OpsN.y_ (Yl.neqb Tryz.underlying4 rfl rfl) rfl ?_ | refine OpsN.y_ (Yl.eqlb Tryz.underlying4 rfl rfl) rfl ?_ | refine OpsN.y_ (Yl.eqS rfl rfl) rfl ?_ | refine OpsN.y_ (Yl.neqS rfl rfl) rfl ?_ | refine OpsN.y_ (Yl.addS rfl rfl (by omega)) rfl ?_ | refine OpsN.y_ (Yl.addw rfl rfl) rfl ?_ | refine OpsN.y_ (Yl.mulw rfl rfl) rfl ?_)) | (refine OpsN.isField ?_; (first | refine OpsN.y_ (Yl.fieldZ rfl rfl rfl) rfl ?_ | refine OpsN.y_ (Yl.field0 rfl rfl rfl) rfl ?_ | refine OpsN.y_ (Yl.field rfl rfl rfl) rfl ?_)) | (refine OpsN.isLoad ?_; (first | refine OpsN.y_ (Yl.loadH rfl rfl rfl (by intro w_; repeat (first | ((with_reducible apply Ld.blk); rfl) | (with_reducible exact Ld.cl) | ((with_reducible apply Ld.ent); with_reducible assumption) | (exact Ld.cs 0 rfl rfl) | (exact Ld.cs _ rfl rfl) | apply Ld.tailM | apply Ld.tailR))) rfl ?_ | refine OpsN.y_ (Yl.loadB rfl rfl rfl rfl (by repeat (first | with_reducible exact Up.head | apply Up.tail))) rfl ?_ | refine OpsN.y_ (Yl.loadP rfl rfl rfl rfl (by repeat (first | with_reducible exact Up.head | apply Up.tail)) (by repeat (first | exact SubT.zero | apply SubT.succ | apply SubC.here | apply SubC.drop))) rfl ?_ | refine OpsN.y_ (Yl.loadC rfl rfl rfl (by repeat (first | with_reducible exact List.mem_cons_self | apply List.mem_cons_of_mem)) rfl) rfl ?_)) | (refine OpsN.isIdx ?_; (first | refine OpsN.y_ (Yl.idx1 rfl rfl rfl rfl rfl rfl (by omega)) rfl ?_ | refine OpsN.y_ (Yl.idx rfl rfl rfl rfl rfl rfl (by omega)) rfl ?_)) | refine OpsN.y_ (Yl.len rfl rfl rfl) rfl ?_ | refine OpsN.y_ (Yl.extract rfl rfl) rfl ?_ | refine OpsN.y_ (Yl.pickT rfl rfl) rfl ?_ | refine OpsN.y_ (Yl.pickF rfl rfl) rfl ?_ | refine OpsN.y_ (Yl.nilCheck rfl) rfl ?_ | refine OpsN.y_ (Yl.not rfl) rfl ?_ | refine OpsN.y_ (Yl.convI rfl rfl rfl rfl rfl (by omega)) rfl ?_ | refine OpsN.y_ (Yl.convU rfl rfl rfl rfl rfl (by omega)) rfl ?_ | refine OpsN.y_ (Yl.makeFunc rfl rfl) rfl ?_ | refine OpsN.y_ (Yl.build0 rfl rfl) rfl ?_ | refine OpsN.y_ (Yl.buildC rfl rfl rfl (by repeat (first | exact Cells.nil | exact App.nil | (with_reducible apply Cells.agg) | apply Cells.one | apply App.cons)) (by rfl)) rfl ?_ | refine OpsN.y_ (Yl.buildF rfl rfl rfl (by repeat (first | exact fill0 | (apply fill1; rfl; rfl; rfl; (repeat (first | exact SetL.zero | apply SetL.succ)))))) rfl ?_ | refine OpsN.y_ (Yl.buildP rfl rfl rfl rfl) rfl ?_ | refine OpsN.y_ (Yl.sliceSHi Tryz.underlying9 rfl rfl rfl (by omega)) rfl ?_ | refine OpsN.y_ (Yl.sliceSLo Tryz.underlying9 rfl rfl rfl (by omega)) rfl ?_ | refine OpsN.y_ (Yl.sliceSLH Tryz.underlying9 rfl rfl rfl rfl rfl (by omega) (by omega)) rfl ?_ | refine OpsN.y_ (Yl.sliceHi rfl rfl rfl rfl rfl rfl (by omega)) rfl ?_ | refine OpsN.y_ (Yl.lenS Tryz.underlying9 rfl) rfl ?_)) | (refine CdN.is ?_; (first | refine CdN.seq ?_ | refine CdN.regionQq rfl rfl (by kernel_rfl) ?_ | refine CdN.regionLq rfl rfl ?_ | refine CdN.region ?_ | refine CdN.block ?_ | refine CdN.skip ?_ | refine CdN.ret ?_ | refine CdN.exit ?_ | refine CdN.condT rfl ?_ | refine CdN.condF rfl ?_)) | (refine FinN.is ?_; (first | refine FinN.thenN ?_ | refine FinN.blkN ?_ | refine FinN.thenR ?_ | refine FinN.blkR ?_ | refine FinN.thenX ?_ | refine FinN.blkX ?_ | refine FinN.blkY rfl ?_)))); exact hk_.out)) : g := hw ⟨h⟩
end
def bwd (l : List Int) : List (Int × Int) := (List.range l.length).reverse.map fun i : Nat => ((i : Int), ix l i)
theorem bwd_len (l : List Int) : (bwd l).length = l.length := by simp [bwd]
theorem bwd_take {l : List Int} {k : Nat} (h : k < l.length) : (bwd l).take (k + 1) = (bwd l).take k ++ [(((l.length - 1 - k : Nat) : Int), ix l (l.length - 1 - k))] := by
  have hl : k < (bwd l).length := by rw [bwd_len]; exact h
  rw [List.take_succ_eq_append_getElem hl]
  congr 2
  simp [bwd, List.getElem_reverse]
def KD (K : Nat → Prop) (W W' : World) : Prop := W.heap.size ≤ W'.heap.size ∧ ∀ k, k < W.heap.size → K k → W'.heap[k]? = W.heap[k]?
theorem KD.trans {K : Nat → Prop} {X Y Z : World} (h : KD K X Y) (k : KD K Y Z) : KD K X Z := ⟨Nat.le_trans h.1 k.1, fun i hl hi => (k.2 i (Nat.lt_of_lt_of_le hl h.1) hi).trans (h.2 i hl hi)⟩
theorem KD.cell {K : Nat → Prop} {W W' : World} (h : KD K W W') {p : Addr} {v : Value} (hp : K p.block) (hc : W.cell? p = some v) : W'.cell? p = some v := by
  rw [World.cell?_of_block (w := W) (h.2 p.block (cell_lt hc) hp)]; exact hc
theorem KD.put {K : Nat → Prop} {W : World} {l : Nat} {o : Obj} (hK : ¬ K l) : KD K W (W.putObj l o) := ⟨by simp [World.putObj], fun k _ hk => World.putObj_heap_other (by rintro rfl; exact hK hk)⟩
def encB (x : Int × Int) : List Value := [.int .i64 x.1, .int .i64 x.2]
def RB (b1 : Nat) (p : Option Addr) (c : Nat) (l : List Int) (W : World) : Prop := W.cell? ⟨b1, 0, none⟩ = some (.slice p l.length c) ∧ ∀ i, i < l.length → ∃ b o, p = some ⟨b, o, none⟩ ∧ W.cell? ⟨b, o + i, none⟩ = some (.int .i64 (ix l i))
def KB (b1 : Nat) (p : Option Addr) (n : Nat) : Nat → Prop := fun k => k = b1 ∨ 0 < n ∧ ∃ a, p = some a ∧ a.block = k
theorem RB.kd {b1 : Nat} {p : Option Addr} {c : Nat} {l : List Int} {W W' : World} (h : RB b1 p c l W) (hk : KD (KB b1 p l.length) W W') : RB b1 p c l W' :=
  ⟨hk.cell (.inl rfl) h.1, fun i hi => by obtain ⟨b, o, e, hc⟩ := h.2 i hi; exact ⟨b, o, e, hk.cell (.inr ⟨by omega, _, e, rfl⟩) hc⟩⟩
theorem RB.ext {b1 : Nat} {p : Option Addr} {c : Nat} {l : List Int} {W W' : World} (h : RB b1 p c l W) (hk : Ext W W') : RB b1 p c l W' :=
  ⟨hk.cell h.1, fun i hi => by obtain ⟨b, o, e, hc⟩ := h.2 i hi; exact ⟨b, o, e, hk.cell hc⟩⟩
set_option maxHeartbeats 4000000 in
theorem bwd_seq (b1 : Nat) (p : Option Addr) (c : Nat) (l : List Int) (w0 : World) (h0 : RB b1 p c l w0) (hl : l.length ≤ 9223372036854775807) : SeqO 181 [.pointer (some ⟨b1, 0, none⟩)] encB (KD (KB b1 p l.length)) (bwd l) w0 := by
  intro ll J Jx W hW hJ hJx hY hJ0
  have hRW : RB b1 p c l W := h0.ext (Ext.ofBelow hW)
  refine enter (G := G) (l := [.func (.yield ll) #[] #[], .pointer (some ⟨b1, 0, none⟩)]) Tryz.func181 rfl Tryz.ntmps181 rfl ?_
  have hc1 := hRW.1
  refine wgy ?_
  refine Cd.loop (σ := Nat) (fun k => [(0, .func (.yield ll) #[] #[]), (1, .pointer (some ⟨b1, 0, none⟩)), (3, .int .i64 ((l.length : Int) - 1 - k))]) (fun k wr => k ≤ l.length ∧ J ((bwd l).take k) wr ∧ RB b1 p c l wr) (fun k => l.length - k) 0 wsub ⟨by omega, by rw [List.take_zero]; exact hJ0, hRW⟩ ?_
  rintro k wr ⟨hk, hJk, hR⟩
  by_cases hlt : k < l.length
  · obtain ⟨i, hi⟩ : ∃ i, i = l.length - 1 - k := ⟨_, rfl⟩
    have hil : i < l.length := by omega
    obtain ⟨b, o, rfl, hce⟩ := hR.2 i hil
    have hc2 := hR.1
    have e1 : (l.length : Int) - 1 - k = (i : Int) := by omega
    have hst := bwd_take hlt
    rw [← hi] at hst
    have hyk := hY ((bwd l).take k) ((i : Int), ix l i) wr hJk (by rw [← hst]; exact List.take_prefix _ _)
    rw [← hst] at hyk
    rw [e1]
    refine wgy ?_
    refine Cd.regionI 0 ?_
    refine wgi ?_
    refine OpsI.round (m := 0) (vs := encB ((i : Int), ix l i)) rfl rfl rfl hyk ?_
    rintro e w5 (⟨rfl, hJ5, hK5⟩ | ⟨rfl, hJx5, hK5⟩)
    · refine ⟨_, rfl, ?_⟩
      refine wgi ?_
      refine FinI.ofFin ?_
      refine wgy ?_
      exact Fin.next (k + 1) wsub ⟨by omega, hJ5, hR.kd hK5⟩ (by omega)
    · refine ⟨_, rfl, ?_⟩
      refine wgi ?_
      refine FinI.ofFin ?_
      refine wgy ?_
      exact Fin.ret0 rfl ⟨⟨_, rfl⟩, .inr ⟨_, List.take_prefix _ _, hJx5⟩⟩
  · obtain rfl : k = l.length := by omega
    rw [show (l.length : Int) - 1 - (l.length : Nat) = -1 from by omega]
    refine wgy ?_
    refine Fin.end0 rfl ⟨⟨_, rfl⟩, .inl ?_⟩
    rw [← bwd_len, List.take_length] at hJk; exact hJk
theorem slices_Backward (p : Option Addr) (n c : Nat) (w : World) : Calls G.P 157 #[.slice p n c] w fun e w' => e = .returned (.func (.func 181) #[] #[.pointer (some ⟨w.heap.size, 0, none⟩)]) ∧ New w w' [.slice p n c] 34 := by
  refine enter (G := G) Tryz.func157 rfl Tryz.ntmps157 rfl ?_
  refine wgx ?_
  refine Ops.e (Eff.box rfl rfl) rfl ?_
  rintro _ w1 ⟨rfl, hn1⟩
  refine wgx ?_
  exact Fin.ret1 rfl rfl ⟨rfl, hn1⟩
end Go.Proofs.YtgbgnipidakdhaaGreatDoor
