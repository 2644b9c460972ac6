/- The operand stack (layer 21): the methods that have no loop. -/
import Derived.Test.YtgbgnipidakdhaaGreatDoorJAu
import Derived.Test.YtgbgnipidakdhaaGreatDoorJAw
import Derived.Test.YtgbgnipidakdhaaGreatDoorJSk
import Derived.Test.YtgbgnipidakdhaaGreatDoorJU
import Derived.Test.YtgbgnipidakdhaaGreatDoorJSr
namespace Go.Proofs.YtgbgnipidakdhaaGreatDoor
open Go.RowKit
set_option maxRecDepth 100000

abbrev TStk : Nat := 145
abbrev TPrt : Nat := 184
abbrev TVl : Nat := 37
def partC (p : Int × Bool) : List Value := [.int .i64 p.1, .bool p.2]
def partsC (l : List (Int × Bool)) : List Value := l.flatMap partC
def valsC (l : List Int) : List Value := l.map (Value.int .i64)
def overB (s : Stk) : Bool := decide (256 < s.most)
/-- a stack in memory: where its types and its parts lie -/
def stkM (sp : Nat) (s : Stk) (x : Value × Value) : List Res := [.blk sp [x.1, x.2, .bool (overB s)] TStk, .own 0 TVl 1 x.1 s.ts.length (valsC s.ts), .own 0 TPrt 2 x.2 s.ps.length (partsC s.ps)]
/-- what lies before a row's end -/
theorem own_take {w : World} {B T s n c : Nat} {p : Option Addr} {xs : List Value} (h : w.ownsRow B T s (.slice p n c) n xs) {k : Nat} (hk : k ≤ n) : w.ownsRow B T s (.slice p k c) k (xs.take (k * s)) := by
  obtain ⟨h1, h2⟩ := h
  have hm : k * s ≤ n * s := Nat.mul_le_mul_right s hk
  refine ⟨by rw [List.length_take]; omega, ?_⟩
  rcases h2 with ⟨e, h0⟩ | ⟨g, cap, cur, e, hg, hh, hn, hc, hs, ht⟩
  · cases e
    have : k = 0 := by omega
    subst this
    exact .inl ⟨rfl, rfl⟩
  · cases e
    refine .inr ⟨g, c, cur, rfl, hg, hh, by omega, hc, hs, ?_⟩
    rw [← ht, List.take_take, Nat.min_eq_left hm]
theorem Ok.ownTake {M M' : List Res} {R : List (World → Prop)} {w : World} {B T s n c : Nat} {p : Option Addr} {xs : List Value} (h : Ok M R w) (k : Nat) (hk : k ≤ n) (hM : Up (.own B T s (.slice p n c) n xs) (.own B T s (.slice p k c) k (xs.take (k * s))) M M') : Ok M' R w :=
  h.upd hM (Chg.refl _ w) (own_take (h.m _ hM.mem).1 hk) (fun i hi => by
    have hi' : (Value.slice p n c).ownBlock = some i := by cases p <;> exact hi
    exact ⟨(h.m _ hM.mem).2 i hi', fun _ => hi'⟩)
section
variable {ops : Array Oper} {Q : Exit → Act → World → Prop} {n : Nat} {E : Env} {M M' : List Res} {R R' : List (World → Prop)} {v : Value} {x y z : Operand} {t t2 : TypeId} {C : World → Prop}
theorem Yl.neqPN {ti : TypeId} {ad : Addr} (ht : G.P.underlying t = some (.pointer ti)) (hx : ev E x = some (.pointer (some ad))) (hy : ev E y = some (.pointer none)) : Yl G n (.binOp .neq t x y t2) E C (.bool true) :=
  ⟨fun w _ a ha d ty pos aft gd => by
    have h2 : ∀ m, (Op.equalIn (m + 1) t (.pointer (some ad)) (.pointer none)).run G.P w = .ok false w := by
      intro m; simp [Op.equalIn, run_underlying ht]
    have h3 : (Op.equal t (.pointer (some ad)) (.pointer none)).run G.P w = .ok false w := h2 9999
    simp [execOp, ha.eval hx, ha.eval hy, eqGuard, binOp, h3]⟩
theorem CdH.ownTake {B T s m c : Nat} {p : Option Addr} {xs : List Value} {cd : Code} (k : Nat) (hM : Up (.own B T s (.slice p m c) m xs) (.own B T s (.slice p k c) k (xs.take (k * s))) M M') (hk : k ≤ m) (h : CdH Q n cd E M' R) : CdH Q n cd E M R := ⟨fun w hw => h.h w (hw.ownTake k hk hM)⟩
theorem FinH.ownTake {B T s m c : Nat} {p : Option Addr} {xs : List Value} {e : Exit} (k : Nat) (hM : Up (.own B T s (.slice p m c) m xs) (.own B T s (.slice p k c) k (xs.take (k * s))) M M') (hk : k ≤ m) (h : FinH Q n e E M' R) : FinH Q n e E M R := ⟨fun w hw => h.h w (hw.ownTake k hk hM)⟩
end
theorem overB_push (s : Stk) (l : List Int) : overB (pushK s l) = (overB s || decide (256 < ((s.ts.length + l.length : Nat) : Int))) := by
  unfold overB pushK
  rw [Bool.eq_iff_iff]
  simp only [Bool.or_eq_true, decide_eq_true_eq]; omega
theorem Ok.c1 {M M' : List Res} {R : List (World → Prop)} {w : World} {b T j : Nat} {cs : List Value} {v : Value} (h : Ok M R w) (hM : Up (.blk b cs T) (.blk b cs T) M M') (hj : cs[j]? = some v) : w.cell? ⟨b, j, none⟩ = some v := (show Blk w b cs T from (h.m _ hM.mem).1).cell hj
theorem stkC (sp : Nat) (s : Stk) (x : Value × Value) {M : List Res} {R : List (World → Prop)} {w : World} (h : Ok M R w) (hm : (stkM sp s x).Sublist M) : (∃ p c, x.1 = .slice p s.ts.length c ∧ s.ts.length ≤ c ∧ (0 < s.ts.length → ∃ g, p = some ⟨g, 0, none⟩)) ∧ (∃ p c, x.2 = .slice p s.ps.length c ∧ (0 < s.ps.length → ∃ g, p = some ⟨g, 0, none⟩)) ∧ s.ts.length ≤ 9223372036854775807 ∧ s.ps.length ≤ 9223372036854775807 := by
  have h1 : w.ownsRow 0 TVl 1 x.1 s.ts.length (valsC s.ts) := (h.m (.own 0 TVl 1 x.1 s.ts.length (valsC s.ts)) (hm.subset (by simp [stkM]))).1
  have h2 : w.ownsRow 0 TPrt 2 x.2 s.ps.length (partsC s.ps) := (h.m (.own 0 TPrt 2 x.2 s.ps.length (partsC s.ps)) (hm.subset (by simp [stkM]))).1
  obtain ⟨p, c, e, hn, hc, hg⟩ := own_slice h1
  obtain ⟨p', c', e', hn', hc', hg'⟩ := own_slice h2
  unfold maxLen at hc hc'
  exact ⟨⟨p, c, e, hn, fun h => by obtain ⟨g, e, _⟩ := hg h; exact ⟨g, e⟩⟩, ⟨p', c', e', fun h => by obtain ⟨g, e, _⟩ := hg' h; exact ⟨g, e⟩⟩, by omega, by omega⟩
theorem stack_made (sp n c : Nat) (p : Option Addr) (w : World) (h1 : w.cell? ⟨sp, 1, none⟩ = some (.slice p n c)) (h0 : 0 < n) : Calls G.P 65 #[.pointer (some ⟨sp, 0, none⟩)] w fun e w' => e = .returned (.bool true) ∧ Ext w w' := by
  refine enterH (l := [_]) Tryz.func65 rfl Tryz.ntmps65 rfl (Ok.start w) ?_
  repeat' (first | refine wau ?_ | (refine OpsH.isBin ?_; refine OpsH.y_ (Yl.neqPN Tryz.underlying62 rfl rfl) rfl ?_) | (refine wspl ?_ ?_ <;> intro hc_))
  all_goals first | exact FinH.ret1 rfl rfl fun w' hw' => ⟨by rfl, hw'.at⟩ | exact FinH.ret1 rfl rfl fun w' hw' => ⟨by simp; omega, hw'.at⟩
theorem stack_top (sp n c g : Nat) (w : World) (h1 : w.cell? ⟨sp, 1, none⟩ = some (.slice (some ⟨g, 0, none⟩) n c)) (h0 : 0 < n) (hn : n ≤ 9223372036854775807) : Calls G.P 117 #[.pointer (some ⟨sp, 0, none⟩)] w fun e w' => e = .returned (.pointer (some ⟨g, (n - 1) * 2, none⟩)) ∧ Ext w w' := by
  obtain ⟨k, rfl⟩ : ∃ k, n = k + 1 := ⟨n - 1, by omega⟩
  rw [Nat.add_sub_cancel]
  refine enterH (l := [_]) Tryz.func117 rfl Tryz.ntmps117 rfl (Ok.start w) ?_
  repeat' (first | refine wau ?_ | (refine Ops.y (Yl.idx (i := k) rfl rfl rfl rfl rfl (by omega) (by omega)) rfl ?_) | (refine wspl ?_ ?_ <;> intro hc_))
  all_goals exact FinH.ret1 rfl rfl fun w' hw' => ⟨by simp, hw'.at⟩
/-- a stack and its parts, told apart: the last part stands at the end -/
theorem parts_at {l : List (Int × Bool)} {i : Nat} (h : i < l.length) : (partsC l)[i * 2]? = some (.int .i64 (ix l i).1) ∧ (partsC l)[i * 2 + 1]? = some (.bool (ix l i).2) := by
  have h1 := flatMap_get partC (s := 2) (fun _ => rfl) l i 0 h (by omega)
  have h2 := flatMap_get partC (s := 2) (fun _ => rfl) l i 1 h (by omega)
  exact ⟨h1, h2⟩
theorem vals_at {l : List Int} {i : Nat} (h : i < l.length) : (valsC l)[0 + i]? = some (.int .i64 (ix l i)) := by
  unfold valsC; rw [Nat.zero_add, List.getElem?_map, ix_some h]; rfl
theorem MutPost.ofC {β : Type} {M0 M : List Res} {R : List (World → Prop)} {w w' : World} {tf : β → Value} {φ : β → Prop} {M1 : β → List Res} (x : β) (hφ : φ x) (h : Ok M R w') (hM : (M1 x).Sublist M) (hR : Chg (Mb M0) w ∈ R) : MutPost M0 w tf φ M1 (.returned (tf x)) w' :=
  ⟨x, rfl, hφ, h.sub hM (fun p hp => absurd hp (by simp)), h.get hR, fun k ⟨q, hq, hk⟩ hlt => h.origin hR k ⟨q, hM.subset hq, hk⟩ hlt⟩
theorem stkM_eq {sp T2 T3 : Nat} {s : Stk} {tv pv : Value} {ov : Bool} {n m : Nat} {cs ds : List Value} {M Mr : List Res} (hM : M = .blk sp [tv, pv, .bool ov] TStk :: .own 0 T2 1 tv n cs :: .own 0 T3 2 pv m ds :: Mr) (hT : T2 = TVl) (hT' : T3 = TPrt) (h1 : n = s.ts.length) (h2 : cs = valsC s.ts) (h3 : m = s.ps.length) (h4 : ds = partsC s.ps) (h5 : ov = overB s) : (stkM sp s (tv, pv)).Sublist M := by
  subst hT hT' h1 h2 h3 h4 h5 hM
  exact (List.nil_sublist Mr).cons_cons _ |>.cons_cons _ |>.cons_cons _
theorem ints_rdR {D : Nat → Prop} {w : World} {p : Option Addr} {n c : Nat} {xs : List Int} {M : List Res} {R : List (World → Prop)} (h : IntsR D w (.slice p n c) xs) (hR : (fun w => IntsR D w (.slice p n c) xs) ∈ R) : xs.length = 0 ∨ ∃ bk o, p = some ⟨bk, o, none⟩ ∧ ∀ w', Ok M R w' → ∀ j u, (xs.map (Value.int .i64))[j]? = some u → w'.cell? ⟨bk, o + j, none⟩ = some u := by
  obtain ⟨p', c', e, hl, h⟩ := h
  cases e
  rcases h with h | ⟨b, o, rfl, hF, h⟩
  · exact .inl (by rw [h]; rfl)
  · refine .inr ⟨b, o, rfl, fun w' hw' j u hj => ?_⟩
    have hI : IntsR D w' (.slice (some ⟨b, o, none⟩) xs.length c) xs := hw'.get (p := fun w => IntsR D w (.slice (some ⟨b, o, none⟩) xs.length c) xs) hR
    have hj' : j < xs.length := by have := (List.getElem?_eq_some_iff.1 hj).1; simpa using this
    obtain ⟨b', o', e, -, hc⟩ := hI.at hj'
    cases e
    rw [hc j hj', ← hj, List.getElem?_map, ix_some hj']; rfl
theorem MutPost.ofS {β : Type} {M0 M : List Res} {R : List (World → Prop)} {w w' : World} {S0 : Nat → Prop} {tf : β → Value} {φ : β → Prop} {M1 : β → List Res} (x : β) (hφ : φ x) (hS : Mb M0 = S0) (h : Ok M R w') (hM : (M1 x).Sublist M) (hR : Chg S0 w ∈ R) : MutPost M0 w tf φ M1 (.returned (tf x)) w' := by
  subst hS; exact MutPost.ofC x hφ h hM hR
def StkPost (sp : Nat) (s : Stk) (x : Value × Value) (v : Value) (s' : Stk) (w : World) : Ending → World → Prop := MutPost (stkM sp s x) w (fun _ : Value × Value => v) (fun _ => True) (stkM sp s')
set_option maxHeartbeats 4000000 in
theorem stack_Push (D : Nat → Prop) (sp : Nat) (s : Stk) (x : Value × Value) (v : Value) (l : List Int) (w : World) (hw : Ok (stkM sp s x) [fun w => IntsR D w v l] w) (hp : 0 < s.ps.length) (hb : (s.ts.length + l.length) * 8 ≤ 140737488355328) :
    Calls G.P 24 #[.pointer (some ⟨sp, 0, none⟩), v] w (StkPost sp s x (.tuple #[]) (pushK s l) w) := by
  obtain ⟨v1, v2⟩ := x; obtain ⟨⟨p1, c1, e1, hcap, hg1⟩, ⟨p2, c2, e2, hg2⟩, hn1, hn2⟩ := stkC sp s (v1, v2) hw (List.Sublist.refl _); dsimp only at e1 e2; subst e1; subst e2; obtain ⟨g2, rfl⟩ := hg2 hp
  have hI : IntsR D w v l := hw.get (p := fun w => IntsR D w v l) (by simp)
  obtain ⟨q, d, rfl, hl⟩ := hI.slice
  refine enterH (l := [_, _]) Tryz.func24 rfl Tryz.ntmps24 rfl (Ok.startM hw) ?_
  unfold StkPost
  generalize hS : Mb (stkM sp s (.slice p1 s.ts.length c1, .slice (some ⟨g2, 0, none⟩) s.ps.length c2)) = S0; unfold stkM; dsimp only
  repeat' (first | refine wau ?_ | (refine OpsH.isCall (f := 65) ?_; refine OpsH.call1 rfl rfl rfl (fun w' hw' => stack_made sp s.ps.length c2 (some ⟨g2, 0, none⟩) w' (hw'.c1 wup (by rfl)) hp) ?_) | (refine wspl ?_ ?_ <;> intro hc_))
  refine OpsH.he (HE.appRB (valsC l) rfl rfl (fun _ => wup) (ints_rdR hI wmem) (by simp [valsC]) rfl rfl rfl (by rfl) (by rfl) (by rfl) (ints_one _) hb (by omega) (fun _ _ => Nat.zero_le _)) rfl ?_
  intro v1 _
  refine OpsH.pure (φ := ∃ p c, v1 = .slice p (s.ts.length + l.length) c) (fun w' hw' => ?_) ?_
  · obtain ⟨p, c, e, _⟩ := own_slice (hw'.own (v := v1)); exact ⟨p, c, e⟩
  rintro ⟨p3, c3, rfl⟩
  repeat' (first | refine wau ?_ | (refine wspl ?_ ?_ <;> intro hc_))
  all_goals exact FinH.end0 rfl fun w' hw' => MutPost.ofS (x := (_, _)) trivial hS hw' (stkM_eq rfl rfl rfl (by simp [pushK]) (by simp [pushK, valsC]) rfl rfl (by rw [overB_push]; simp [overB, hc_])) wmem
end Go.Proofs.YtgbgnipidakdhaaGreatDoor
