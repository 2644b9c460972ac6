/- law57.alive walked. -/
import Derived.Test.YtmkgfccfnpmcjaaGreatDoorJLa
namespace Go.Proofs.YtmkgfccfnpmcjaaGreatDoor
open Go.RowKit
set_option maxRecDepth 100000

structure ExV where
  b : Nat
  o : Nat
  c : Nat
  b1 : Nat
  o1 : Nat
  c1 : Nat
  p2 : Option Addr
  c2 : Nat
def ExR (lo : Nat) (w : World) (x : ExV) : Prop := lo ≤ x.b ∧ lo ≤ x.b1 ∧ w.cell? ⟨x.b, x.o + 0, none⟩ = some (.slice (some ⟨x.b1, x.o1, none⟩) 1 x.c1) ∧ w.cell? ⟨x.b, x.o + 1, none⟩ = some (.slice x.p2 0 x.c2) ∧ w.cell? ⟨x.b1, x.o1 + 0, none⟩ = some (.int .i64 1)
theorem ex_fresh : Fresh ExR := fun ⟨h1, h2, h3, h4, h5⟩ hc hS => ⟨h1, h2, hc.cell (hS _ (cell_lt h3) h1) h3, hc.cell (hS _ (cell_lt h4) h1) h4, hc.cell (hS _ (cell_lt h5) h2) h5⟩
theorem calls_ex (cs : List Value) (w : World) (hm : ApiModuleV (fun _ => True) w cs (mX ex1)) : Calls G.P 12 #[.agg cs.toArray] w (fun e w' => (∃ x : ExV, e = .returned (.slice (some ⟨x.b, x.o, none⟩) 2 x.c) ∧ ExR w.heap.size w' x) ∧ Ext w w') := by
  refine (census_Calls _ (mX ex1) cs w hm (mX_lens _ (by decide)) (mX_small _ (by decide))).mono fun e w' h => ?_
  obtain ⟨⟨v, rfl, hr⟩, hx⟩ := h
  rw [ex1_calls] at hr
  obtain ⟨p, c, rfl, -, h | ⟨b, o, rfl, hF, h⟩⟩ := hr
  · cases h
  obtain ⟨u0, h0, p0, c0, rfl, -, g0 | ⟨b1, o1, rfl, hF1, g0⟩⟩ := h 0 (by decide)
  · cases g0
  obtain ⟨u1, h1, p1, c1, rfl, -, -⟩ := h 1 (by decide)
  exact ⟨⟨⟨b, o, c, b1, o1, c0, p1, c1⟩, rfl, hF, hF1, h0, h1, g0 0 (by decide)⟩, hx⟩
theorem OpsT.join {α : Type} {l : List Oper} {Q : Exit → Act → World → Prop} {Mc : List Res} {Rc : List (World → Prop)} {n fuel : Nat} {listed : Array Bool} {E : Env} {M : List Res} {R : List (World → Prop)} (E0 : α → Env) (M0 : α → List Res) (R0 : α → List (World → Prop))
    (rest : ∀ x, FinH Q n .normal (E0 x) (M0 x) (R0 x)) (h : (∀ x, FinH Q n .normal (E0 x) (M0 x) (R0 x)) → OpsT l Q Mc Rc n fuel listed E M R) : OpsT l Q Mc Rc n fuel listed E M R := h rest
abbrev TIn : Nat := 63
abbrev TCd : Nat := 55
section
variable {q q1 q2 q3 : Res} {M : List Res} {R : List (World → Prop)} {w : World}
theorem Ok.m0 (h : Ok (q :: M) R w) : q.P w := (h.m q (by simp)).1
theorem Ok.m1 (h : Ok (q :: q1 :: M) R w) : q1.P w := (h.m q1 (by simp)).1
theorem Ok.m2 (h : Ok (q :: q1 :: q2 :: M) R w) : q2.P w := (h.m q2 (by simp)).1
end
theorem at1_ {P : Nat → Prop} (h : P 0) : ∀ i, i < 1 → P i := fun i hi => by
  obtain rfl : i = 0 := by omega
  exact h
theorem at2_ {P : Nat → Prop} (h : P 0) (h1 : P 1) : ∀ i, i < 2 → P i := fun i hi => by
  rcases (show i = 0 ∨ i = 1 by omega) with rfl | rfl
  · exact h
  · exact h1
def modV (b n : Nat) : List Value := [.slice none 0 0, .slice none 0 0, .slice (some ⟨b, 0, none⟩) n n, .slice none 0 0, .slice none 0 0, .slice none 0 0, .slice none 0 0, .bool false, .int .i64 0, .slice none 0 0, .slice none 0 0, .slice none 0 0]

theorem cen_at (c : Cen) : ∀ i, i < 8 → ∃ a : Int, (cenC c)[i]? = some (.int .i64 a) := fun i hi => by
  rcases Nat.lt_or_ge i 4 with h | h
  · rcases Nat.lt_or_ge i 2 with h | h
    · rcases Nat.lt_or_ge i 1 with h | h
      · obtain rfl : i = 0 := by omega
        exact ⟨_, rfl⟩
      · obtain rfl : i = 1 := by omega
        exact ⟨_, rfl⟩
    · rcases Nat.lt_or_ge i 3 with h | h
      · obtain rfl : i = 2 := by omega
        exact ⟨_, rfl⟩
      · obtain rfl : i = 3 := by omega
        exact ⟨_, rfl⟩
  · rcases Nat.lt_or_ge i 6 with h | h
    · rcases Nat.lt_or_ge i 5 with h | h
      · obtain rfl : i = 4 := by omega
        exact ⟨_, rfl⟩
      · obtain rfl : i = 5 := by omega
        exact ⟨_, rfl⟩
    · rcases Nat.lt_or_ge i 7 with h | h
      · obtain rfl : i = 6 := by omega
        exact ⟨_, rfl⟩
      · obtain rfl : i = 7 := by omega
        exact ⟨_, rfl⟩
def fldB (P : Program) (t n : Nat) : Bool := (P.fieldsOf t).toList.all fun f => (match P.underlying f.type with | some (.int .i64) => true | _ => false) && Nat.blt f.offset n
theorem fldB_ok {P : Program} {t n : Nat} (h : fldB P t n = true) : ∀ f ∈ (P.fieldsOf t).toList, P.underlying f.type = some (.int .i64) ∧ f.offset < n := fun f hf => by
  have := List.all_eq_true.1 h f hf
  rw [Bool.and_eq_true] at this
  refine ⟨?_, by simpa using this.2⟩
  have h1 := this.1
  split at h1
  · assumption
  · cases h1
theorem Yl.eqC {n : Nat} {E : Env} {C : World → Prop} {x y : Operand} {t2 : TypeId} {c : Cen} (hx : ev E x = some (.agg (cenC c).toArray)) (hy : ev E y = some (.agg (cenC c).toArray)) : Yl G n (.binOp .eql 38 x y t2) E C (.bool true) :=
  Yl.eqCen hx hy (by kernel_rfl) (by kernel_rfl) (by kernel_rfl) fun f hf => by
    obtain ⟨h1, h2⟩ := fldB_ok (n := 8) (by kernel_rfl) f hf
    exact ⟨h1, cen_at c _ h2⟩
theorem ex1_mod {w : World} {e1 e2 e3 : Nat} (h3 : Blk w e3 ([.int .i64 0, .slice none 0 0, .slice (some ⟨e1, 0, none⟩) 2 2, .int .i64 0, .slice none 0 0, .slice (some ⟨e2, 0, none⟩) 1 1] : List Value) 55) (h2 : Blk w e2 ([.int .i64 11, .int .i64 0, .int .i64 0, .int .u64 0, .int .i64 0, .int .i64 0, .int .i64 0, .slice none 0 0, .slice none 0 0] : List Value) 63) (h1 : Blk w e1 ([.int .i64 16, .int .i64 1, .int .i64 0, .int .u64 0, .int .i64 0, .int .i64 0, .int .i64 0, .slice none 0 0, .slice none 0 0, .int .i64 11, .int .i64 0, .int .i64 0, .int .u64 0, .int .i64 0, .int .i64 0, .int .i64 0, .slice none 0 0, .slice none 0 0] : List Value) 63) : ApiModuleV (fun _ => True) w ([.slice none 0 0, .slice none 0 0, .slice (some ⟨e3, 0, none⟩) 2 2, .slice none 0 0, .slice none 0 0, .slice none 0 0, .slice none 0 0, .bool false, .int .i64 0, .slice none 0 0, .slice none 0 0, .slice none 0 0] : List Value) (mX ex1) := by
  have g1 : BodyR (fun _ => True) w (.slice (some ⟨e1, 0, none⟩) 2 2) ([(16, 1), (11, 0)].map iX) := body_blk (T := TIn) (show Blk w e1 (List.flatMap iC [(16, 1), (11, 0)]) TIn from h1) (by decide) (by decide)
  have g2 : BodyR (fun _ => True) w (.slice (some ⟨e2, 0, none⟩) 1 1) ([(11, 0)].map iX) := body_blk (T := TIn) (show Blk w e2 (List.flatMap iC [(11, 0)]) TIn from h2) (by decide) (by decide)
  exact mod_blk (l := ex1) (c := 2) (vs := [.slice (some ⟨e1, 0, none⟩) 2 2, .slice (some ⟨e2, 0, none⟩) 1 1]) (T := TCd) (show Blk w e3 _ TCd from h3) rfl (by decide) (at2_ g1 g2)
theorem ex2_mod {w : World} {e1 e2 e3 : Nat} (h3 : Blk w e3 ([.int .i64 0, .slice none 0 0, .slice (some ⟨e1, 0, none⟩) 2 2, .int .i64 0, .slice none 0 0, .slice (some ⟨e2, 0, none⟩) 2 2] : List Value) 55) (h2 : Blk w e2 ([.int .i64 16, .int .i64 1, .int .i64 0, .int .u64 0, .int .i64 0, .int .i64 0, .int .i64 0, .slice none 0 0, .slice none 0 0, .int .i64 11, .int .i64 0, .int .i64 0, .int .u64 0, .int .i64 0, .int .i64 0, .int .i64 0, .slice none 0 0, .slice none 0 0] : List Value) 63) (h1 : Blk w e1 ([.int .i64 16, .int .i64 1, .int .i64 0, .int .u64 0, .int .i64 0, .int .i64 0, .int .i64 0, .slice none 0 0, .slice none 0 0, .int .i64 11, .int .i64 0, .int .i64 0, .int .u64 0, .int .i64 0, .int .i64 0, .int .i64 0, .slice none 0 0, .slice none 0 0] : List Value) 63) : ApiModuleV (fun _ => True) w ([.slice none 0 0, .slice none 0 0, .slice (some ⟨e3, 0, none⟩) 2 2, .slice none 0 0, .slice none 0 0, .slice none 0 0, .slice none 0 0, .bool false, .int .i64 0, .slice none 0 0, .slice none 0 0, .slice none 0 0] : List Value) (mX ex2) := by
  have g1 : BodyR (fun _ => True) w (.slice (some ⟨e1, 0, none⟩) 2 2) ([(16, 1), (11, 0)].map iX) := body_blk (T := TIn) (show Blk w e1 (List.flatMap iC [(16, 1), (11, 0)]) TIn from h1) (by decide) (by decide)
  have g2 : BodyR (fun _ => True) w (.slice (some ⟨e2, 0, none⟩) 2 2) ([(16, 1), (11, 0)].map iX) := body_blk (T := TIn) (show Blk w e2 (List.flatMap iC [(16, 1), (11, 0)]) TIn from h2) (by decide) (by decide)
  exact mod_blk (l := ex2) (c := 2) (vs := [.slice (some ⟨e1, 0, none⟩) 2 2, .slice (some ⟨e2, 0, none⟩) 2 2]) (T := TCd) (show Blk w e3 _ TCd from h3) rfl (by decide) (at2_ g1 g2)

set_option maxHeartbeats 32000000 in
theorem law57_alive (w : World) (h0 : Env0 w) : Calls G.P 7 #[] w fun e w' => e = .returned (.bool true) ∧ Ext w w' := by
  refine enterH (l := []) Tryz.func7 rfl Tryz.ntmps7 rfl (Ok.start w) ?_
  refine wgh ?_
  refine OpsH.alloc (iC (0, 0)) rfl rfl rfl fun b1 => ?_
  refine wgh ?_
  refine OpsH.he (HE.bsl rfl rfl rfl rfl rfl wcel (by rfl) (by rfl)) rfl ?_
  intro c2 _
  refine wgh ?_
  refine OpsH.he (HE.bsl rfl rfl rfl rfl rfl wcel (by rfl) (by rfl)) rfl ?_
  intro d2 _
  refine wgh ?_
  refine OpsH.call1 (v := .agg (cenC ⟨1, 4, 4, 1, 0, 0, 0, 0⟩).toArray) rfl rfl rfl (fun w' hw' => ?_) ?_
  · have hb : BodyR (fun _ => True) w' (.slice (some ⟨c2, 0, none⟩) 4 4) ([(3, 0), (12, 0), (11, 0), (11, 0)].map iX) := body_blk (T := TIn) (show Blk w' c2 (List.flatMap iC [(3, 0), (12, 0), (11, 0), (11, 0)]) TIn from hw'.m1) (by decide) (by decide)
    have := census_Of (fun _ => True) (mX exO) _ w' (mod_blk (l := exO) (c := 1) (vs := [.slice (some ⟨c2, 0, none⟩) 4 4]) (T := TCd) (show Blk w' d2 _ TCd from hw'.m0) rfl (by decide) (at1_ hb)) (mX_small _ (by decide)) (h0.ext hw'.at)
    rw [exO_wrap] at this; exact this
  refine OpsH.alloc (cenC zC) rfl rfl rfl fun b2 => ?_
  refine wgh ?_
  refine OpsH.he (HE.bsl rfl rfl rfl rfl rfl wcel (by rfl) (by rfl)) rfl ?_
  intro e1 _
  refine wgh ?_
  refine OpsH.he (HE.bsl rfl rfl rfl rfl rfl wcel (by rfl) (by rfl)) rfl ?_
  intro e2 _
  refine wgh ?_
  refine OpsH.he (HE.bsl rfl rfl rfl rfl rfl wcel (by rfl) (by rfl)) rfl ?_
  intro e3 _
  refine wgh ?_
  refine OpsH.alloc [.slice none 0 0, .slice none 0 0, .slice none 0 0, .slice none 0 0, .slice none 0 0, .slice none 0 0, .slice none 0 0, .bool false, .int .i64 0, .slice none 0 0, .slice none 0 0, .slice none 0 0] rfl rfl rfl fun b3 => ?_
  refine wgh ?_
  refine CdH.sub (E' := [(3, .pointer (some ⟨b3, 0, none⟩)), (2, .pointer (some ⟨b2, 0, none⟩)), (1, .pointer (some ⟨b1, 0, none⟩)), (0, .bool false)]) wsub (M' := [.blk b3 ([.slice none 0 0, .slice none 0 0, .slice (some ⟨e3, 0, none⟩) 2 2, .slice none 0 0, .slice none 0 0, .slice none 0 0, .slice none 0 0, .bool false, .int .i64 0, .slice none 0 0, .slice none 0 0, .slice none 0 0] : List Value) 33, .blk e3 ([.int .i64 0, .slice none 0 0, .slice (some ⟨e1, 0, none⟩) 2 2, .int .i64 0, .slice none 0 0, .slice (some ⟨e2, 0, none⟩) 1 1] : List Value) 55, .blk e2 ([.int .i64 11, .int .i64 0, .int .i64 0, .int .u64 0, .int .i64 0, .int .i64 0, .int .i64 0, .slice none 0 0, .slice none 0 0] : List Value) 63, .blk e1 ([.int .i64 16, .int .i64 1, .int .i64 0, .int .u64 0, .int .i64 0, .int .i64 0, .int .i64 0, .slice none 0 0, .slice none 0 0, .int .i64 11, .int .i64 0, .int .i64 0, .int .u64 0, .int .i64 0, .int .i64 0, .int .i64 0, .slice none 0 0, .slice none 0 0] : List Value) 63, .blk b2 (cenC ⟨1, 4, 4, 1, 0, 0, 0, 0⟩) 38, .blk b1 ([.int .i64 11, .int .i64 0, .int .i64 0, .int .u64 0, .int .i64 0, .int .i64 0, .int .i64 0, .slice none 0 0, .slice none 0 0] : List Value) 63]) (R' := [Ext w]) wsl wsr ?_
  refine CdH.regionR [.blk b3 ([.slice none 0 0, .slice none 0 0, .slice (some ⟨e3, 0, none⟩) 2 2, .slice none 0 0, .slice none 0 0, .slice none 0 0, .slice none 0 0, .bool false, .int .i64 0, .slice none 0 0, .slice none 0 0, .slice none 0 0] : List Value) 33, .blk e3 ([.int .i64 0, .slice none 0 0, .slice (some ⟨e1, 0, none⟩) 2 2, .int .i64 0, .slice none 0 0, .slice (some ⟨e2, 0, none⟩) 1 1] : List Value) 55, .blk e2 ([.int .i64 11, .int .i64 0, .int .i64 0, .int .u64 0, .int .i64 0, .int .i64 0, .int .i64 0, .slice none 0 0, .slice none 0 0] : List Value) 63, .blk e1 ([.int .i64 16, .int .i64 1, .int .i64 0, .int .u64 0, .int .i64 0, .int .i64 0, .int .i64 0, .slice none 0 0, .slice none 0 0, .int .i64 11, .int .i64 0, .int .i64 0, .int .u64 0, .int .i64 0, .int .i64 0, .int .i64 0, .slice none 0 0, .slice none 0 0] : List Value) 63, .blk b2 (cenC ⟨1, 4, 4, 1, 0, 0, 0, 0⟩) 38, .blk b1 ([.int .i64 11, .int .i64 0, .int .i64 0, .int .u64 0, .int .i64 0, .int .i64 0, .int .i64 0, .slice none 0 0, .slice none 0 0] : List Value) 63] [Ext w] (List.Sublist.refl _) wsr ?_
  refine OpsT.join (α := Nat × Nat × Nat) (fun x => [(4, .pointer (some ⟨x.2.2, 0, none⟩)), (3, .pointer (some ⟨b3, 0, none⟩)), (2, .pointer (some ⟨b2, 0, none⟩)), (1, .pointer (some ⟨b1, 0, none⟩)), (0, .bool false)]) (fun x => [Res.blk x.2.2 ([.slice none 0 0, .slice none 0 0, .slice (some ⟨x.2.1, 0, none⟩) 2 2, .slice none 0 0, .slice none 0 0, .slice none 0 0, .slice none 0 0, .bool false, .int .i64 0, .slice none 0 0, .slice none 0 0, .slice none 0 0] : List Value) 33, Res.blk x.2.1 ([.int .i64 0, .slice none 0 0, .slice (some ⟨e1, 0, none⟩) 2 2, .int .i64 0, .slice none 0 0, .slice (some ⟨x.1, 0, none⟩) 2 2] : List Value) 55, Res.blk x.1 ([.int .i64 16, .int .i64 1, .int .i64 0, .int .u64 0, .int .i64 0, .int .i64 0, .int .i64 0, .slice none 0 0, .slice none 0 0, .int .i64 11, .int .i64 0, .int .i64 0, .int .u64 0, .int .i64 0, .int .i64 0, .int .i64 0, .slice none 0 0, .slice none 0 0] : List Value) 63, .blk b3 ([.slice none 0 0, .slice none 0 0, .slice (some ⟨e3, 0, none⟩) 2 2, .slice none 0 0, .slice none 0 0, .slice none 0 0, .slice none 0 0, .bool false, .int .i64 0, .slice none 0 0, .slice none 0 0, .slice none 0 0] : List Value) 33, .blk e3 ([.int .i64 0, .slice none 0 0, .slice (some ⟨e1, 0, none⟩) 2 2, .int .i64 0, .slice none 0 0, .slice (some ⟨e2, 0, none⟩) 1 1] : List Value) 55, .blk e2 ([.int .i64 11, .int .i64 0, .int .i64 0, .int .u64 0, .int .i64 0, .int .i64 0, .int .i64 0, .slice none 0 0, .slice none 0 0] : List Value) 63, .blk e1 ([.int .i64 16, .int .i64 1, .int .i64 0, .int .u64 0, .int .i64 0, .int .i64 0, .int .i64 0, .slice none 0 0, .slice none 0 0, .int .i64 11, .int .i64 0, .int .i64 0, .int .u64 0, .int .i64 0, .int .i64 0, .int .i64 0, .slice none 0 0, .slice none 0 0] : List Value) 63, .blk b2 (cenC ⟨1, 4, 4, 1, 0, 0, 0, 0⟩) 38, .blk b1 ([.int .i64 11, .int .i64 0, .int .i64 0, .int .u64 0, .int .i64 0, .int .i64 0, .int .i64 0, .slice none 0 0, .slice none 0 0] : List Value) 63]) (fun _ => [Ext w]) ?_ ?_
  · rintro ⟨f1, f2, b4⟩
    dsimp only
    refine wgh ?_
    refine OpsH.he (HE.callF (V := ExR) (fun x : ExV => .slice (some ⟨x.b, x.o, none⟩) 2 x.c) ex_fresh rfl rfl (fun w' hw' => calls_ex _ w' (ex1_mod (hw'.m (.blk e3 _ 55) (by repeat (first | with_reducible exact List.mem_cons_self | apply List.mem_cons_of_mem))).1 (hw'.m (.blk e2 _ 63) (by repeat (first | with_reducible exact List.mem_cons_self | apply List.mem_cons_of_mem))).1 (hw'.m (.blk e1 _ 63) (by repeat (first | with_reducible exact List.mem_cons_self | apply List.mem_cons_of_mem))).1))) rfl ?_
    rintro ⟨lo, ⟨sb, so, sc, b6, o6, c6, p7, c7⟩⟩ -
    dsimp only
    refine OpsH.der (cl sb (so + 0) (.slice (some ⟨b6, o6, none⟩) 1 c6)) (fun w' hr => (hr (fun w => ExR lo w ⟨sb, so, sc, b6, o6, c6, p7, c7⟩) (by repeat (first | with_reducible exact List.mem_cons_self | apply List.mem_cons_of_mem))).2.2.1) ?_
    refine OpsH.der (cl sb (so + 1) (.slice p7 0 c7)) (fun w' hr => (hr (fun w => ExR lo w ⟨sb, so, sc, b6, o6, c6, p7, c7⟩) (by repeat (first | with_reducible exact List.mem_cons_self | apply List.mem_cons_of_mem))).2.2.2.1) ?_
    refine OpsH.der (cl b6 (o6 + 0) (.int .i64 1)) (fun w' hr => (hr (fun w => ExR lo w ⟨sb, so, sc, b6, o6, c6, p7, c7⟩) (by repeat (first | with_reducible exact List.mem_cons_self | apply List.mem_cons_of_mem))).2.2.2.2) ?_
    refine wgh ?_
    refine OpsH.y_ (Yl.eqC (c := ⟨1, 4, 4, 1, 0, 0, 0, 0⟩) rfl rfl) rfl ?_
    refine wgh ?_
    refine OpsH.yg rfl (Yl.idx1 (i := 0) rfl rfl rfl rfl rfl rfl (by omega)) rfl ?_
    refine wgh ?_
    refine OpsH.yg rfl (Yl.idx1 (i := 0) rfl rfl rfl rfl rfl rfl (by omega)) rfl ?_
    refine wgh ?_
    refine OpsH.yg rfl (Yl.idx1 (i := 0) rfl rfl rfl rfl rfl rfl (by omega)) rfl ?_
    refine wgh ?_
    refine OpsH.yg rfl (Yl.idx1 (i := 1) rfl rfl rfl rfl rfl rfl (by omega)) rfl ?_
    refine wgh ?_
    refine OpsH.call1g (v := .int .i64 2) rfl rfl rfl rfl (fun w' hw' => ?_) ?_
    · have := census_Deep _ (mX ex1) _ w' (ex1_mod (hw'.m (.blk e3 _ 55) (by repeat (first | with_reducible exact List.mem_cons_self | apply List.mem_cons_of_mem))).1 (hw'.m (.blk e2 _ 63) (by repeat (first | with_reducible exact List.mem_cons_self | apply List.mem_cons_of_mem))).1 (hw'.m (.blk e1 _ 63) (by repeat (first | with_reducible exact List.mem_cons_self | apply List.mem_cons_of_mem))).1) (mX_lens _ (by decide)) (mX_small _ (by decide))
      rw [ex1_deep] at this; exact this
    refine wgh ?_
    refine OpsH.call1g (v := .int .i64 (-1)) rfl rfl rfl rfl (fun w' hw' => ?_) ?_
    · have := census_Deep _ (mX ex2) _ w' (ex2_mod (hw'.m (.blk f2 _ 55) (by repeat (first | with_reducible exact List.mem_cons_self | apply List.mem_cons_of_mem))).1 (hw'.m (.blk f1 _ 63) (by repeat (first | with_reducible exact List.mem_cons_self | apply List.mem_cons_of_mem))).1 (hw'.m (.blk e1 _ 63) (by repeat (first | with_reducible exact List.mem_cons_self | apply List.mem_cons_of_mem))).1) (mX_lens _ (by decide)) (mX_small _ (by decide))
      rw [ex2_deep] at this; exact this
    refine wgh ?_
    refine OpsH.call1g (v := .int .i64 0) rfl rfl rfl rfl (fun w' hw' => ?_) ?_
    · have := census_Deep _ (mX []) _ w' mod_nil (mX_lens _ (by decide)) (mX_small _ (by decide))
      rw [ex0_deep] at this; exact this
    refine wgh ?_
    exact FinH.ret1 rfl rfl fun w' hw' => ⟨rfl, hw'.at⟩
  intro hrest
  refine OpsT.q 0 rfl (by kernel_rfl) (Yl.fieldZ rfl rfl rfl) ?_
  refine OpsT.q 1 rfl (by kernel_rfl) (Yl.loadH rfl rfl rfl (by intro w_; repeat (first | ((with_reducible apply Ld.blk); rfl) | (with_reducible exact Ld.cl) | ((with_reducible apply Ld.ent); with_reducible assumption) | (exact Ld.cs 0 rfl rfl) | (exact Ld.cs _ rfl rfl) | apply Ld.tailM | apply Ld.tailR))) ?_
  refine OpsT.q 2 rfl (by kernel_rfl) (Yl.idx (i := 0) rfl rfl rfl rfl rfl rfl (by omega)) ?_
  refine OpsT.q 3 rfl (by kernel_rfl) (Yl.loadP (o := 0) rfl rfl rfl rfl wup (by repeat (first | exact SubT.zero | apply SubT.succ | apply SubC.here | apply SubC.drop))) ?_
  refine OpsT.q 4 rfl (by kernel_rfl) (Yl.buildF rfl rfl rfl (by repeat (first | exact fill0 | (apply fill1; rfl; rfl; rfl; (repeat (first | exact SetL.zero | apply SetL.succ)))))) ?_
  refine OpsT.q 5 rfl (by kernel_rfl) (Yl.loadB rfl rfl rfl rfl wup) ?_
  refine OpsT.all2 6 10 (by kernel_rfl) ?_ ?_
  · refine StepT.he rfl rfl (HE.bsl rfl rfl rfl rfl rfl wcel (by rfl) (by rfl)) (fun _ => wsl) (fun _ => wsr) ?_
    intro f1 _
    refine OpsT.q 7 rfl (by kernel_rfl) (Yl.buildF rfl rfl rfl (by repeat (first | exact fill0 | (apply fill1; rfl; rfl; rfl; (repeat (first | exact SetL.zero | apply SetL.succ)))))) ?_
    refine OpsT.all2 8 10 (by kernel_rfl) ?_ ?_
    · refine StepT.he rfl rfl (HE.bsl rfl rfl rfl rfl rfl wcel (by rfl) (by rfl)) (fun _ => wsl) (fun _ => wsr) ?_
      intro f2 _
      refine OpsT.q 9 rfl (by kernel_rfl) (Yl.buildF rfl rfl rfl (by repeat (first | exact fill0 | (apply fill1; rfl; rfl; rfl; (repeat (first | exact SetL.zero | apply SetL.succ)))))) ?_
      refine OpsT.all1 10 (by kernel_rfl) ?_
      refine StepT.he rfl rfl (HE.alloc [.slice none 0 0, .slice none 0 0, .slice none 0 0, .slice none 0 0, .slice none 0 0, .slice none 0 0, .slice none 0 0, .bool false, .int .i64 0, .slice none 0 0, .slice none 0 0, .slice none 0 0] rfl rfl) (fun _ => wsl) (fun _ => wsr) ?_
      intro b4 _
      refine OpsT.all1 11 (by kernel_rfl) ?_
      refine StepT.he0 rfl (HE0.storeB _ rfl rfl rfl rfl rfl rfl wup rfl) (fun _ => wsl) (fun _ => wsr) ?_
      rintro ⟨⟩ _
      refine OpsT.nil (by kernel_rfl) ?_
      have H := hrest (f1, f2, b4)
      dsimp only at H
      exact FinH.sub wsub wsl wsr H
    · refine StepT.he rfl rfl (HE.alloc [.slice none 0 0, .slice none 0 0, .slice none 0 0, .slice none 0 0, .slice none 0 0, .slice none 0 0, .slice none 0 0, .bool false, .int .i64 0, .slice none 0 0, .slice none 0 0, .slice none 0 0] rfl rfl) (fun _ => wsl) (fun _ => wsr) ?_
      intro b4 _
      refine OpsT.all1 8 (by kernel_rfl) ?_
      refine StepT.he rfl rfl (HE.bsl rfl rfl rfl rfl rfl wcel (by rfl) (by rfl)) (fun _ => wsl) (fun _ => wsr) ?_
      intro f2 _
      refine OpsT.q 9 rfl (by kernel_rfl) (Yl.buildF rfl rfl rfl (by repeat (first | exact fill0 | (apply fill1; rfl; rfl; rfl; (repeat (first | exact SetL.zero | apply SetL.succ)))))) ?_
      refine OpsT.all1 11 (by kernel_rfl) ?_
      refine StepT.he0 rfl (HE0.storeB _ rfl rfl rfl rfl rfl rfl wup rfl) (fun _ => wsl) (fun _ => wsr) ?_
      rintro ⟨⟩ _
      refine OpsT.nil (by kernel_rfl) ?_
      refine FinH.perm (List.Perm.swap _ _ _) ?_
      have H := hrest (f1, f2, b4)
      dsimp only at H
      exact FinH.sub wsub wsl wsr H
  · refine StepT.he rfl rfl (HE.alloc [.slice none 0 0, .slice none 0 0, .slice none 0 0, .slice none 0 0, .slice none 0 0, .slice none 0 0, .slice none 0 0, .bool false, .int .i64 0, .slice none 0 0, .slice none 0 0, .slice none 0 0] rfl rfl) (fun _ => wsl) (fun _ => wsr) ?_
    intro b4 _
    refine OpsT.all1 6 (by kernel_rfl) ?_
    refine StepT.he rfl rfl (HE.bsl rfl rfl rfl rfl rfl wcel (by rfl) (by rfl)) (fun _ => wsl) (fun _ => wsr) ?_
    intro f1 _
    refine OpsT.q 7 rfl (by kernel_rfl) (Yl.buildF rfl rfl rfl (by repeat (first | exact fill0 | (apply fill1; rfl; rfl; rfl; (repeat (first | exact SetL.zero | apply SetL.succ)))))) ?_
    refine OpsT.all1 8 (by kernel_rfl) ?_
    refine StepT.he rfl rfl (HE.bsl rfl rfl rfl rfl rfl wcel (by rfl) (by rfl)) (fun _ => wsl) (fun _ => wsr) ?_
    intro f2 _
    refine OpsT.q 9 rfl (by kernel_rfl) (Yl.buildF rfl rfl rfl (by repeat (first | exact fill0 | (apply fill1; rfl; rfl; rfl; (repeat (first | exact SetL.zero | apply SetL.succ)))))) ?_
    refine OpsT.all1 11 (by kernel_rfl) ?_
    refine StepT.he0 rfl (HE0.storeB _ rfl rfl rfl rfl rfl rfl wup rfl) (fun _ => wsl) (fun _ => wsr) ?_
    rintro ⟨⟩ _
    refine OpsT.nil (by kernel_rfl) ?_
    refine FinH.perm (List.perm_middle (l₁ := [_, _])) ?_
    dsimp only [List.cons_append, List.nil_append]
    have H := hrest (f1, f2, b4)
    dsimp only at H
    exact FinH.sub wsub wsl wsr H
end Go.Proofs.YtmkgfccfnpmcjaaGreatDoor
