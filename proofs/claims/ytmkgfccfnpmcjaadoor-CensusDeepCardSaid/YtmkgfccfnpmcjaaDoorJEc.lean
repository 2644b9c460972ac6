/- law57.alive walked. -/
import Derived.Test.YtmkgfccfnpmcjaaDoorJLa
namespace Go.Proofs.YtmkgfccfnpmcjaaDoor
open Go.RowKit
set_option maxRecDepth 100000

structure ExV where
  b : Nat
  o : Nat
  c : Nat
  b1 : Nat
  o1 : Nat
  c1 : Nat
  p2 : Option Addr
  c2 : Nat
def ExR (lo : Nat) (w : World) (x : ExV) : Prop := lo ≤ x.b ∧ lo ≤ x.b1 ∧ w.cell? ⟨x.b, x.o + 0, none⟩ = some (.slice (some ⟨x.b1, x.o1, none⟩) 1 x.c1) ∧ w.cell? ⟨x.b, x.o + 1, none⟩ = some (.slice x.p2 0 x.c2) ∧ w.cell? ⟨x.b1, x.o1 + 0, none⟩ = some (.int .i64 1)
theorem ex_fresh : Fresh ExR := fun ⟨h1, h2, h3, h4, h5⟩ hc hS => ⟨h1, h2, hc.cell (hS _ (cell_lt h3) h1) h3, hc.cell (hS _ (cell_lt h4) h1) h4, hc.cell (hS _ (cell_lt h5) h2) h5⟩
theorem calls_ex (cs : List Value) (w : World) (hm : ApiModuleV (fun _ => True) w cs (mX ex1)) : Calls G.P 8 #[.agg cs.toArray] w (fun e w' => (∃ x : ExV, e = .returned (.slice (some ⟨x.b, x.o, none⟩) 2 x.c) ∧ ExR w.heap.size w' x) ∧ Ext w w') := by
  refine (census_Calls _ (mX ex1) cs w hm (mX_lens _ (by decide)) (mX_small _ (by decide))).mono fun e w' h => ?_
  obtain ⟨⟨v, rfl, hr⟩, hx⟩ := h
  rw [ex1_calls] at hr
  obtain ⟨p, c, rfl, -, h | ⟨b, o, rfl, hF, h⟩⟩ := hr
  · cases h
  obtain ⟨u0, h0, p0, c0, rfl, -, g0 | ⟨b1, o1, rfl, hF1, g0⟩⟩ := h 0 (by decide)
  · cases g0
  obtain ⟨u1, h1, p1, c1, rfl, -, -⟩ := h 1 (by decide)
  exact ⟨⟨⟨b, o, c, b1, o1, c0, p1, c1⟩, rfl, hF, hF1, h0, h1, g0 0 (by decide)⟩, hx⟩
theorem OpsT.join {α : Type} {l : List Oper} {Q : Exit → Act → World → Prop} {Mc : List Res} {Rc : List (World → Prop)} {n fuel : Nat} {listed : Array Bool} {E : Env} {M : List Res} {R : List (World → Prop)} (E0 : α → Env) (M0 : α → List Res) (R0 : α → List (World → Prop))
    (rest : ∀ x, FinH Q n .normal (E0 x) (M0 x) (R0 x)) (h : (∀ x, FinH Q n .normal (E0 x) (M0 x) (R0 x)) → OpsT l Q Mc Rc n fuel listed E M R) : OpsT l Q Mc Rc n fuel listed E M R := h rest
abbrev TIn : Nat := 53
abbrev TCd : Nat := 56
section
variable {q q1 q2 q3 : Res} {M : List Res} {R : List (World → Prop)} {w : World}
theorem Ok.m0 (h : Ok (q :: M) R w) : q.P w := (h.m q (by simp)).1
theorem Ok.m1 (h : Ok (q :: q1 :: M) R w) : q1.P w := (h.m q1 (by simp)).1
theorem Ok.m2 (h : Ok (q :: q1 :: q2 :: M) R w) : q2.P w := (h.m q2 (by simp)).1
end
theorem at1_ {P : Nat → Prop} (h : P 0) : ∀ i, i < 1 → P i := fun i hi => by
  obtain rfl : i = 0 := by omega
  exact h
theorem at2_ {P : Nat → Prop} (h : P 0) (h1 : P 1) : ∀ i, i < 2 → P i := fun i hi => by
  rcases (show i = 0 ∨ i = 1 by omega) with rfl | rfl
  · exact h
  · exact h1
def modV (b n : Nat) : List Value := [.slice none 0 0, .slice none 0 0, .slice (some ⟨b, 0, none⟩) n n, .slice none 0 0, .slice none 0 0, .slice none 0 0, .slice none 0 0, .bool false, .int .i64 0, .slice none 0 0, .slice none 0 0, .slice none 0 0]

theorem cen_at (c : Cen) : ∀ i, i < 8 → ∃ a : Int, (cenC c)[i]? = some (.int .i64 a) := fun i hi => by
  rcases Nat.lt_or_ge i 4 with h | h
  · rcases Nat.lt_or_ge i 2 with h | h
    · rcases Nat.lt_or_ge i 1 with h | h
      · obtain rfl : i = 0 := by omega
        exact ⟨_, rfl⟩
      · obtain rfl : i = 1 := by omega
        exact ⟨_, rfl⟩
    · rcases Nat.lt_or_ge i 3 with h | h
      · obtain rfl : i = 2 := by omega
        exact ⟨_, rfl⟩
      · obtain rfl : i = 3 := by omega
        exact ⟨_, rfl⟩
  · rcases Nat.lt_or_ge i 6 with h | h
    · rcases Nat.lt_or_ge i 5 with h | h
      · obtain rfl : i = 4 := by omega
        exact ⟨_, rfl⟩
      · obtain rfl : i = 5 := by omega
        exact ⟨_, rfl⟩
    · rcases Nat.lt_or_ge i 7 with h | h
      · obtain rfl : i = 6 := by omega
        exact ⟨_, rfl⟩
      · obtain rfl : i = 7 := by omega
        exact ⟨_, rfl⟩
def fldB (P : Program) (t n : Nat) : Bool := (P.fieldsOf t).toList.all fun f => (match P.underlying f.type with | some (.int .i64) => true | _ => false) && Nat.blt f.offset n
theorem fldB_ok {P : Program} {t n : Nat} (h : fldB P t n = true) : ∀ f ∈ (P.fieldsOf t).toList, P.underlying f.type = some (.int .i64) ∧ f.offset < n := fun f hf => by
  have := List.all_eq_true.1 h f hf
  rw [Bool.and_eq_true] at this
  refine ⟨?_, by simpa using this.2⟩
  have h1 := this.1
  split at h1
  · assumption
  · cases h1
theorem Yl.eqC {n : Nat} {E : Env} {C : World → Prop} {x y : Operand} {t2 : TypeId} {c : Cen} (hx : ev E x = some (.agg (cenC c).toArray)) (hy : ev E y = some (.agg (cenC c).toArray)) : Yl G n (.binOp .eql 62 x y t2) E C (.bool true) :=
  Yl.eqCen hx hy (by kernel_rfl) (by kernel_rfl) (by kernel_rfl) fun f hf => by
    obtain ⟨h1, h2⟩ := fldB_ok (n := 8) (by kernel_rfl) f hf
    exact ⟨h1, cen_at c _ h2⟩
theorem ex1_mod {w : World} {e1 e2 e3 : Nat} (h3 : Blk w e3 ([.int .i64 0, .slice none 0 0, .slice (some ⟨e1, 0, none⟩) 2 2, .int .i64 0, .slice none 0 0, .slice (some ⟨e2, 0, none⟩) 1 1] : List Value) TCd) (h2 : Blk w e2 ([.int .i64 11, .int .i64 0, .int .i64 0, .int .u64 0, .int .i64 0, .int .i64 0, .int .i64 0, .slice none 0 0, .slice none 0 0] : List Value) TIn) (h1 : Blk w e1 ([.int .i64 16, .int .i64 1, .int .i64 0, .int .u64 0, .int .i64 0, .int .i64 0, .int .i64 0, .slice none 0 0, .slice none 0 0, .int .i64 11, .int .i64 0, .int .i64 0, .int .u64 0, .int .i64 0, .int .i64 0, .int .i64 0, .slice none 0 0, .slice none 0 0] : List Value) TIn) : ApiModuleV (fun _ => True) w ([.slice none 0 0, .slice none 0 0, .slice (some ⟨e3, 0, none⟩) 2 2, .slice none 0 0, .slice none 0 0, .slice none 0 0, .slice none 0 0, .bool false, .int .i64 0, .slice none 0 0, .slice none 0 0, .slice none 0 0] : List Value) (mX ex1) := by
  have g1 : BodyR (fun _ => True) w (.slice (some ⟨e1, 0, none⟩) 2 2) ([(16, 1), (11, 0)].map iX) := body_blk (T := TIn) (show Blk w e1 (List.flatMap iC [(16, 1), (11, 0)]) TIn from h1) (by decide) (by decide)
  have g2 : BodyR (fun _ => True) w (.slice (some ⟨e2, 0, none⟩) 1 1) ([(11, 0)].map iX) := body_blk (T := TIn) (show Blk w e2 (List.flatMap iC [(11, 0)]) TIn from h2) (by decide) (by decide)
  exact mod_blk (l := ex1) (c := 2) (vs := [.slice (some ⟨e1, 0, none⟩) 2 2, .slice (some ⟨e2, 0, none⟩) 1 1]) (T := TCd) (show Blk w e3 _ TCd from h3) rfl (by decide) (at2_ g1 g2)
theorem ex2_mod {w : World} {e1 e2 e3 : Nat} (h3 : Blk w e3 ([.int .i64 0, .slice none 0 0, .slice (some ⟨e1, 0, none⟩) 2 2, .int .i64 0, .slice none 0 0, .slice (some ⟨e2, 0, none⟩) 2 2] : List Value) TCd) (h2 : Blk w e2 ([.int .i64 16, .int .i64 1, .int .i64 0, .int .u64 0, .int .i64 0, .int .i64 0, .int .i64 0, .slice none 0 0, .slice none 0 0, .int .i64 11, .int .i64 0, .int .i64 0, .int .u64 0, .int .i64 0, .int .i64 0, .int .i64 0, .slice none 0 0, .slice none 0 0] : List Value) TIn) (h1 : Blk w e1 ([.int .i64 16, .int .i64 1, .int .i64 0, .int .u64 0, .int .i64 0, .int .i64 0, .int .i64 0, .slice none 0 0, .slice none 0 0, .int .i64 11, .int .i64 0, .int .i64 0, .int .u64 0, .int .i64 0, .int .i64 0, .int .i64 0, .slice none 0 0, .slice none 0 0] : List Value) TIn) : ApiModuleV (fun _ => True) w ([.slice none 0 0, .slice none 0 0, .slice (some ⟨e3, 0, none⟩) 2 2, .slice none 0 0, .slice none 0 0, .slice none 0 0, .slice none 0 0, .bool false, .int .i64 0, .slice none 0 0, .slice none 0 0, .slice none 0 0] : List Value) (mX ex2) := by
  have g1 : BodyR (fun _ => True) w (.slice (some ⟨e1, 0, none⟩) 2 2) ([(16, 1), (11, 0)].map iX) := body_blk (T := TIn) (show Blk w e1 (List.flatMap iC [(16, 1), (11, 0)]) TIn from h1) (by decide) (by decide)
  have g2 : BodyR (fun _ => True) w (.slice (some ⟨e2, 0, none⟩) 2 2) ([(16, 1), (11, 0)].map iX) := body_blk (T := TIn) (show Blk w e2 (List.flatMap iC [(16, 1), (11, 0)]) TIn from h2) (by decide) (by decide)
  exact mod_blk (l := ex2) (c := 2) (vs := [.slice (some ⟨e1, 0, none⟩) 2 2, .slice (some ⟨e2, 0, none⟩) 2 2]) (T := TCd) (show Blk w e3 _ TCd from h3) rfl (by decide) (at2_ g1 g2)

set_option maxHeartbeats 32000000 in
theorem law57_alive (w : World) (h0 : Env0 w) : Calls G.P 4 #[] w fun e w' => e = .returned (.bool true) ∧ Ext w w' := by
  refine enterH (l := []) Tryd.func4 rfl Tryd.ntmps4 rfl (Ok.start w) ?_
  refine wgh ?_
  refine OpsH.alloc (iC (0, 0)) rfl rfl rfl fun b1 => ?_
  refine wgh ?_
  refine OpsH.he (HE.bsl rfl rfl rfl rfl rfl wcel (by rfl) (by rfl)) rfl ?_
  intro c2 _
  refine wgh ?_
  refine OpsH.he (HE.bsl rfl rfl rfl rfl rfl wcel (by rfl) (by rfl)) rfl ?_
  intro d2 _
  refine wgh ?_
  refine OpsH.call1 (v := .agg (cenC ⟨1, 4, 4, 1, 0, 0, 0, 0⟩).toArray) rfl rfl rfl (fun w' hw' => ?_) ?_
  · have hb : BodyR (fun _ => True) w' (.slice (some ⟨c2, 0, none⟩) 4 4) ([(3, 0), (12, 0), (11, 0), (11, 0)].map iX) := body_blk (T := TIn) (show Blk w' c2 (List.flatMap iC [(3, 0), (12, 0), (11, 0), (11, 0)]) TIn from hw'.m1) (by decide) (by decide)
    have := census_Of (fun _ => True) (mX exO) _ w' (mod_blk (l := exO) (c := 1) (vs := [.slice (some ⟨c2, 0, none⟩) 4 4]) (T := TCd) (show Blk w' d2 _ TCd from hw'.m0) rfl (by decide) (at1_ hb)) (mX_small _ (by decide)) (h0.ext hw'.at)
    rw [exO_wrap] at this; exact this
  refine OpsH.alloc (cenC zC) rfl rfl rfl fun b2 => ?_
  refine wgh ?_
  refine OpsH.he (HE.bsl rfl rfl rfl rfl rfl wcel (by rfl) (by rfl)) rfl ?_
  intro e1 _
  refine wgh ?_
  refine OpsH.he (HE.bsl rfl rfl rfl rfl rfl wcel (by rfl) (by rfl)) rfl ?_
  intro e2 _
  refine wgh ?_
  refine OpsH.he (HE.bsl rfl rfl rfl rfl rfl wcel (by rfl) (by rfl)) rfl ?_
  intro e3 _
  refine wgh ?_
  refine OpsH.alloc [.slice none 0 0, .slice none 0 0, .slice none 0 0, .slice none 0 0, .slice none 0 0, .slice none 0 0, .slice none 0 0, .bool false, .int .i64 0, .slice none 0 0, .slice none 0 0, .slice none 0 0] rfl rfl rfl fun b3 => ?_
  refine wgh ?_
  refine CdH.sub (E' := [(3, .pointer (some ⟨b3, 0, none⟩)), (2, .pointer (some ⟨b2, 0, none⟩)), (1, .pointer (some ⟨b1, 0, none⟩)), (0, .bool false)]) wsub (M' := [.blk b3 ([.slice none 0 0, .slice none 0 0, .slice (some ⟨e3, 0, none⟩) 2 2, .slice none 0 0, .slice none 0 0, .slice none 0 0, .slice none 0 0, .bool false, .int .i64 0, .slice none 0 0, .slice none 0 0, .slice none 0 0] : List Value) TMod, .blk e3 ([.int .i64 0, .slice none 0 0, .slice (some ⟨e1, 0, none⟩) 2 2, .int .i64 0, .slice none 0 0, .slice (some ⟨e2, 0, none⟩) 1 1] : List Value) TCd, .blk e2 ([.int .i64 11, .int .i64 0, .int .i64 0, .int .u64 0, .int .i64 0, .int .i64 0, .int .i64 0, .slice none 0 0, .slice none 0 0] : List Value) TIn, .blk e1 ([.int .i64 16, .int .i64 1, .int .i64 0, .int .u64 0, .int .i64 0, .int .i64 0, .int .i64 0, .slice none 0 0, .slice none 0 0, .int .i64 11, .int .i64 0, .int .i64 0, .int .u64 0, .int .i64 0, .int .i64 0, .int .i64 0, .slice none 0 0, .slice none 0 0] : List Value) TIn, .blk b2 (cenC ⟨1, 4, 4, 1, 0, 0, 0, 0⟩) TCen, .blk b1 ([.int .i64 11, .int .i64 0, .int .i64 0, .int .u64 0, .int .i64 0, .int .i64 0, .int .i64 0, .slice none 0 0, .slice none 0 0] : List Value) TIn]) (R' := [Ext w]) wsl wsr ?_
  refine CdH.regionR [.blk b3 ([.slice none 0 0, .slice none 0 0, .slice (some ⟨e3, 0, none⟩) 2 2, .slice none 0 0, .slice none 0 0, .slice none 0 0, .slice none 0 0, .bool false, .int .i64 0, .slice none 0 0, .slice none 0 0, .slice none 0 0] : List Value) TMod, .blk e3 ([.int .i64 0, .slice none 0 0, .slice (some ⟨e1, 0, none⟩) 2 2, .int .i64 0, .slice none 0 0, .slice (some ⟨e2, 0, none⟩) 1 1] : List Value) TCd, .blk e2 ([.int .i64 11, .int .i64 0, .int .i64 0, .int .u64 0, .int .i64 0, .int .i64 0, .int .i64 0, .slice none 0 0, .slice none 0 0] : List Value) TIn, .blk e1 ([.int .i64 16, .int .i64 1, .int .i64 0, .int .u64 0, .int .i64 0, .int .i64 0, .int .i64 0, .slice none 0 0, .slice none 0 0, .int .i64 11, .int .i64 0, .int .i64 0, .int .u64 0, .int .i64 0, .int .i64 0, .int .i64 0, .slice none 0 0, .slice none 0 0] : List Value) TIn, .blk b2 (cenC ⟨1, 4, 4, 1, 0, 0, 0, 0⟩) TCen, .blk b1 ([.int .i64 11, .int .i64 0, .int .i64 0, .int .u64 0, .int .i64 0, .int .i64 0, .int .i64 0, .slice none 0 0, .slice none 0 0] : List Value) TIn] [Ext w] (List.Sublist.refl _) wsr ?_
  refine OpsT.join (α := Nat × Nat × Nat) (fun x => [(4, .pointer (some ⟨x.2.2, 0, none⟩)), (3, .pointer (some ⟨b3, 0, none⟩)), (2, .pointer (some ⟨b2, 0, none⟩)), (1, .pointer (some ⟨b1, 0, none⟩)), (0, .bool false)]) (fun x => [Res.blk x.2.2 ([.slice none 0 0, .slice none 0 0, .slice (some ⟨x.2.1, 0, none⟩) 2 2, .slice none 0 0, .slice none 0 0, .slice none 0 0, .slice none 0 0, .bool false, .int .i64 0, .slice none 0 0, .slice none 0 0, .slice none 0 0] : List Value) TMod, Res.blk x.2.1 ([.int .i64 0, .slice none 0 0, .slice (some ⟨e1, 0, none⟩) 2 2, .int .i64 0, .slice none 0 0, .slice (some ⟨x.1, 0, none⟩) 2 2] : List Value) TCd, Res.blk x.1 ([.int .i64 16, .int .i64 1, .int .i64 0, .int .u64 0, .int .i64 0, .int .i64 0, .int .i64 0, .slice none 0 0, .slice none 0 0, .int .i64 11, .int .i64 0, .int .i64 0, .int .u64 0, .int .i64 0, .int .i64 0, .int .i64 0, .slice none 0 0, .slice none 0 0] : List Value) TIn, .blk b3 ([.slice none 0 0, .slice none 0 0, .slice (some ⟨e3, 0, none⟩) 2 2, .slice none 0 0, .slice none 0 0, .slice none 0 0, .slice none 0 0, .bool false, .int .i64 0, .slice none 0 0, .slice none 0 0, .slice none 0 0] : List Value) TMod, .blk e3 ([.int .i64 0, .slice none 0 0, .slice (some ⟨e1, 0, none⟩) 2 2, .int .i64 0, .slice none 0 0, .slice (some ⟨e2, 0, none⟩) 1 1] : List Value) TCd, .blk e2 ([.int .i64 11, .int .i64 0, .int .i64 0, .int .u64 0, .int .i64 0, .int .i64 0, .int .i64 0, .slice none 0 0, .slice none 0 0] : List Value) TIn, .blk e1 ([.int .i64 16, .int .i64 1, .int .i64 0, .int .u64 0, .int .i64 0, .int .i64 0, .int .i64 0, .slice none 0 0, .slice none 0 0, .int .i64 11, .int .i64 0, .int .i64 0, .int .u64 0, .int .i64 0, .int .i64 0, .int .i64 0, .slice none 0 0, .slice none 0 0] : List Value) TIn, .blk b2 (cenC ⟨1, 4, 4, 1, 0, 0, 0, 0⟩) TCen, .blk b1 ([.int .i64 11, .int .i64 0, .int .i64 0, .int .u64 0, .int .i64 0, .int .i64 0, .int .i64 0, .slice none 0 0, .slice none 0 0] : List Value) TIn]) (fun _ => [Ext w]) ?_ ?_
  · rintro ⟨f1, f2, b4⟩
    dsimp only
    refine wgh ?_
    refine OpsH.he (HE.callF (V := ExR) (fun x : ExV => .slice (some ⟨x.b, x.o, none⟩) 2 x.c) ex_fresh rfl rfl (fun w' hw' => calls_ex _ w' (ex1_mod (hw'.m (.blk e3 _ TCd) (by repeat (first | with_reducible exact List.mem_cons_self | apply List.mem_cons_of_mem))).1 (hw'.m (.blk e2 _ TIn) (by repeat (first | with_reducible exact List.mem_cons_self | apply List.mem_cons_of_mem))).1 (hw'.m (.blk e1 _ TIn) (by repeat (first | with_reducible exact List.mem_cons_self | apply List.mem_cons_of_mem))).1))) rfl ?_
    rintro ⟨lo, ⟨sb, so, sc, b6, o6, c6, p7, c7⟩⟩ -
    dsimp only
    refine OpsH.der (cl sb (so + 0) (.slice (some ⟨b6, o6, none⟩) 1 c6)) (fun w' hr => (hr (fun w => ExR lo w ⟨sb, so, sc, b6, o6, c6, p7, c7⟩) (by repeat (first | with_reducible exact List.mem_cons_self | apply List.mem_cons_of_mem))).2.2.1) ?_
    refine OpsH.der (cl sb (so + 1) (.slice p7 0 c7)) (fun w' hr => (hr (fun w => ExR lo w ⟨sb, so, sc, b6, o6, c6, p7, c7⟩) (by repeat (first | with_reducible exact List.mem_cons_self | apply List.mem_cons_of_mem))).2.2.2.1) ?_
    refine OpsH.der (cl b6 (o6 + 0) (.int .i64 1)) (fun w' hr => (hr (fun w => ExR lo w ⟨sb, so, sc, b6, o6, c6, p7, c7⟩) (by repeat (first | with_reducible exact List.mem_cons_self | apply List.mem_cons_of_mem))).2.2.2.2) ?_
    refine wgh ?_
    refine OpsH.y_ (Yl.eqC (c := ⟨1, 4, 4, 1, 0, 0, 0, 0⟩) rfl rfl) rfl ?_
    refine wgh ?_
    refine OpsH.yg rfl (Yl.idx1 (i := 0) rfl rfl rfl rfl rfl rfl (by omega)) rfl ?_
    refine wgh ?_
    refine OpsH.yg rfl (Yl.idx1 (i := 0) rfl rfl rfl rfl rfl rfl (by omega)) rfl ?_
    refine wgh ?_
    refine OpsH.yg rfl (Yl.idx1 (i := 0) rfl rfl rfl rfl rfl rfl (by omega)) rfl ?_
    refine wgh ?_
    refine OpsH.yg rfl (Yl.idx1 (i := 1) rfl rfl rfl rfl rfl rfl (by omega)) rfl ?_
    refine wgh ?_
    refine OpsH.call1g (v := .int .i64 2) rfl rfl rfl rfl (fun w' hw' => ?_) ?_
    · have := census_Deep _ (mX ex1) _ w' (ex1_mod (hw'.m (.blk e3 _ TCd) (by repeat (first | with_reducible exact List.mem_cons_self | apply List.mem_cons_of_mem))).1 (hw'.m (.blk e2 _ TIn) (by repeat (first | with_reducible exact List.mem_cons_self | apply List.mem_cons_of_mem))).1 (hw'.m (.blk e1 _ TIn) (by repeat (first | with_reducible exact List.mem_cons_self | apply List.mem_cons_of_mem))).1) (mX_lens _ (by decide)) (mX_small _ (by decide))
      rw [ex1_deep] at this; exact this
    refine wgh ?_
    refine OpsH.call1g (v := .int .i64 (-1)) rfl rfl rfl rfl (fun w' hw' => ?_) ?_
    · have := census_Deep _ (mX ex2) _ w' (ex2_mod (hw'.m (.blk f2 _ TCd) (by repeat (first | with_reducible exact List.mem_cons_self | apply List.mem_cons_of_mem))).1 (hw'.m (.blk f1 _ TIn) (by repeat (first | with_reducible exact List.mem_cons_self | apply List.mem_cons_of_mem))).1 (hw'.m (.blk e1 _ TIn) (by repeat (first | with_reducible exact List.mem_cons_self | apply List.mem_cons_of_mem))).1) (mX_lens _ (by decide)) (mX_small _ (by decide))
      rw [ex2_deep] at this; exact this
    refine wgh ?_
    refine OpsH.call1g (v := .int .i64 0) rfl rfl rfl rfl (fun w' hw' => ?_) ?_
    · have := census_Deep _ (mX []) _ w' mod_nil (mX_lens _ (by decide)) (mX_small _ (by decide))
      rw [ex0_deep] at this; exact this
    refine wgh ?_
    exact FinH.ret1 rfl rfl fun w' hw' => ⟨rfl, hw'.at⟩
  intro hrest
  refine OpsT.q 0 rfl (by kernel_rfl) (Yl.fieldZ rfl rfl rfl) ?_
  refine OpsT.q 1 rfl (by kernel_rfl) (Yl.loadH rfl rfl rfl (by intro w_; repeat (first | ((with_reducible apply Ld.blk); rfl) | (with_reducible exact Ld.cl) | ((with_reducible apply Ld.ent); with_reducible assumption) | (exact Ld.cs 0 rfl rfl) | (exact Ld.cs _ rfl rfl) | apply Ld.tailM | apply Ld.tailR))) ?_
  refine OpsT.q 2 rfl (by kernel_rfl) (Yl.idx (i := 0) rfl rfl rfl rfl rfl rfl (by omega)) ?_
  refine OpsT.q 3 rfl (by kernel_rfl) (Yl.loadP (o := 0) rfl rfl rfl rfl wup (by repeat (first | exact SubT.zero | apply SubT.succ | apply SubC.here | apply SubC.drop))) ?_
  refine OpsT.q 4 rfl (by kernel_rfl) (Yl.buildF rfl rfl rfl (by repeat (first | exact fill0 | (apply fill1; rfl; rfl; rfl; (repeat (first | exact SetL.zero | apply SetL.succ)))))) ?_
  refine OpsT.q 5 rfl (by kernel_rfl) (Yl.loadB rfl rfl rfl rfl wup) ?_
  refine OpsT.all2 6 10 (by kernel_rfl) ?_ ?_
  · refine StepT.he rfl rfl (HE.bsl rfl rfl rfl rfl rfl wcel (by rfl) (by rfl)) (fun _ => wsl) (fun _ => wsr) ?_
    intro f1 _
    refine OpsT.q 7 rfl (by kernel_rfl) (Yl.buildF rfl rfl rfl (by repeat (first | exact fill0 | (apply fill1; rfl; rfl; rfl; (repeat (first | exact SetL.zero | apply SetL.succ)))))) ?_
    refine OpsT.all2 8 10 (by kernel_rfl) ?_ ?_
    · refine StepT.he rfl rfl (HE.bsl rfl rfl rfl rfl rfl wcel (by rfl) (by rfl)) (fun _ => wsl) (fun _ => wsr) ?_
      intro f2 _
      refine OpsT.q 9 rfl (by kernel_rfl) (Yl.buildF rfl rfl rfl (by repeat (first | exact fill0 | (apply fill1; rfl; rfl; rfl; (repeat (first | exact SetL.zero | apply SetL.succ)))))) ?_
      refine OpsT.all1 10 (by kernel_rfl) ?_
      refine StepT.he rfl rfl (HE.alloc [.slice none 0 0, .slice none 0 0, .slice none 0 0, .slice none 0 0, .slice none 0 0, .slice none 0 0, .slice none 0 0, .bool false, .int .i64 0, .slice none 0 0, .slice none 0 0, .slice none 0 0] rfl rfl) (fun _ => wsl) (fun _ => wsr) ?_
      intro b4 _
      refine OpsT.all1 11 (by kernel_rfl) ?_
      refine StepT.he0 rfl (HE0.storeB _ rfl rfl rfl rfl rfl rfl wup rfl) (fun _ => wsl) (fun _ => wsr) ?_
      rintro ⟨⟩ _
      refine OpsT.nil (by kernel_rfl) ?_
      have H := hrest (f1, f2, b4)
      dsimp only at H
      exact FinH.sub wsub wsl wsr H
    · refine StepT.he rfl rfl (HE.alloc [.slice none 0 0, .slice none 0 0, .slice none 0 0, .slice none 0 0, .slice none 0 0, .slice none 0 0, .slice none 0 0, .bool false, .int .i64 0, .slice none 0 0, .slice none 0 0, .slice none 0 0] rfl rfl) (fun _ => wsl) (fun _ => wsr) ?_
      intro b4 _
      refine OpsT.all1 8 (by kernel_rfl) ?_
      refine StepT.he rfl rfl (HE.bsl rfl rfl rfl rfl rfl wcel (by rfl) (by rfl)) (fun _ => wsl) (fun _ => wsr) ?_
      intro f2 _
      refine OpsT.q 9 rfl (by kernel_rfl) (Yl.buildF rfl rfl rfl (by repeat (first | exact fill0 | (apply fill1; rfl; rfl; rfl; (repeat (first | exact SetL.zero | apply SetL.succ)))))) ?_
      refine OpsT.all1 11 (by kernel_rfl) ?_
      refine StepT.he0 rfl (HE0.storeB _ rfl rfl rfl rfl rfl rfl wup rfl) (fun _ => wsl) (fun _ => wsr) ?_
      rintro ⟨⟩ _
      refine OpsT.nil (by kernel_rfl) ?_
      refine FinH.perm (List.Perm.swap _ _ _) ?_
      have H := hrest (f1, f2, b4)
      dsimp only at H
      exact FinH.sub wsub wsl wsr H
  · refine StepT.he rfl rfl (HE.alloc [.slice none 0 0, .slice none 0 0, .slice none 0 0, .slice none 0 0, .slice none 0 0, .slice none 0 0, .slice none 0 0, .bool false, .int .i64 0, .slice none 0 0, .slice none 0 0, .slice none 0 0] rfl rfl) (fun _ => wsl) (fun _ => wsr) ?_
    intro b4 _
    refine OpsT.all1 6 (by kernel_rfl) ?_
    refine StepT.he rfl rfl (HE.bsl rfl rfl rfl rfl rfl wcel (by rfl) (by rfl)) (fun _ => wsl) (fun _ => wsr) ?_
    intro f1 _
    refine OpsT.q 7 rfl (by kernel_rfl) (Yl.buildF rfl rfl rfl (by repeat (first | exact fill0 | (apply fill1; rfl; rfl; rfl; (repeat (first | exact SetL.zero | apply SetL.succ)))))) ?_
    refine OpsT.all1 8 (by kernel_rfl) ?_
    refine StepT.he rfl rfl (HE.bsl rfl rfl rfl rfl rfl wcel (by rfl) (by rfl)) (fun _ => wsl) (fun _ => wsr) ?_
    intro f2 _
    refine OpsT.q 9 rfl (by kernel_rfl) (Yl.buildF rfl rfl rfl (by repeat (first | exact fill0 | (apply fill1; rfl; rfl; rfl; (repeat (first | exact SetL.zero | apply SetL.succ)))))) ?_
    refine OpsT.all1 11 (by kernel_rfl) ?_
    refine StepT.he0 rfl (HE0.storeB _ rfl rfl rfl rfl rfl rfl wup rfl) (fun _ => wsl) (fun _ => wsr) ?_
    rintro ⟨⟩ _
    refine OpsT.nil (by kernel_rfl) ?_
    refine FinH.perm (List.perm_middle (l₁ := [_, _])) ?_
    dsimp only [List.cons_append, List.nil_append]
    have H := hrest (f1, f2, b4)
    dsimp only at H
    exact FinH.sub wsub wsl wsr H
end Go.Proofs.YtmkgfccfnpmcjaaDoor
/- Plain law: a chain of functions, with whatever forward calls; and with one backward call. -/
namespace Go.Proofs.YtmkgfccfnpmcjaaDoor
open Go.RowKit

/-- the module with im imported functions (by imports xs) and these bodies -/
def mD (xs : List ApiImport) (l : List (List (Int × Int))) : ApiModule := { mX l with imports := xs }
/-- body i of a chain of k functions: its calls go to imports or forward; one to the next -/
structure ChainB (im k i : Nat) (l : List (Int × Int)) : Prop where
  len : l.length ≤ 3 + 200
  rng : ∀ p ∈ l, (p.1 = 16 ∨ p.1 = 11) ∧ 0 ≤ p.2 ∧ p.2 ≤ 1000
  fwd : ∀ p ∈ l, p.1 = 16 → p.2 < im ∨ ∃ b : Nat, i < b ∧ b < k ∧ p.2 = im + b
  nxt : i + 1 < k → ((16 : Int), ((im + i + 1 : Nat) : Int)) ∈ l
def Chain (im k : Nat) (ls : List (List (Int × Int))) : Prop := ls.length = k ∧ ∀ i, i < k → ChainB im k i (ix ls i)
theorem mD_body {xs : List ApiImport} {ls : List (List (Int × Int))} {i : Nat} (h : i < ls.length) : (ix (mD xs ls).funcs i).body = (ix ls i).map iX := by
  show (ix (ls.map cX) i).body = _
  rw [ix_map h]; rfl
theorem mD_len (xs : List ApiImport) (ls : List (List (Int × Int))) : (mD xs ls).funcs.length = ls.length := by show (ls.map cX).length = _; simp
theorem mD_calls {xs : List ApiImport} {ls : List (List (Int × Int))} {i : Nat} (h : i < ls.length) : ix (callsM (mD xs ls)) i = callsB ((ix ls i).map iX) (impN (mD xs ls) 0) ls.length := by
  rw [callsM_ix (by rw [mD_len]; exact h), mD_body h, mD_len]
theorem mem_calls {xs : List ApiImport} {ls : List (List (Int × Int))} {i im : Nat} {a : Int} (h : i < ls.length) (hi : impN (mD xs ls) 0 = im) : a ∈ ix (callsM (mD xs ls)) i ↔ ∃ k : Nat, a = k ∧ k < ls.length ∧ ((16 : Int), (im : Int) + k) ∈ ix ls i := by
  rw [mD_calls h, hi, mem_callsB]
  constructor
  · rintro ⟨k, e, hk, x, hx, h1, h2⟩
    obtain ⟨p, hp, rfl⟩ := List.mem_map.1 hx
    refine ⟨k, e, hk, ?_⟩
    have : p = (16, (im : Int) + k) := Prod.ext h1 h2
    rwa [← this]
  · rintro ⟨k, e, hk, hm⟩
    exact ⟨k, e, hk, iX (16, im + k), List.mem_map.2 ⟨_, hm, rfl⟩, rfl, rfl⟩
theorem calls_len (xs : List ApiImport) (ls : List (List (Int × Int))) : (callsM (mD xs ls)).length = ls.length := by
  have := mD_len xs ls
  simp only [callsM, List.length_map]; exact this
/-- the chain's depth -/
theorem chain_deep {xs : List ApiImport} {ls : List (List (Int × Int))} {im k : Nat} (h : Chain im k ls) (hk : 0 < k) (hi : impN (mD xs ls) 0 = im) : deepG (callsM (mD xs ls)) = k := by
  obtain ⟨hl, hc⟩ := h
  have hgl : (callsM (mD xs ls)).length = k := by rw [calls_len, hl]
  have hin := callsM_in (mD xs ls)
  refine deepG_hts (h := fun i => k - i) ⟨fun i hi' => by omega, hin, fun i hi' b hb => ?_, fun i hi' h1 => ?_⟩ (fun i hi' => by omega) (.inr ⟨0, by omega, by simp⟩)
  · rw [hgl] at hi'
    obtain ⟨b', e, hb', hm⟩ := (mem_calls (by omega) hi).1 hb
    have e' : b = b' := by omega
    subst e'
    rcases (hc i hi').fwd _ hm rfl with h2 | ⟨b2, h2, h3, h4⟩
    · simp only at h2; omega
    · simp only at h4; show k - b < k - i; omega
  · rw [hgl] at hi'
    refine ⟨i + 1, (mem_calls (by omega) hi).2 ⟨i + 1, rfl, by omega, ?_⟩, by show k - i = k - (i + 1) + 1; omega⟩
    have h2 := (hc i hi').nxt (by omega)
    have e : ((im + i + 1 : Nat) : Int) = (im : Int) + (i + 1 : Nat) := by omega
    rw [e] at h2
    exact h2
/-- along the chain -/
theorem chain_walk {xs : List ApiImport} {ls : List (List (Int × Int))} {im k : Nat} (h : Chain im k ls) (hi : impN (mD xs ls) 0 = im) (y : Nat) : ∀ d, y + d < k → Wk (callsM (mD xs ls)) d y (y + d)
  | 0, hd => .nil (by rw [calls_len, h.1]; exact hd)
  | d + 1, hd => by
    have h1 := chain_walk h hi y d (by omega)
    refine h1.snoc ((mem_calls (by rw [h.1]; omega) hi).2 ⟨y + (d + 1), rfl, by rw [h.1]; exact hd, ?_⟩) (by rw [calls_len, h.1]; exact hd)
    have h2 := (h.2 (y + d) (by omega)).nxt (by omega)
    have e : ((im + (y + d) + 1 : Nat) : Int) = (im : Int) + (y + (d + 1) : Nat) := by omega
    rw [e] at h2
    exact h2
/-- a walk stays where calls are added -/
theorem Wk.more {g g' : List (List Int)} (hl : g'.length = g.length) (h : ∀ i, i < g.length → ∀ a ∈ ix g i, a ∈ ix g' i) {m i k : Nat} (w : Wk g m i k) : Wk g' m i k := by
  induction w with
  | nil hi => exact .nil (by omega)
  | cons hi e _ ih => exact .cons (by omega) (h _ hi _ e) ih
/-- a backward call makes a ring -/
theorem back_ring {xs : List ApiImport} {ls : List (List (Int × Int))} {im k x y : Nat} (h : Chain im k ls) (hx : x < k) (hy : y ≤ x) (hi : impN (mD xs ls) 0 = im) : deepG (callsM (mD xs (ls.set x (((16 : Int), (im : Int) + y) :: ix ls x)))) = -1 := by
  have hl2 : (ls.set x (((16 : Int), (im : Int) + y) :: ix ls x)).length = k := by rw [List.length_set, h.1]
  have hi2 : impN (mD xs (ls.set x (((16 : Int), (im : Int) + y) :: ix ls x))) 0 = im := hi
  have hix : ∀ i, i < k → ix (ls.set x (((16 : Int), (im : Int) + y) :: ix ls x)) i = if i = x then ((16 : Int), (im : Int) + y) :: ix ls x else ix ls i := fun i hi => by
    rw [ix_set (by rw [h.1]; exact hx)]
  have w0 := (chain_walk h hi y (x - y) (by omega)).more (g' := callsM (mD xs (ls.set x (((16 : Int), (im : Int) + y) :: ix ls x)))) (by rw [calls_len, calls_len, hl2, h.1]) (fun i hi' a ha => by
    rw [calls_len, h.1] at hi'
    obtain ⟨b, e, hb, hm⟩ := (mem_calls (by rw [h.1]; exact hi') hi).1 ha
    refine (mem_calls (by omega) hi2).2 ⟨b, e, by rw [hl2, ← h.1]; exact hb, ?_⟩
    rw [hix i hi']
    split
    · rename_i e2; subst e2; exact List.mem_cons_of_mem _ hm
    · exact hm)
  rw [show y + (x - y) = x by omega] at w0
  refine deepG_ring (p := x - y) (i := y) (w0.snoc ((mem_calls (by omega) hi2).2 ⟨y, rfl, by omega, ?_⟩) (by rw [calls_len, hl2]; omega))
  rw [hix x hx, if_pos rfl]; exact List.mem_cons_self
/-- a forward call keeps the chain -/
theorem Chain.fwd_ {im k a b : Nat} {ls : List (List (Int × Int))} (h : Chain im k ls) (ha : a < b) (hb : b < k) (hlen : (ix ls a).length < 203) (him : im + k ≤ 1000) : Chain im k (ls.set a (((16 : Int), (im : Int) + b) :: ix ls a)) := by
  refine ⟨by rw [List.length_set, h.1], fun i hi => ?_⟩
  rw [ix_set (by rw [h.1]; omega)]
  have hc := h.2 i hi
  split
  · rename_i e
    subst e
    refine ⟨by simp; omega, fun p hp => ?_, fun p hp h16 => ?_, fun h1 => List.mem_cons_of_mem _ (hc.nxt h1)⟩
    · rcases List.mem_cons.1 hp with rfl | hp
      · exact ⟨.inl rfl, by dsimp only; omega, by dsimp only; omega⟩
      · exact hc.rng p hp
    · rcases List.mem_cons.1 hp with rfl | hp
      · exact .inr ⟨b, ha, hb, rfl⟩
      · exact hc.fwd p hp h16
  · exact hc
end Go.Proofs.YtmkgfccfnpmcjaaDoor
/- Rules and readings for a module that is being built in memory. -/
namespace Go.Proofs.YtmkgfccfnpmcjaaDoor
open Go.RowKit
set_option maxRecDepth 100000

section
variable {n : Nat} {E : Env} {M M' : List Res} {R R' : List (World → Prop)} {v : Value} {x y z : Operand} {t t2 : TypeId} {C : World → Prop} {ops : Array Oper} {Q : Exit → Act → World → Prop} {l rest : List Oper} {op : Op} {d : Nat} {ty : TypeId} {pos : String} {aft : Array Edge}
theorem Yl.remN {k : IntKind} {p q : Int} (a b : Nat) (hx : ev E x = some (.int k p)) (hy : ev E y = some (.int k q)) (hp : p = (a : Int)) (hq : q = (b : Int)) (hb : 0 < b) : Yl G n (.binOp .rem t x y t2) E C (.int k ((a % b : Nat) : Int)) := Yl.bin hx hy (fun w => by
  have h0 : ¬ q = 0 := by omega
  simp only [binOp, Op.intDiv, h0, if_false]
  rw [hp, hq, ← Int.ofNat_tmod]; simp)
theorem Yl.quoN {k : IntKind} {p q : Int} (a b : Nat) (hx : ev E x = some (.int k p)) (hy : ev E y = some (.int k q)) (hp : p = (a : Int)) (hq : q = (b : Int)) (hb : 0 < b) (hw : k.wrap ((a / b : Nat) : Int) = ((a / b : Nat) : Int)) : Yl G n (.binOp .quo t x y t2) E C (.int k ((a / b : Nat) : Int)) := Yl.bin hx hy (fun w => by
  have h0 : ¬ q = 0 := by omega
  simp only [binOp, Op.intDiv, h0, if_false]
  rw [hp, hq, ← Int.ofNat_tdiv, hw]; simp)
theorem wrap_u16 {n : Int} (h : 0 ≤ n ∧ n ≤ 65535) : IntKind.wrap .u16 n = n := by
  unfold IntKind.wrap
  have e1 : (2 ^ IntKind.u16.bits : Int) = 65536 := by decide
  have e3 : IntKind.u16.signed = false := rfl
  simp only [e1, e3, Bool.false_and, Bool.false_eq_true, if_false]
  omega
/-- a cell of a row of the call's own -/
theorem Yl.loadOs {ti : TI} {B T g m cap i s o : Nat} {xs : List Value} {u : Value} (ht : G.ty t = some ti) (ha : ti.agg = false) (hx : ev E x = some (.pointer (some ⟨g, o, none⟩))) (ho : o = i) (hu : xs[i]? = some u) (hM : Res.own B T s (.slice (some ⟨g, 0, none⟩) m cap) m xs ∈ M) : Yl G n (.load t x) E (Ok M R) u :=
  Yl.load ht ha hx fun w hw => by subst ho; exact own_get (hw.m _ hM).1 hu
theorem HE0.setOs {ti : TI} {B T g cap m i s o : Nat} {xs : List Value} (ht : G.ty t = some ti) (hs : ti.size = 1) (hx : ev E x = some (.pointer (some ⟨g, o, none⟩))) (ho : o = i) (hy : ev E y = some v) (hv : v.oneCell' = true)
    (hM : Up (.own B T s (.slice (some ⟨g, 0, none⟩) m cap) m xs) (.own B T s (.slice (some ⟨g, 0, none⟩) m cap) m (xs.set i v)) M M') (hi : i < xs.length) : HE0 n (.store t x y) E M R (fun _ : Unit => True) (fun _ => M') (fun _ => R) :=
  ⟨fun w hw => by
    subst ho
    have ho : w.ownsRow B T s (.slice (some ⟨g, 0, none⟩) m cap) m xs := (hw.m _ hM.mem).1
    have hlt := (hw.m _ hM.mem).2
    refine (Eff.store ht hs hx hy hv (own_get ho (List.getElem?_eq_getElem hi)) (World.ownsRow.frozenAt ho _)).mono fun _ w' e => ?_
    subst e
    obtain ⟨h1, h2⟩ := World.ownsRow.stored ho o v
    refine ⟨(), trivial, hw.upd hM ((Chg.ofGrown h2).mono fun k _ e => e) h1 (fun k hk => ⟨?_, fun _ => hk⟩)⟩
    have := hlt k hk
    have := (Chg.ofGrown h2).size
    omega⟩
/-- a slice written out, in memory from B on -/
theorem HE.bslB {B e len s : Nat} {ti te : TI} {parts : List (Nat × Operand)} {vs cs : List Value} (hB : ∀ w, Ok M R w → B ≤ w.heap.size) (ht : G.ty t = some ti) (he : ti.elem = some e) (hte : G.ty e = some te) (hs : te.size = s) (hv : evs E (parts.map (·.2)) = some vs) (_hc : Cells vs cs) (hlen : Nat.ble (len * s) 16777216 = true) (hf : fillS s (zrow len s te.zero.cells.toList) ((parts.map (·.1)).zip vs) = some cs) :
    HE n (.buildSlice t len parts.toArray) E M R (fun b : Nat => B ≤ b) (fun b => .slice (some ⟨b, 0, none⟩) len len) (fun b => .blk b cs e :: M) (fun _ => R) :=
  ⟨fun w hw => (Eff.buildSlice hv (run_bslice w ht he hte hs hlen hf)).mono fun _v _w' ⟨e1, hn⟩ => ⟨w.heap.size, hB w hw, e1, hw.push hn.ext hn.blk (blk_lt hn)⟩⟩
theorem own_of_blkB {w : World} {B b n s T : Nat} {cs : List Value} (h : Blk w b cs T) (hl : cs.length = n * s) (hB : B ≤ b) (hn : n ≤ 1000000) : w.ownsRow B T s (.slice (some ⟨b, 0, none⟩) n n) n cs :=
  ⟨hl, .inr ⟨b, n, cs.toArray, rfl, hB, h, Nat.le_refl _, by unfold maxLen; omega, by simp [hl], by simp [← hl]⟩⟩
theorem Ok.toOwnB {w : World} {B b m s T : Nat} {cs : List Value} (hw : Ok M R w) (hM : Up (.blk b cs T) (.own B T s (.slice (some ⟨b, 0, none⟩) m m) m cs) M M') (hl : cs.length = m * s) (hB : B ≤ b) (hn : m ≤ 1000000) : Ok M' R w :=
  hw.upd hM (Chg.refl _ w) (own_of_blkB (hw.m _ hM.mem).1 hl hB hn) (fun k hk => by
    have hk' : some b = some k := hk
    cases hk'
    exact ⟨(hw.m _ hM.mem).2 b rfl, fun _ => rfl⟩)
theorem OpsH.toOwnB {B b m s T : Nat} {cs : List Value} (hM : Up (.blk b cs T) (.own B T s (.slice (some ⟨b, 0, none⟩) m m) m cs) M M') (hl : cs.length = m * s) (hB : B ≤ b) (hn : m ≤ 1000000) (h : OpsH ops Q n l E M' R) : OpsH ops Q n l E M R := ⟨fun w hw => h.h w (hw.toOwnB hM hl hB hn)⟩
theorem OpsS.toOwnB {Mc : List Res} {Rc : List (World → Prop)} {B b m s T : Nat} {cs : List Value} (hM : Up (.blk b cs T) (.own B T s (.slice (some ⟨b, 0, none⟩) m m) m cs) M M') (hl : cs.length = m * s) (hB : B ≤ b) (hn : m ≤ 1000000) (h : OpsS ops Q Mc Rc n l E M' R) : OpsS ops Q Mc Rc n l E M R := ⟨fun w hw => h.h w (hw.toOwnB hM hl hB hn)⟩
theorem OpsS.freeze {Mc : List Res} {Rc : List (World → Prop)} {q : Res} (p : World → Prop) (hr : Rm q M M') (hp : ∀ w', q.P w' → (∀ r, r ∈ R → r w') → p w') (h : OpsS ops Q Mc Rc n l E M' (p :: R)) : OpsS ops Q Mc Rc n l E M R := ⟨fun w hw => h.h w (hw.freeze' hr hp)⟩
end
/-- v is a body, in memory from B on -/
def BC (B : Nat) (v : Value) (l : List (Int × Int)) : World → Prop := fun w => ∃ bk c, v = .slice (some ⟨bk, 0, none⟩) l.length c ∧ B ≤ bk ∧ ∀ j u, (l.flatMap iC)[j]? = some u → w.cell? ⟨bk, j, none⟩ = some u
theorem BC.own {w : World} {B : Nat} {v : Value} {l : List (Int × Int)} {m : Nat} {cs : List Value} (h : w.ownsRow B TIn 9 v m cs) (hm : m = l.length) (hc : cs = l.flatMap iC) (hl : 0 < l.length) : BC B v l w := by
  subst hm hc
  obtain ⟨p, c, rfl, _, _, hg⟩ := own_slice h
  obtain ⟨g, rfl, hB, _⟩ := hg hl
  exact ⟨g, c, rfl, hB, fun j u hj => own_get h hj⟩
theorem BC.blk {w : World} {B b m c : Nat} {l : List (Int × Int)} {cs : List Value} (h : Blk w b cs TIn) (hm : m = l.length) (hc : cs = l.flatMap iC) (hB : B ≤ b) : BC B (.slice (some ⟨b, 0, none⟩) m c) l w := by
  subst hm hc
  exact ⟨b, c, rfl, hB, fun j u hj => h.cell hj⟩
theorem BC.body {w : World} {B : Nat} {v : Value} {l : List (Int × Int)} (h : BC B v l w) (hl : l.length ≤ 1000) (hr : ∀ p ∈ l, R64 p.1 ∧ R64 p.2) : BodyR (fun _ => True) w v (l.map iX) := by
  obtain ⟨b, c, rfl, _, hc0⟩ := h
  refine ⟨_, c, by rw [List.length_map], by rw [List.length_map]; omega, .inr ⟨b, 0, rfl, trivial, fun i hi => ?_⟩⟩
  have hi' : i < l.length := by simpa using hi
  rw [ix_map hi', Nat.zero_add]
  have hc : ∀ j v, j < 9 → (iC (ix l i))[j]? = some v → w.cell? ⟨b, i * 9 + j, none⟩ = some v := fun j v hj hv => hc0 _ _ (by rw [flatMap_get iC (s := 9) (fun _ => rfl) l i j hi' hj]; exact hv)
  have hr' := hr (ix l i) (by rw [ix_eq hi']; exact List.getElem_mem hi')
  exact ⟨hc 0 _ (by omega) rfl, hc 1 _ (by omega) rfl, hc 2 _ (by omega) rfl, hc 3 _ (by omega) rfl, hc 4 _ (by omega) rfl, hc 5 _ (by omega) rfl, hc 6 _ (by omega) rfl, ⟨_, hc 7 _ (by omega) rfl, IntsR.nil0 _ _⟩, ⟨_, hc 8 _ (by omega) rfl, IntsR.nil0 _ _⟩, hr'.1, hr'.2⟩
def RowsBC (B : Nat) (vs : List Value) (ls : List (List (Int × Int))) : World → Prop := fun w => vs.length = ls.length ∧ ∀ i, i < ls.length → BC B (ix vs i) (ix ls i) w
theorem RowsBC.app {B : Nat} {vs : List Value} {ls : List (List (Int × Int))} {w : World} (h : RowsBC B vs ls w) {v : Value} {l : List (Int × Int)} (hv : BC B v l w) : RowsBC B (vs ++ [v]) (ls ++ [l]) w := by
  obtain ⟨h1, h2⟩ := h
  refine ⟨by simp [h1], fun i hi => ?_⟩
  by_cases hlt : i < ls.length
  · rw [ix_app_l hlt, ix_app_l (a := vs) (by omega)]; exact h2 i hlt
  · have e : i = ls.length := by simp at hi; omega
    subst e
    rw [ix_app_r (a := ls) (Nat.le_refl _), ix_app_r (a := vs) (by omega), h1, Nat.sub_self]; exact hv
theorem RowsBC.set {B : Nat} {vs : List Value} {ls : List (List (Int × Int))} {w : World} (h : RowsBC B vs ls w) {v : Value} {l : List (Int × Int)} {a : Nat} (ha : a < ls.length) (hv : BC B v l w) : RowsBC B (vs.set a v) (ls.set a l) w := by
  obtain ⟨h1, h2⟩ := h
  refine ⟨by simp [h1], fun i hi => ?_⟩
  rw [List.length_set] at hi
  rw [ix_set (by omega), ix_set ha]
  by_cases e : i = a
  · rw [if_pos e, if_pos e]; exact hv
  · rw [if_neg e, if_neg e]; exact h2 i hi
/-- the cells of the functions -/
def fC_ (vs : List Value) : List Value := vs.flatMap codC
theorem fC_len (vs : List Value) : (fC_ vs).length = vs.length * 3 := flatMap_len codC (s := 3) (fun _ => rfl) vs
theorem fC_app (vs : List Value) (v : Value) : fC_ (vs ++ [v]) = fC_ vs ++ codC v := by unfold fC_; rw [List.flatMap_append]; simp
theorem fC_get {vs : List Value} {a : Nat} (h : a < vs.length) : (fC_ vs)[a * 3 + 2]? = some (ix vs a) := by
  have := flatMap_get codC (s := 3) (fun _ => rfl) vs a 2 h (by omega)
  exact this
theorem fC_set {vs : List Value} {a : Nat} {v : Value} (h : a < vs.length) : (fC_ vs).set (a * 3 + 2) v = fC_ (vs.set a v) := by
  unfold fC_
  induction vs generalizing a with
  | nil => simp at h
  | cons u r ih =>
    cases a with
    | zero => simp [codC]
    | succ a =>
      have h' : a < r.length := by simpa using h
      rw [List.set_cons_succ, List.flatMap_cons, List.flatMap_cons, ← ih h', List.set_append_right _ _ (by simp [codC]; omega)]
      congr 2
      simp [codC]; omega
/-- an imported function -/
def zI : List Value := [.string ⟨#[]⟩, .string ⟨#[]⟩, .int .i64 0, .int .i64 0, .int .i64 0, .int .i64 0, .int .i64 0, .bool false, .int .i64 0, .int .i64 0, .bool false, .int .i64 0, .bool false]
def xI : ApiImport := ⟨⟨#[]⟩, ⟨#[]⟩, 0, 0, ⟨0, ⟨0, 0, false⟩⟩, ⟨0, 0, false⟩, ⟨0, false⟩⟩
theorem R64_0 : R64 0 := by unfold R64; omega
theorem xI_v (F : Nat → Prop) (w : World) : ApiImportV F w zI xI := by
  refine ⟨rfl, ?_⟩
  simp only [xI]
  refine ⟨by decide, by decide, R64_0, R64_0, R64_0, R64_0, R64_0, R64_0, R64_0, ?_⟩
  first | exact R64_0 | exact ⟨R64_0, trivial⟩ | skip
def iC_ (n : Nat) : List Value := (List.replicate n xI).flatMap fun _ => zI
theorem iC_app (n : Nat) : iC_ (n + 1) = iC_ n ++ zI := by unfold iC_; rw [List.replicate_succ', List.flatMap_append]; simp
theorem imps_read {w : World} {B n : Nat} {v : Value} {T : TypeId} (h : w.ownsRow B T 13 v n (iC_ n)) (hn : n ≤ 100) : SlR 13 1172812402926 ApiImportR (fun _ => True) w v (List.replicate n xI) := by
  obtain ⟨p, c, rfl, _, _, hg⟩ := own_slice h
  refine ⟨p, c, by rw [List.length_replicate], by rw [List.length_replicate]; omega, ?_⟩
  by_cases h0 : n = 0
  · subst h0; exact .inl rfl
  · obtain ⟨g, rfl, hB, _⟩ := hg (by omega)
    refine .inr ⟨g, 0, rfl, trivial, fun i hi => ?_⟩
    rw [List.length_replicate] at hi
    rw [show ix (List.replicate n xI) i = xI by rw [ix_eq (by rw [List.length_replicate]; exact hi)]; simp]
    refine ⟨zI, xI_v _ _, fun j hj => ?_⟩
    have e := flatMap_get (fun _ : ApiImport => zI) (s := 13) (fun _ => rfl) (List.replicate n xI) i j (by rw [List.length_replicate]; exact hi) hj
    rw [Nat.zero_add, List.getElem?_eq_getElem (show j < zI.length from hj)]
    refine own_get h ?_
    unfold iC_
    rw [e, List.getElem?_eq_getElem (show j < zI.length from hj)]
theorem imps_n (n : Nat) (ls : List (List (Int × Int))) : impN (mD (List.replicate n xI) ls) 0 = n := by
  show (((List.replicate n xI).take (List.replicate n xI).length).filter fun x => decide (x.kind = 0)).length = n
  rw [List.take_length, List.filter_replicate]
  simp [xI]
theorem mD_small {xs : List ApiImport} {ls : List (List (Int × Int))} (h : ∀ i, i < ls.length → (ix ls i).length ≤ 1000) : SmallM (mD xs ls) := mX_small ls h
theorem mD_lens {n : Nat} {ls : List (List (Int × Int))} (h : ls.length ≤ 100) (hn : n ≤ 100) : LensP (mD (List.replicate n xI) ls) := by
  have h1 := mX_lens ls h
  exact ⟨h1.1, by simp [mD]; exact hn, h1.2.2⟩
/-- the module that has been built -/
theorem mD_read {w : World} {B g c n : Nat} {vi : Value} {vs : List Value} {ls : List (List (Int × Int))} {xs : List ApiImport} (ho : w.ownsRow B TCd 3 (.slice (some ⟨g, 0, none⟩) n c) n (fC_ vs)) (hn : n = ls.length) (hr : RowsBC B vs ls w) (hi : SlR 13 1172812402926 ApiImportR (fun _ => True) w vi xs) (hl2 : ls.length ≤ 1000) (hb : ∀ i, i < ls.length → (ix ls i).length ≤ 1000 ∧ ∀ p ∈ ix ls i, R64 p.1 ∧ R64 p.2) :
    ApiModuleV (fun _ => True) w [.slice none 0 0, vi, .slice (some ⟨g, 0, none⟩) n c, .slice none 0 0, .slice none 0 0, .slice none 0 0, .slice none 0 0, .bool false, .int .i64 0, .slice none 0 0, .slice none 0 0, .slice none 0 0] (mD xs ls) := by
  subst hn
  obtain ⟨hl, hrr⟩ := hr
  refine ⟨_, _, _, _, _, _, _, _, _, _, rfl, SlR.nil, hi, ⟨_, c, by simp [mD, mX], by simp [mD, mX]; omega, .inr ⟨g, 0, rfl, trivial, fun i hi => ?_⟩⟩, SlR.nil, SlR.nil, SlR.nil, SlR.nil, SlR.nil, SlR.nil, SlR.nil, R64_0⟩
  have hi' : i < ls.length := by simpa [mD, mX] using hi
  show ApiCodeR _ w g (0 + i * 3) (ix (ls.map cX) i)
  rw [ix_map hi', Nat.zero_add]
  refine ⟨codC (ix vs i), ⟨_, _, rfl, IntsR.nil0 _ _, (hrr i hi').body (hb i hi').1 (hb i hi').2, R64_0⟩, fun j hj => ?_⟩
  have e := flatMap_get codC (s := 3) (fun _ => rfl) vs i j (by omega) hj
  rw [← e]
  have hlt : i * 3 + j < (fC_ vs).length := by rw [fC_len]; omega
  show _ = (fC_ vs)[i * 3 + j]?
  rw [List.getElem?_eq_getElem hlt]
  exact own_get ho (List.getElem?_eq_getElem hlt)
end Go.Proofs.YtmkgfccfnpmcjaaDoor
/- law57.CensusDeep walked. -/
namespace Go.Proofs.YtmkgfccfnpmcjaaDoor
open Go.RowKit
set_option maxRecDepth 100000

/-- v is a slice of small numbers -/
def U16R (w : World) (v : Value) (ms : List Nat) : Prop := ∃ p c, v = .slice p ms.length c ∧ (ms = [] ∨ ∃ b o, p = some ⟨b, o, none⟩ ∧ ∀ i, i < ms.length → w.cell? ⟨b, o + i, none⟩ = some (.int .u16 ((ix ms i : Nat) : Int)) ∧ ix ms i ≤ 65535)
def mdC (vi vf : Value) : List Value := [.slice none 0 0, vi, vf, .slice none 0 0, .slice none 0 0, .slice none 0 0, .slice none 0 0, .bool false, .int .i64 0, .slice none 0 0, .slice none 0 0, .slice none 0 0]
theorem chain_r64 {im k : Nat} {ls : List (List (Int × Int))} (h : Chain im k ls) : ∀ i, i < ls.length → (ix ls i).length ≤ 1000 ∧ ∀ p ∈ ix ls i, R64 p.1 ∧ R64 p.2 := fun i hi => by
  have hc := h.2 i (by rw [← h.1]; exact hi)
  refine ⟨by have := hc.len; omega, fun p hp => ?_⟩
  obtain ⟨h1, h2, h3⟩ := hc.rng p hp
  unfold R64
  rcases h1 with h1 | h1 <;> omega
theorem BC.form {B : Nat} {v : Value} {l : List (Int × Int)} {w : World} (h : BC B v l w) : ∃ bk c, v = .slice (some ⟨bk, 0, none⟩) l.length c := by obtain ⟨b, c, e, _⟩ := h; exact ⟨b, c, e⟩
theorem BC.get {B bk c n : Nat} {l : List (Int × Int)} {w : World} (h : BC B (.slice (some ⟨bk, 0, none⟩) n c) l w) {j : Nat} {u : Value} (hj : (l.flatMap iC)[j]? = some u) : w.cell? ⟨bk, 0 + j, none⟩ = some u := by
  obtain ⟨b, c', e, _, h1⟩ := h
  cases e
  rw [Nat.zero_add]; exact h1 j u hj
theorem one_all (l : List (Int × Int)) : ∀ u ∈ l.flatMap iC, u.oneCell' = true := by
  intro u hu
  obtain ⟨q, _, hq⟩ := List.mem_flatMap.1 hu
  simp only [iC, List.mem_cons, List.not_mem_nil, or_false] at hq
  rcases hq with rfl | rfl | rfl | rfl | rfl | rfl | rfl | rfl | rfl <;> rfl
theorem flat_len9 (l : List (Int × Int)) : (l.flatMap iC).length = l.length * 9 := flatMap_len iC (s := 9) (fun _ => rfl) l

/-- one body more -/
theorem chain_next {im k q : Nat} {ls : List (List (Int × Int))} (h : ∀ t, t < q → ChainB im k t (ix ls t) ∧ (ix ls t).length ≤ 3) (hl : ls.length = q) (hq : q < k) (hk : k ≤ 30) (him : im ≤ 4) (l : List (Int × Int)) (hb : (∀ p ∈ l, p = ((16 : Int), ((q % im : Nat) : Int)) ∧ 0 < im ∨ p = ((16 : Int), ((im + q + 1 : Nat) : Int)) ∧ q + 1 < k ∨ p = ((11 : Int), (0 : Int))) ∧ (q + 1 < k → ((16 : Int), ((im + q + 1 : Nat) : Int)) ∈ l) ∧ l.length ≤ 3) : ∀ t, t < q + 1 → ChainB im k t (ix (ls ++ [l]) t) ∧ (ix (ls ++ [l]) t).length ≤ 3 := by
  intro t ht
  obtain ⟨h1, h2, h3⟩ := hb
  by_cases hlt : t < q
  · rw [ix_app_l (by omega)]; exact h t hlt
  · obtain rfl : t = q := by omega
    rw [ix_app_r (by omega), hl, Nat.sub_self]
    show ChainB im k t l ∧ l.length ≤ 3
    refine ⟨⟨by omega, fun p hp => ?_, fun p hp h16 => ?_, h2⟩, h3⟩
    · rcases h1 p hp with ⟨rfl, h4⟩ | ⟨rfl, h4⟩ | rfl
      · have := Nat.mod_lt t h4; dsimp only; omega
      · dsimp only; omega
      · dsimp only; omega
    · rcases h1 p hp with ⟨rfl, h4⟩ | ⟨rfl, h4⟩ | rfl
      · have := Nat.mod_lt t h4; left; dsimp only; omega
      · exact .inr ⟨t + 1, by omega, h4, by dsimp only; omega⟩
      · cases h16
set_option maxHeartbeats 64000000 in
theorem law57_CensusDeep (n0 im0 fr tt : Nat) (ms : List Nat) (bk : Bool) (vm : Value) (w : World) (_hn0 : n0 ≤ 255) (_him0 : im0 ≤ 255) (hfr : fr ≤ 255) (htt : tt ≤ 255) (hms : U16R w vm ms) (h0 : Env0 w) : Calls G.P 3 #[.int .u8 ((n0 : Nat) : Int), .int .u8 ((im0 : Nat) : Int), vm, .bool bk, .int .u8 ((fr : Nat) : Int), .int .u8 ((tt : Nat) : Int)] w fun e w' => e = .returned (.bool true) ∧ Ext w w' := by
  obtain ⟨pm, cm, rfl, hmem⟩ := hms
  obtain ⟨k, hkk⟩ : ∃ k, k = n0 % 30 + 1 := ⟨_, rfl⟩
  obtain ⟨im, hii⟩ : ∃ im, im = im0 % 5 := ⟨_, rfl⟩
  have hk1 : 0 < k ∧ k ≤ 30 := by omega
  have hi1 : im ≤ 4 := by omega
  refine enterH (l := [.int .u8 ((n0 : Nat) : Int), .int .u8 ((im0 : Nat) : Int), .slice pm ms.length cm, .bool bk, .int .u8 ((fr : Nat) : Int), .int .u8 ((tt : Nat) : Int)]) Tryd.func3 rfl Tryd.ntmps3 rfl (Ok.start w) ?_
  refine wgh ?_
  refine OpsH.y_ (Yl.remN n0 30 rfl rfl rfl rfl (by omega)) rfl ?_
  refine wgh ?_
  refine OpsH.y_ (Yl.remN im0 5 rfl rfl rfl rfl (by omega)) rfl ?_
  by_cases hlm : 60 < ms.length
  · refine wgh ?_
    refine OpsH.call1 rfl rfl rfl (fun w' hw' => law57_alive w' (h0.ext hw'.at)) ?_
    refine wgh ?_
    exact FinH.ret1 rfl rfl fun w' hw' => ⟨rfl, hw'.at⟩
  refine wgh ?_
  refine OpsH.alloc ([.slice none 0 0, .slice none 0 0, .slice none 0 0, .slice none 0 0, .slice none 0 0, .slice none 0 0, .slice none 0 0, .bool false, .int .i64 0, .slice none 0 0, .slice none 0 0, .slice none 0 0] : List Value) rfl rfl rfl fun b15 => ?_
  refine wgh ?_
  refine CdH.nilO w.heap.size TImp 13 ?_
  refine CdH.loop (σ := Nat × Value) (fun s => [(2, .slice pm ms.length cm), (3, .bool bk), (4, .int .u8 ((fr : Nat) : Int)), (5, .int .u8 ((tt : Nat) : Int)), (13, .int .i64 (k : Nat)), (14, .int .i64 (im : Nat)), (15, .pointer (some ⟨b15, 0, none⟩)), (16, .int .i64 s.1)]) (fun s => [.own w.heap.size TImp 13 s.2 s.1 (iC_ s.1), .blk b15 ([.slice none 0 0, s.2, .slice none 0 0, .slice none 0 0, .slice none 0 0, .slice none 0 0, .slice none 0 0, .bool false, .int .i64 0, .slice none 0 0, .slice none 0 0, .slice none 0 0] : List Value) TMod]) (fun _ => [Ext w]) (fun s => s.1 ≤ im) (fun s => im - s.1) (0, .slice none 0 0) wsub wsl wsr (by dsimp only; omega) ?_
  rintro ⟨i, vi⟩ hi
  dsimp only at hi ⊢
  refine CdH.pure (φ := ∃ p c, vi = .slice p i c) (fun w' hw' => ?_) ?_
  · obtain ⟨p, c, e, _⟩ := own_slice (hw'.own (v := vi)); exact ⟨p, c, e⟩
  rintro ⟨pi, ci, rfl⟩
  by_cases hlt : i < im
  · refine wgh ?_
    refine OpsH.he (HE.bsl rfl rfl rfl rfl rfl wcel (by rfl) (by rfl)) rfl ?_
    intro bz _
    refine OpsH.he (HE.app rfl rfl (fun _ => wup) wup rfl rfl rfl (by rfl) (by rfl) (by rfl) (by rfl) (by rfl) (by rfl) (by omega) szR) rfl ?_
    intro v2 _
    refine OpsH.pure (φ := ∃ p c, v2 = .slice p (i + 1) c) (fun w' hw' => ?_) ?_
    · obtain ⟨p, c, e, _⟩ := own_slice (hw'.own (v := v2)); exact ⟨p, c, e⟩
    rintro ⟨p2, c2, rfl⟩
    refine wgh ?_
    exact FinH.next (i + 1, .slice p2 (i + 1) c2) wsub (by dsimp only; rw [iC_app]; exact wsl) wsr (by dsimp only; omega) (by dsimp only; omega)
  obtain rfl : i = im := by omega
  refine CdH.freeze (fun w' => SlR 13 1172812402926 ApiImportR (fun _ => True) w' (.slice pi i ci) (List.replicate i xI)) wrm (fun w' hq _ => imps_read hq (by omega)) ?_
  have hi1 : i ≤ 4 := by omega
  clear hlt hi
  refine wgh ?_
  refine CdH.nilO w.heap.size TCd 3 ?_
  refine CdH.der (RowsBC w.heap.size [] []) (fun w' _ => ⟨rfl, fun t ht => by simp at ht⟩) ?_
  refine CdH.loop (σ := Nat × Value × List Value × List (List (Int × Int))) (fun s => [(2, .slice pm ms.length cm), (3, .bool bk), (4, .int .u8 ((fr : Nat) : Int)), (5, .int .u8 ((tt : Nat) : Int)), (13, .int .i64 (k : Nat)), (14, .int .i64 (i : Nat)), (15, .pointer (some ⟨b15, 0, none⟩)), (17, .int .i64 s.1)]) (fun s => [.own w.heap.size TCd 3 s.2.1 s.1 (fC_ s.2.2.1), .blk b15 ([.slice none 0 0, .slice pi i ci, s.2.1, .slice none 0 0, .slice none 0 0, .slice none 0 0, .slice none 0 0, .bool false, .int .i64 0, .slice none 0 0, .slice none 0 0, .slice none 0 0] : List Value) TMod]) (fun s => [RowsBC w.heap.size s.2.2.1 s.2.2.2, (fun w' => SlR 13 1172812402926 ApiImportR (fun _ => True) w' (.slice pi i ci) (List.replicate i xI)), Ext w]) (fun s => s.1 ≤ k ∧ s.2.2.1.length = s.1 ∧ s.2.2.2.length = s.1 ∧ ∀ t, t < s.1 → ChainB i k t (ix s.2.2.2 t) ∧ (ix s.2.2.2 t).length ≤ 3) (fun s => k - s.1) (0, .slice none 0 0, [], []) wsub wsl wsr ⟨by dsimp only; omega, rfl, rfl, fun t ht => by simp at ht⟩ ?_
  rintro ⟨q, vf, vs, ls⟩ ⟨hq, hvs, hls, hch⟩
  dsimp only at hq hvs hls hch ⊢
  refine CdH.pure (φ := ∃ p c, vf = .slice p q c) (fun w' hw' => ?_) ?_
  · obtain ⟨p, c, e, _⟩ := own_slice (hw'.own (v := vf)); exact ⟨p, c, e⟩
  rintro ⟨pf, cf, rfl⟩
  by_cases hlt : q < k
  · refine wgh ?_
    refine OpsH.he (HE.bslB (B := w.heap.size) szR rfl rfl rfl rfl rfl wcel (by rfl) (by rfl)) rfl ?_
    intro b18 hb18
    by_cases hnx : q + 1 < k
    · refine wgh ?_
      refine OpsH.he (HE.bslB (B := w.heap.size) szR rfl rfl rfl rfl rfl wcel (by rfl) (by rfl)) rfl ?_
      intro b18' hb18'
      clear hb18
      have hb18 := hb18'
      by_cases him : 0 < i
      · refine wgh ?_
        refine OpsH.y_ (Yl.remN q i rfl rfl rfl rfl him) rfl ?_
        refine wgh ?_
        refine OpsH.he (HE.bslB (B := w.heap.size) szR rfl rfl rfl rfl rfl wcel (by rfl) (by rfl)) rfl ?_
        intro b71 hb71
        refine wgh ?_
        refine OpsH.toOwnB (B := w.heap.size) (m := 1) (s := 9) wup rfl hb71 (by omega) ?_
        refine OpsH.he (HE.appR (([((16 : Int), ((i + q + 1 : Nat) : Int)), ((11 : Int), (0 : Int))] : List (Int × Int)).flatMap iC) rfl rfl (fun _ => wup) (.inr ⟨b18', 0, rfl, fun w' hw' j u hj => ?_⟩) (by rfl) rfl rfl rfl (by rfl) (by rfl) (by rfl) (by rfl) (one_all _) (by omega) szR) rfl ?_
        · rw [Nat.zero_add]; have hb9 := (hw'.m (.blk b18' _ TIn) wmm).1; exact (show Blk w' b18' _ TIn from hb9).cell hj
        intro v18 _
        refine OpsH.pure (φ := ∃ p c, v18 = .slice p (1 + 2) c) (fun w' hw' => ?_) ?_
        · obtain ⟨p, c, e, _⟩ := own_slice (hw'.own (v := v18)); exact ⟨p, c, e⟩
        rintro ⟨p18, c18, rfl⟩
        refine wgh ?_
        refine OpsH.freeze (BC w.heap.size (.slice p18 (1 + 2) c18) (((16 : Int), ((q % i : Nat) : Int)) :: ([((16 : Int), ((i + q + 1 : Nat) : Int)), ((11 : Int), (0 : Int))] : List (Int × Int)))) wrm (fun w' hq' _ => BC.own hq' rfl rfl (by simp)) ?_
        refine OpsH.der (RowsBC w.heap.size (vs ++ [.slice p18 (1 + 2) c18]) (ls ++ [(((16 : Int), ((q % i : Nat) : Int)) :: ([((16 : Int), ((i + q + 1 : Nat) : Int)), ((11 : Int), (0 : Int))] : List (Int × Int)))])) (fun w' hw' => RowsBC.app (all_at hw') (all_at hw')) ?_
        refine OpsH.he (HE.bsl rfl rfl rfl rfl rfl wcel (by rfl) (by rfl)) rfl ?_
        intro bl _
        refine OpsH.he (HE.app rfl rfl (fun _ => wup) wup rfl rfl rfl (by rfl) (by rfl) (by rfl) (by rfl) (by rfl) (by rfl) (by omega) szR) rfl ?_
        intro vf2 _
        refine OpsH.pure (φ := ∃ p c, vf2 = .slice p (q + 1) c) (fun w' hw' => ?_) ?_
        · obtain ⟨p, c, e, _⟩ := own_slice (hw'.own (v := vf2)); exact ⟨p, c, e⟩
        rintro ⟨p2, c2, rfl⟩
        refine wgh ?_
        refine FinH.next (q + 1, .slice p2 (q + 1) c2, vs ++ [.slice p18 (1 + 2) c18], ls ++ [(((16 : Int), ((q % i : Nat) : Int)) :: ([((16 : Int), ((i + q + 1 : Nat) : Int)), ((11 : Int), (0 : Int))] : List (Int × Int)))]) wsub (by dsimp only; rw [fC_app]; exact wsl) (by dsimp only; repeat (first | exact subR_nil | refine subR_cons (by repeat (first | with_reducible exact List.mem_cons_self | apply List.mem_cons_of_mem)) ?_)) ⟨by dsimp only; omega, by simp; omega, by simp; omega, fun t ht => ?_⟩ (by dsimp only; omega)
        exact chain_next hch hls (by omega) (by omega) (by omega) _ ⟨by simp [hnx, him], by simp [hnx], by simp⟩ t ht
      · refine wgh ?_
        refine OpsH.freeze (BC w.heap.size (.slice (some ⟨b18', 0, none⟩) 2 2) ([((16 : Int), ((i + q + 1 : Nat) : Int)), ((11 : Int), (0 : Int))] : List (Int × Int))) wrm (fun w' hq' _ => BC.blk hq' rfl rfl hb18) ?_
        refine OpsH.der (RowsBC w.heap.size (vs ++ [.slice (some ⟨b18', 0, none⟩) 2 2]) (ls ++ [([((16 : Int), ((i + q + 1 : Nat) : Int)), ((11 : Int), (0 : Int))] : List (Int × Int))])) (fun w' hw' => RowsBC.app (all_at hw') (all_at hw')) ?_
        refine OpsH.he (HE.bsl rfl rfl rfl rfl rfl wcel (by rfl) (by rfl)) rfl ?_
        intro bl _
        refine OpsH.he (HE.app rfl rfl (fun _ => wup) wup rfl rfl rfl (by rfl) (by rfl) (by rfl) (by rfl) (by rfl) (by rfl) (by omega) szR) rfl ?_
        intro vf2 _
        refine OpsH.pure (φ := ∃ p c, vf2 = .slice p (q + 1) c) (fun w' hw' => ?_) ?_
        · obtain ⟨p, c, e, _⟩ := own_slice (hw'.own (v := vf2)); exact ⟨p, c, e⟩
        rintro ⟨p2, c2, rfl⟩
        refine wgh ?_
        refine FinH.next (q + 1, .slice p2 (q + 1) c2, vs ++ [.slice (some ⟨b18', 0, none⟩) 2 2], ls ++ [([((16 : Int), ((i + q + 1 : Nat) : Int)), ((11 : Int), (0 : Int))] : List (Int × Int))]) wsub (by dsimp only; rw [fC_app]; exact wsl) (by dsimp only; repeat (first | exact subR_nil | refine subR_cons (by repeat (first | with_reducible exact List.mem_cons_self | apply List.mem_cons_of_mem)) ?_)) ⟨by dsimp only; omega, by simp; omega, by simp; omega, fun t ht => ?_⟩ (by dsimp only; omega)
        exact chain_next hch hls (by omega) (by omega) (by omega) _ ⟨by simp [hnx, him], by simp [hnx], by simp⟩ t ht
    · refine wgh ?_
      by_cases him : 0 < i
      · refine wgh ?_
        refine OpsH.y_ (Yl.remN q i rfl rfl rfl rfl him) rfl ?_
        refine wgh ?_
        refine OpsH.he (HE.bslB (B := w.heap.size) szR rfl rfl rfl rfl rfl wcel (by rfl) (by rfl)) rfl ?_
        intro b71 hb71
        refine wgh ?_
        refine OpsH.toOwnB (B := w.heap.size) (m := 1) (s := 9) wup rfl hb71 (by omega) ?_
        refine OpsH.he (HE.appR (([((11 : Int), (0 : Int))] : List (Int × Int)).flatMap iC) rfl rfl (fun _ => wup) (.inr ⟨b18, 0, rfl, fun w' hw' j u hj => ?_⟩) (by rfl) rfl rfl rfl (by rfl) (by rfl) (by rfl) (by rfl) (one_all _) (by omega) szR) rfl ?_
        · rw [Nat.zero_add]; have hb9 := (hw'.m (.blk b18 _ TIn) wmm).1; exact (show Blk w' b18 _ TIn from hb9).cell hj
        intro v18 _
        refine OpsH.pure (φ := ∃ p c, v18 = .slice p (1 + 1) c) (fun w' hw' => ?_) ?_
        · obtain ⟨p, c, e, _⟩ := own_slice (hw'.own (v := v18)); exact ⟨p, c, e⟩
        rintro ⟨p18, c18, rfl⟩
        refine wgh ?_
        refine OpsH.freeze (BC w.heap.size (.slice p18 (1 + 1) c18) (((16 : Int), ((q % i : Nat) : Int)) :: ([((11 : Int), (0 : Int))] : List (Int × Int)))) wrm (fun w' hq' _ => BC.own hq' rfl rfl (by simp)) ?_
        refine OpsH.der (RowsBC w.heap.size (vs ++ [.slice p18 (1 + 1) c18]) (ls ++ [(((16 : Int), ((q % i : Nat) : Int)) :: ([((11 : Int), (0 : Int))] : List (Int × Int)))])) (fun w' hw' => RowsBC.app (all_at hw') (all_at hw')) ?_
        refine OpsH.he (HE.bsl rfl rfl rfl rfl rfl wcel (by rfl) (by rfl)) rfl ?_
        intro bl _
        refine OpsH.he (HE.app rfl rfl (fun _ => wup) wup rfl rfl rfl (by rfl) (by rfl) (by rfl) (by rfl) (by rfl) (by rfl) (by omega) szR) rfl ?_
        intro vf2 _
        refine OpsH.pure (φ := ∃ p c, vf2 = .slice p (q + 1) c) (fun w' hw' => ?_) ?_
        · obtain ⟨p, c, e, _⟩ := own_slice (hw'.own (v := vf2)); exact ⟨p, c, e⟩
        rintro ⟨p2, c2, rfl⟩
        refine wgh ?_
        refine FinH.next (q + 1, .slice p2 (q + 1) c2, vs ++ [.slice p18 (1 + 1) c18], ls ++ [(((16 : Int), ((q % i : Nat) : Int)) :: ([((11 : Int), (0 : Int))] : List (Int × Int)))]) wsub (by dsimp only; rw [fC_app]; exact wsl) (by dsimp only; repeat (first | exact subR_nil | refine subR_cons (by repeat (first | with_reducible exact List.mem_cons_self | apply List.mem_cons_of_mem)) ?_)) ⟨by dsimp only; omega, by simp; omega, by simp; omega, fun t ht => ?_⟩ (by dsimp only; omega)
        exact chain_next hch hls (by omega) (by omega) (by omega) _ ⟨by simp [hnx, him], by simp [hnx], by simp⟩ t ht
      · refine wgh ?_
        refine OpsH.freeze (BC w.heap.size (.slice (some ⟨b18, 0, none⟩) 1 1) ([((11 : Int), (0 : Int))] : List (Int × Int))) wrm (fun w' hq' _ => BC.blk hq' rfl rfl hb18) ?_
        refine OpsH.der (RowsBC w.heap.size (vs ++ [.slice (some ⟨b18, 0, none⟩) 1 1]) (ls ++ [([((11 : Int), (0 : Int))] : List (Int × Int))])) (fun w' hw' => RowsBC.app (all_at hw') (all_at hw')) ?_
        refine OpsH.he (HE.bsl rfl rfl rfl rfl rfl wcel (by rfl) (by rfl)) rfl ?_
        intro bl _
        refine OpsH.he (HE.app rfl rfl (fun _ => wup) wup rfl rfl rfl (by rfl) (by rfl) (by rfl) (by rfl) (by rfl) (by rfl) (by omega) szR) rfl ?_
        intro vf2 _
        refine OpsH.pure (φ := ∃ p c, vf2 = .slice p (q + 1) c) (fun w' hw' => ?_) ?_
        · obtain ⟨p, c, e, _⟩ := own_slice (hw'.own (v := vf2)); exact ⟨p, c, e⟩
        rintro ⟨p2, c2, rfl⟩
        refine wgh ?_
        refine FinH.next (q + 1, .slice p2 (q + 1) c2, vs ++ [.slice (some ⟨b18, 0, none⟩) 1 1], ls ++ [([((11 : Int), (0 : Int))] : List (Int × Int))]) wsub (by dsimp only; rw [fC_app]; exact wsl) (by dsimp only; repeat (first | exact subR_nil | refine subR_cons (by repeat (first | with_reducible exact List.mem_cons_self | apply List.mem_cons_of_mem)) ?_)) ⟨by dsimp only; omega, by simp; omega, by simp; omega, fun t ht => ?_⟩ (by dsimp only; omega)
        exact chain_next hch hls (by omega) (by omega) (by omega) _ ⟨by simp [hnx, him], by simp [hnx], by simp⟩ t ht
  obtain rfl : q = k := by omega
  refine CdH.pure (φ := ∃ g, pf = some ⟨g, 0, none⟩) (fun w' hw' => ?_) ?_
  · obtain ⟨p, c, e, _, _, hg⟩ := own_slice (hw'.own (v := .slice pf q cf))
    cases e
    obtain ⟨g, e, _⟩ := hg hk1.1
    exact ⟨g, e⟩
  rintro ⟨g, rfl⟩
  have hchain : Chain i q ls := ⟨hls, fun t ht => (hch t ht).1⟩
  have hl3 : ∀ t, t < q → (ix ls t).length ≤ 3 + 0 := fun t ht => (hch t ht).2
  clear hch hls hlt hq
  refine wgh ?_
  refine CdH.loop (σ := Nat × List Value × List (List (Int × Int))) (fun s => [(2, .slice pm ms.length cm), (3, .bool bk), (4, .int .u8 ((fr : Nat) : Int)), (5, .int .u8 ((tt : Nat) : Int)), (13, .int .i64 (q : Nat)), (14, .int .i64 (i : Nat)), (15, .pointer (some ⟨b15, 0, none⟩)), (19, .int .i64 s.1)]) (fun s => [.own w.heap.size TCd 3 (.slice (some ⟨g, 0, none⟩) q cf) q (fC_ s.2.1), .blk b15 ([.slice none 0 0, .slice pi i ci, .slice (some ⟨g, 0, none⟩) q cf, .slice none 0 0, .slice none 0 0, .slice none 0 0, .slice none 0 0, .bool false, .int .i64 0, .slice none 0 0, .slice none 0 0, .slice none 0 0] : List Value) TMod]) (fun s => [RowsBC w.heap.size s.2.1 s.2.2, (fun w' => SlR 13 1172812402926 ApiImportR (fun _ => True) w' (.slice pi i ci) (List.replicate i xI)), Ext w]) (fun s => s.1 ≤ ms.length ∧ s.2.1.length = q ∧ Chain i q s.2.2 ∧ ∀ t, t < q → (ix s.2.2 t).length ≤ 3 + s.1) (fun s => ms.length - s.1) (0, vs, ls) wsub wsl wsr ⟨by dsimp only; omega, hvs, hchain, hl3⟩ ?_
  clear hchain hl3 hvs vs ls
  rintro ⟨j, vs, ls⟩ ⟨hj, hvs, hchain, hl3⟩
  dsimp only at hj hvs hchain hl3 ⊢
  have hll := hchain.1
  by_cases hlt : j < ms.length
  · obtain ⟨bm, om, rfl, hcm⟩ : ∃ b o, pm = some ⟨b, o, none⟩ ∧ ∀ i, i < ms.length → w.cell? ⟨b, o + i, none⟩ = some (.int .u16 ((ix ms i : Nat) : Int)) ∧ ix ms i ≤ 65535 := by
      rcases hmem with h | h
      · subst h; simp at hlt
      · exact h
    obtain ⟨hmj, hmx⟩ := hcm j hlt
    generalize hx : ix ms j = xx at *
    have hA := Nat.mod_lt xx hk1.1
    have hB := Nat.mod_lt (xx / 64) hk1.1
    refine wgh ?_
    refine Ops.y (Yl.remN xx q rfl rfl rfl rfl hk1.1) rfl ?_
    refine wgh ?_
    refine Ops.y (Yl.quoN xx 64 rfl rfl rfl rfl (by omega) (wrap_u16 (by omega))) rfl ?_
    refine wgh ?_
    refine Ops.y (Yl.remN (xx / 64) q rfl rfl rfl rfl hk1.1) rfl ?_
    generalize hAA : xx % q = A at *
    generalize hBB : xx / 64 % q = Bb at *
    by_cases hab : A < Bb
    · refine wgh ?_
      refine CdH.pure (φ := ∃ bk c, ix vs A = .slice (some ⟨bk, 0, none⟩) (ix ls A).length c) (fun w' hw' => ((show RowsBC w.heap.size vs ls w' from hw'.at).2 A (by omega)).form) ?_
      rintro ⟨bk, cb, ebk⟩
      refine CdH.regionS [0, 1, 2, 3, 4, 5, 6, 8, 9, 10, 11, 12, 13, 7, 14, 15, 16] 17 _ _ (by kernel_rfl) (List.Sublist.refl _) (fun _ h => h) ?_
      refine wgs ?_
      refine OpsS.y_ (Yl.loadOs (i := A * 3 + 2) rfl rfl rfl (by omega) (fC_get (vs := vs) (a := A) (by omega)) wmm) rfl ?_
      rw [ebk]
      refine wgs ?_
      refine OpsS.he (HE.bslB (B := w.heap.size) szR rfl rfl rfl rfl rfl wcel (by rfl) (by rfl)) rfl (fun _ => wsl) (fun _ => wsr) ?_
      intro bl hbl
      have hlA := hl3 A (by omega)
      refine OpsS.toOwnB (B := w.heap.size) (m := 1) (s := 9) wup rfl hbl (by omega) ?_
      refine OpsS.he (HE.appR ((ix ls A).flatMap iC) rfl rfl (fun _ => wup) (.inr ⟨bk, 0, rfl, fun w' hw' j u hj => ?_⟩) (flat_len9 _) rfl rfl rfl (by rfl) (by rfl) (by rfl) (by rfl) (one_all _) (by omega) szR) rfl (fun _ => wsl) (fun _ => wsr) ?_
      · have h1 := (show RowsBC w.heap.size vs ls w' from hw'.at).2 A (by omega)
        rw [ebk] at h1
        exact h1.get hj
      intro v' _
      refine OpsS.pure (φ := ∃ p c, v' = .slice p (1 + (ix ls A).length) c) (fun w' hw' => ?_) ?_
      · obtain ⟨p, c, e, _⟩ := own_slice (hw'.own (v := v')); exact ⟨p, c, e⟩
      rintro ⟨p8, c8, rfl⟩
      refine OpsS.freeze (BC w.heap.size (.slice p8 (1 + (ix ls A).length) c8) (((16 : Int), (i : Int) + (Bb : Nat)) :: ix ls A)) wrm (fun w' hq' _ => BC.own hq' (by simp; omega) rfl (by simp)) ?_
      refine wgs ?_
      refine OpsS.hez0 (HE0.setOs (i := A * 3 + 2) rfl rfl rfl (by omega) rfl rfl wup (by rw [fC_len]; omega)) rfl ?_
      rintro ⟨⟩ _
      rw [fC_set (by omega)]
      refine FinH.der (RowsBC w.heap.size (vs.set A (.slice p8 (1 + (ix ls A).length) c8)) (ls.set A (((16 : Int), (i : Int) + (Bb : Nat)) :: ix ls A))) (fun w' hw' => RowsBC.set (all_at hw') (by omega) (all_at hw')) ?_
      refine wgh ?_
      refine FinH.next (j + 1, _, _) wsub wsl wsr ⟨by dsimp only; omega, by simp; omega, hchain.fwd_ hab hB (by have := hl3 A hA; omega) (by omega), fun t ht => ?_⟩ (by dsimp only; omega)
      dsimp only
      rw [ix_set (by omega)]
      split
      · have := hl3 A hA; simp; omega
      · have := hl3 t ht; omega
    · refine wgh ?_
      exact FinH.next (j + 1, vs, ls) wsub wsl wsr ⟨by dsimp only; omega, hvs, hchain, fun t ht => by have := hl3 t ht; dsimp only; omega⟩ (by dsimp only; omega)
  have hmod : ∀ (vs : List Value) (ls : List (List (Int × Int))) (w' : World), ls.length = q → (∀ t, t < ls.length → (ix ls t).length ≤ 1000 ∧ ∀ p ∈ ix ls t, R64 p.1 ∧ R64 p.2) → Ok [.own w.heap.size TCd 3 (.slice (some ⟨g, 0, none⟩) q cf) q (fC_ vs), .blk b15 ([.slice none 0 0, .slice pi i ci, .slice (some ⟨g, 0, none⟩) q cf, .slice none 0 0, .slice none 0 0, .slice none 0 0, .slice none 0 0, .bool false, .int .i64 0, .slice none 0 0, .slice none 0 0, .slice none 0 0] : List Value) TMod] [RowsBC w.heap.size vs ls, (fun w' => SlR 13 1172812402926 ApiImportR (fun _ => True) w' (.slice pi i ci) (List.replicate i xI)), Ext w] w' → ApiModuleV (fun _ => True) w' ([.slice none 0 0, .slice pi i ci, .slice (some ⟨g, 0, none⟩) q cf, .slice none 0 0, .slice none 0 0, .slice none 0 0, .slice none 0 0, .bool false, .int .i64 0, .slice none 0 0, .slice none 0 0, .slice none 0 0] : List Value) (mD (List.replicate i xI) ls) := fun vs ls w' h1 h2 hw' => mD_read (hw'.own (v := .slice (some ⟨g, 0, none⟩) q cf)) h1.symm (hw'.at (p := RowsBC w.heap.size vs ls)) (hw'.at (p := (fun w' => SlR 13 1172812402926 ApiImportR (fun _ => True) w' (.slice pi i ci) (List.replicate i xI)))) (by omega) h2
  have hr64 := chain_r64 hchain
  have himp := imps_n i ls
  have hdeep := chain_deep hchain hk1.1 himp
  refine wgh ?_
  refine OpsH.call1 (v := .int .i64 (i : Nat)) rfl rfl rfl (fun w' hw' => by have := ref08_Imported _ (mD (List.replicate i xI) ls) 0 _ w' (hmod vs ls w' hll hr64 hw'); rw [himp] at this; exact this) ?_
  refine wgh ?_
  refine OpsH.call1g (v := .int .i64 (q : Nat)) rfl rfl rfl rfl (fun w' hw' => by have := census_Deep _ (mD (List.replicate i xI) ls) _ w' (hmod vs ls w' hll hr64 hw') (mD_lens (by omega) (by omega)) (mD_small fun t ht => (hr64 t ht).1); rw [hdeep] at this; exact this) ?_
  refine wgh ?_
  have hX := Nat.mod_lt fr hk1.1
  have hY := Nat.mod_lt tt hk1.1
  refine Ops.y (Yl.remN fr q rfl rfl rfl rfl hk1.1) rfl ?_
  refine wgh ?_
  refine Ops.y (Yl.remN tt q rfl rfl rfl rfl hk1.1) rfl ?_
  generalize hXX : fr % q = X at *
  generalize hYY : tt % q = Y at *
  cases bk with
  | false =>
    refine wgh ?_
    refine OpsH.call1 rfl rfl rfl (fun w' hw' => law57_alive w' (h0.ext hw'.at)) ?_
    refine wgh ?_
    exact FinH.ret1 rfl rfl fun w' hw' => ⟨rfl, hw'.at⟩
  | true =>
    by_cases hyx : Y ≤ X
    · refine wgh ?_
      refine CdH.pure (φ := ∃ bk c, ix vs X = .slice (some ⟨bk, 0, none⟩) (ix ls X).length c) (fun w' hw' => ((show RowsBC w.heap.size vs ls w' from hw'.at).2 X (by omega)).form) ?_
      rintro ⟨bk, cb, ebk⟩
      refine CdH.regionS [0, 1, 2, 3, 4, 5, 6, 8, 9, 10, 11, 12, 13, 7, 14, 15, 16] 17 _ _ (by kernel_rfl) (List.Sublist.refl _) (fun _ h => h) ?_
      refine wgs ?_
      refine OpsS.y_ (Yl.loadOs (i := X * 3 + 2) rfl rfl rfl (by omega) (fC_get (vs := vs) (a := X) (by omega)) wmm) rfl ?_
      rw [ebk]
      refine wgs ?_
      refine OpsS.he (HE.bslB (B := w.heap.size) szR rfl rfl rfl rfl rfl wcel (by rfl) (by rfl)) rfl (fun _ => wsl) (fun _ => wsr) ?_
      intro bl hbl
      have hlA := hl3 X (by omega)
      refine OpsS.toOwnB (B := w.heap.size) (m := 1) (s := 9) wup rfl hbl (by omega) ?_
      refine OpsS.he (HE.appR ((ix ls X).flatMap iC) rfl rfl (fun _ => wup) (.inr ⟨bk, 0, rfl, fun w' hw' j u hj => ?_⟩) (flat_len9 _) rfl rfl rfl (by rfl) (by rfl) (by rfl) (by rfl) (one_all _) (by omega) szR) rfl (fun _ => wsl) (fun _ => wsr) ?_
      · have h1 := (show RowsBC w.heap.size vs ls w' from hw'.at).2 X (by omega)
        rw [ebk] at h1
        exact h1.get hj
      intro v' _
      refine OpsS.pure (φ := ∃ p c, v' = .slice p (1 + (ix ls X).length) c) (fun w' hw' => ?_) ?_
      · obtain ⟨p, c, e, _⟩ := own_slice (hw'.own (v := v')); exact ⟨p, c, e⟩
      rintro ⟨p8, c8, rfl⟩
      refine OpsS.freeze (BC w.heap.size (.slice p8 (1 + (ix ls X).length) c8) (((16 : Int), (i : Int) + (Y : Nat)) :: ix ls X)) wrm (fun w' hq' _ => BC.own hq' (by simp; omega) rfl (by simp)) ?_
      refine wgs ?_
      refine OpsS.hez0 (HE0.setOs (i := X * 3 + 2) rfl rfl rfl (by omega) rfl rfl wup (by rw [fC_len]; omega)) rfl ?_
      rintro ⟨⟩ _
      rw [fC_set (by omega)]
      refine FinH.der (RowsBC w.heap.size (vs.set X (.slice p8 (1 + (ix ls X).length) c8)) (ls.set X (((16 : Int), (i : Int) + (Y : Nat)) :: ix ls X))) (fun w' hw' => RowsBC.set (all_at hw') (by omega) (all_at hw')) ?_
      refine wgh ?_
      have hback := back_ring hchain hX hyx himp
      have hr64' : ∀ t, t < (ls.set X (((16 : Int), (i : Int) + (Y : Nat)) :: ix ls X)).length → (ix (ls.set X (((16 : Int), (i : Int) + (Y : Nat)) :: ix ls X)) t).length ≤ 1000 ∧ ∀ p ∈ ix (ls.set X (((16 : Int), (i : Int) + (Y : Nat)) :: ix ls X)) t, R64 p.1 ∧ R64 p.2 := fun t ht => by
        rw [List.length_set] at ht
        rw [ix_set (by omega)]
        split
        · have := hl3 X hX
          refine ⟨by simp; omega, fun p hp => ?_⟩
          rcases List.mem_cons.1 hp with rfl | hp
          · unfold R64; dsimp only; omega
          · exact (hr64 X (by omega)).2 p hp
        · exact hr64 t ht
      refine OpsH.call1 (v := .int .i64 (-1)) rfl rfl rfl (fun w' hw' => by have := census_Deep _ (mD (List.replicate i xI) _) _ w' (hmod _ _ w' (by rw [List.length_set]; exact hll) hr64' (hw'.sub wsl wsr)) (mD_lens (by rw [List.length_set]; omega) (by omega)) (mD_small fun t ht => (hr64' t ht).1); rw [hback] at this; exact this) ?_
      refine wgh ?_
      refine OpsH.call1g rfl rfl rfl rfl (fun w' hw' => law57_alive w' (h0.ext hw'.at)) ?_
      refine wgh ?_
      exact FinH.ret1 rfl rfl fun w' hw' => ⟨rfl, hw'.at⟩
    · refine wgh ?_
      refine OpsH.call1 rfl rfl rfl (fun w' hw' => law57_alive w' (h0.ext hw'.at)) ?_
      refine wgh ?_
      exact FinH.ret1 rfl rfl fun w' hw' => ⟨rfl, hw'.at⟩
end Go.Proofs.YtmkgfccfnpmcjaaDoor
