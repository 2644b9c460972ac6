/- ref57.one, ref57.Of: the reference counts the same. -/
import Derived.Test.YtmkgfccfnpmcjaaDoorJCo
import Derived.Test.YtmkgfccfnpmcjaaDoorJMv
namespace Go.Proofs.YtmkgfccfnpmcjaaDoor
open Go.RowKit
set_option maxRecDepth 100000
def s5 (xs : List Ins) (j : Nat) : Cen := csum (fun x : Ins => one5 x.op) (xs.take j)
noncomputable def c5 (xs : List Ins) (j : Nat) : Cen := ⟨1, xs.length, nbK xs, (s5 xs j).loops, (s5 xs j).calls, (s5 xs j).loads, (s5 xs j).stores, (s5 xs j).consts⟩
theorem b01_r (b : Bool) : 0 ≤ b01 b ∧ b01 b ≤ 1 := by cases b <;> simp [b01]
theorem s5_succ {xs : List Ins} {j : Nat} (h : j < xs.length) : s5 xs (j + 1) = add0 (s5 xs j) (one5 (ix xs j).op) := csum_take _ h
theorem s5_zero (xs : List Ins) : s5 xs 0 = zC := rfl
theorem s5_r (xs : List Ins) : ∀ j, j ≤ xs.length → (0 ≤ (s5 xs j).loops ∧ (s5 xs j).loops ≤ j) ∧ (0 ≤ (s5 xs j).calls ∧ (s5 xs j).calls ≤ j) ∧ (0 ≤ (s5 xs j).loads ∧ (s5 xs j).loads ≤ j) ∧ (0 ≤ (s5 xs j).stores ∧ (s5 xs j).stores ≤ j) ∧ (0 ≤ (s5 xs j).consts ∧ (s5 xs j).consts ≤ j)
  | 0, _ => by rw [s5_zero]; simp [zC]
  | j + 1, h => by
    have ih := s5_r xs j (by omega)
    rw [s5_succ (by omega)]
    simp only [add0, one5]
    have a1 := b01_r ((ix xs j).op == 3)
    have a2 := b01_r ((ix xs j).op == 16 || (ix xs j).op == 17)
    have a3 := b01_r (decide (0 < width5 (ix xs j).op) && decide ((ix xs j).op < 54))
    have a4 := b01_r (decide (0 < width5 (ix xs j).op) && !decide ((ix xs j).op < 54))
    have a5 := b01_r ((ix xs j).op == 65 || (ix xs j).op == 66)
    omega
theorem width_few5 : width5 3 = 0 ∧ width5 16 = 0 ∧ width5 17 = 0 ∧ width5 65 = 0 ∧ width5 66 = 0 := by decide +kernel
theorem s5_instrs (xs : List Ins) : ∀ j, j ≤ xs.length → (s5 xs j).instrs = j ∧ (s5 xs j).funcs = 0 ∧ (s5 xs j).blocks = 0
  | 0, _ => by rw [s5_zero]; simp [zC]
  | j + 1, h => by
    have ih := s5_instrs xs j (by omega)
    rw [s5_succ (by omega)]
    simp only [add0, one5]
    omega
noncomputable def oneR (xs : List Ins) : Cen := c5 xs xs.length
theorem oneR_body (xs : List Ins) : oneR xs = add0 ⟨1, 0, 0, 0, 0, 0, 0, 0⟩ (bodyC xs) := by
  obtain ⟨h1, h2, h3⟩ := s5_instrs xs xs.length (Nat.le_refl _)
  have e : csum (fun x : Ins => oneC x.op) xs = s5 xs xs.length := by
    unfold s5; rw [List.take_length]; congr 1; funext x; exact one_5 x.op
  unfold oneR bodyC c5
  rw [e]
  simp only [add0, h1, h2, h3, Int.zero_add, Int.add_zero]
theorem csum_oneR (l : List ApiCode) : csum (fun f : ApiCode => oneR f.body) l = add0 ⟨l.length, 0, 0, 0, 0, 0, 0, 0⟩ (csum (fun f : ApiCode => bodyC f.body) l) := by
  induction l with
  | nil => rfl
  | cons a r ih =>
    rw [csum, csum, ih, oneR_body]
    simp only [add0, List.length_cons]
    congr 1 <;> omega

noncomputable def ref1 (m : ApiModule) (i : Nat) : Cen := csum (fun f : ApiCode => oneR f.body) (m.funcs.take i)
end Go.Proofs.YtmkgfccfnpmcjaaDoor
/- space.Of: the index spaces. Printed by gen_sp.py. -/
namespace Go.Proofs.YtmkgfccfnpmcjaaDoor
open Go.RowKit
set_option maxRecDepth 100000

/-- what the spaces hold -/
structure SpX where
  funcs : List Int
  tables : List ApiTable
  mems : List ApiLimits
  globals : List ApiGlobal
  elems : List Int
  datas : Int
  deriving Inhabited
@[simp] def tblC (t : ApiTable) : List Value := [.int .i64 t.elem, .int .i64 t.lim.min, .int .i64 t.lim.max, .bool t.lim.has]
@[simp] def limC (t : ApiLimits) : List Value := [.int .i64 t.min, .int .i64 t.max, .bool t.has]
@[simp] def gloC (t : ApiGlobal) : List Value := [.int .i64 t.val_, .bool t.mut_]
abbrev TSp : Nat := 105
abbrev TSpP : Nat := 100
abbrev TTbl : Nat := 41
abbrev TLim : Nat := 39
abbrev TGlo : Nat := 43
abbrev TVal : Nat := 37
abbrev TImp : Nat := 45
abbrev TFn : Nat := 97
/-- the values of the slices -/
structure SpV where
  tv : Value
  fv : Value
  bv : Value
  mv : Value
  gv : Value
  ev : Value
def spC (v : SpV) (d : Int) (im dm : Nat) : List Value := [v.tv, v.fv, v.bv, v.mv, v.gv, v.ev, .int .i64 d, .map (some im), .map (some dm)]
/-- the spaces in memory: variable bx holds a pointer to block sp -/
def spM (B bx sp im dm : Nat) (v : SpV) (tn : Nat) (tc : List Value) (X : SpX) (ig dg : Int → Option Value) : List Res :=
  [.blk bx [.pointer (some ⟨sp, 0, none⟩)] TSpP, .blk sp [v.tv, v.fv, v.bv, v.mv, v.gv, v.ev, .int .i64 X.datas, .map (some im), .map (some dm)] TSp, .own B 3 1 v.fv X.funcs.length (X.funcs.map (Value.int .i64)), .own B TTbl 4 v.bv X.tables.length (X.tables.flatMap tblC), .own B TLim 3 v.mv X.mems.length (X.mems.flatMap limC), .own B TGlo 2 v.gv X.globals.length (X.globals.flatMap gloC), .own B TVal 1 v.ev X.elems.length (X.elems.map (Value.int .i64)), .iv im ig, .iv dm dg, .own B TFn 2 v.tv tn tc]
/-- what a map of numbers tells -/
def Cnt (g : Int → Option Value) (c : Int → Int) : Prop := ∀ k, (g k).getD (.int .i64 0) = .int .i64 (c k)
def impCells (x : ApiImport) : List Value := [.string x.module, .string x.name, .int .i64 x.kind, .int .i64 x.func, .int .i64 x.table.elem, .int .i64 x.table.lim.min, .int .i64 x.table.lim.max, .bool x.table.lim.has, .int .i64 x.mem.min, .int .i64 x.mem.max, .bool x.mem.has, .int .i64 x.global_.val_, .bool x.global_.mut_]
def SpX.bring (X : SpX) (x : ApiImport) : SpX :=
  if x.kind = 0 then { X with funcs := X.funcs ++ [x.func] } else if x.kind = 1 then { X with tables := X.tables ++ [x.table] } else if x.kind = 2 then { X with mems := X.mems ++ [x.mem] } else if x.kind = 3 then { X with globals := X.globals ++ [x.global_] } else X
def inc (c : Int → Int) (k : Int) : Int → Int := fun b => if b = k then c k + 1 else c b
theorem Cnt.put {g : Int → Option Value} {c : Int → Int} (h : Cnt g c) (k : Int) : Cnt (put g k (.int .i64 (c k + 1))) (inc c k) := fun b => by
  unfold Go.Proofs.YtmkgfccfnpmcjaaDoor.put inc
  by_cases e : b = k
  · subst e; simp
  · simp only [if_neg e]; exact h b
/-- small enough -/
def SpX.ok (X : SpX) : Prop := X.funcs.length ≤ 1000000 ∧ X.tables.length ≤ 1000000 ∧ X.mems.length ≤ 1000000 ∧ X.globals.length ≤ 1000000 ∧ X.elems.length ≤ 1000000
def BringPost (B bx sp im dm : Nat) (v : SpV) (tn : Nat) (tc : List Value) (X : SpX) (ig dg : Int → Option Value) (x : ApiImport) (c : Int → Int) (w : World) : Ending → World → Prop :=
  MutPost (spM B bx sp im dm v tn tc X ig dg) w (fun _ : SpV × (Int → Option Value) => .tuple #[]) (fun y => Cnt y.2 (inc c x.kind) ∧ y.1.tv = v.tv) (fun y => spM B bx sp im dm y.1 tn tc (X.bring x) y.2 dg)

set_option maxHeartbeats 16000000 in
theorem space_bring (B bx sp im dm : Nat) (v : SpV) (tn : Nat) (tc : List Value) (X : SpX) (ig dg : Int → Option Value) (x : ApiImport) (c : Int → Int) (w : World) (hw : Ok (spM B bx sp im dm v tn tc X ig dg) [] w) (hB : B ≤ w.heap.size) (hX : X.ok) (hc : Cnt ig c) (hk : R64 x.kind) (hcx : -1000000 ≤ c x.kind ∧ c x.kind ≤ 1000000) :
    Calls G.P 29 #[.agg (impCells x).toArray, .pointer (some ⟨bx, 0, none⟩)] w (BringPost B bx sp im dm v tn tc X ig dg x c w) := by
  obtain ⟨tv, fv, bv, mv, gv, ev⟩ := v
  obtain ⟨x1, x2, x3, x4, x5⟩ := hX
  refine enterH (l := [.agg (impCells x).toArray, .pointer (some ⟨bx, 0, none⟩)]) Tryd.func29 rfl Tryd.ntmps29 rfl (Ok.startM hw) ?_
  generalize hS : Mb (spM B bx sp im dm ⟨tv, fv, bv, mv, gv, ev⟩ tn tc X ig dg) = S0
  unfold spM
  dsimp only
  refine wgh ?_
  refine OpsH.box (impCells x) rfl rfl rfl fun b => ?_
  unfold impCells
  refine wgh ?_
  refine CdH.regionS [0, 1, 2, 3, 4, 5, 6, 7] 8 [.blk b _ TImp, .blk bx [.pointer (some ⟨sp, 0, none⟩)] TSpP, .blk sp [tv, fv, bv, mv, gv, ev, .int .i64 X.datas, .map (some im), .map (some dm)] TSp, .iv im ig] [] (by kernel_rfl) wsl wsr ?_
  refine wgs ?_
  refine OpsS.y_ (Yl.lookupH (zv := .int .i64 0) Tryd.underlying101 Tryd.underlying36 (fun _ => rfl) rfl rfl hk (by repeat (first | with_reducible exact List.mem_cons_self | apply List.mem_cons_of_mem))) rfl ?_
  rw [hc x.kind]
  refine wgs ?_
  refine OpsS.hez0 (HE0.mapUpdate Tryd.underlying101 Tryd.underlying36 rfl rfl rfl hk wup) rfl ?_
  rintro ⟨⟩ _
  have hcp := hc.put x.kind
  generalize put ig x.kind (.int .i64 (c x.kind + 1)) = ig' at *
  generalize hkx : x.kind = kd at *
  rcases (show kd = 0 ∨ kd = 1 ∨ kd = 2 ∨ kd = 3 ∨ (kd ≠ 0 ∧ kd ≠ 1 ∧ kd ≠ 2 ∧ kd ≠ 3) from by omega) with hc_ | hc_ | hc_ | hc_ | ⟨hc0_, hc1_, hc2_, hc3_⟩
  · have hb : X.bring x = { X with funcs := X.funcs ++ [x.func] } := by unfold SpX.bring; simp [hkx, hc_]
    refine wgh ?_
    refine CdH.regionS [0, 1, 2, 3, 4, 5, 6, 7, 8, 9, 10] 11 [.blk b _ TImp, .blk bx [.pointer (some ⟨sp, 0, none⟩)] TSpP, .blk sp [tv, fv, bv, mv, gv, ev, .int .i64 X.datas, .map (some im), .map (some dm)] TSp] [] (by kernel_rfl) wsl wsr ?_
    refine wgs ?_
    refine OpsS.he (HE.bsl rfl rfl rfl rfl rfl wcel (by rfl) (by rfl)) rfl (fun _ => wsl) (fun _ => wsr) ?_
    intro b3 _
    refine OpsS.he (HE.app rfl rfl (fun _ => wup) wup rfl rfl rfl (by rfl) (by rfl) (by rfl) (by rfl) (by rfl) (by rfl) (by omega) (fun w' hw' => Nat.le_trans hB (show Chg S0 w w' from hw'.at).size)) rfl (fun _ => wsl) (fun _ => wsr) ?_
    intro v2 _
    refine wgs ?_
    refine OpsS.pure (φ := v2.oneCell' = true) (fun w' hw' => own_one (hw'.own (v := v2))) fun hone => ?_
    refine OpsS.hez0 (HE0.storeL rfl rfl rfl rfl hone wup wset) rfl ?_
    rintro ⟨⟩ _
    refine wgh ?_
    refine FinH.end0 rfl fun w' hw' => ?_
    unfold BringPost
    refine MutPost.of (x := ((⟨tv, v2, bv, mv, gv, ev⟩ : SpV), ig')) (M := spM B bx sp im dm ⟨tv, v2, bv, mv, gv, ev⟩ tn tc { X with funcs := X.funcs ++ [x.func] } ig' dg) ⟨by rw [hkx]; exact hcp, rfl⟩ (hw'.sub (R' := [Chg S0 w]) (by unfold spM; exact wsl) wsr) (by dsimp only; rw [hb]) (by rw [hS]; exact wmem)
  · have hb : X.bring x = { X with tables := X.tables ++ [x.table] } := by unfold SpX.bring; simp [hkx, hc_]
    refine wgh ?_
    refine CdH.regionS [0, 1, 2, 3, 4, 5, 6, 7, 8, 9, 10] 11 [.blk b _ TImp, .blk bx [.pointer (some ⟨sp, 0, none⟩)] TSpP, .blk sp [tv, fv, bv, mv, gv, ev, .int .i64 X.datas, .map (some im), .map (some dm)] TSp] [] (by kernel_rfl) wsl wsr ?_
    refine wgs ?_
    refine OpsS.he (HE.bsl rfl rfl rfl rfl rfl wcel (by rfl) (by rfl)) rfl (fun _ => wsl) (fun _ => wsr) ?_
    intro b3 _
    refine OpsS.he (HE.app rfl rfl (fun _ => wup) wup rfl rfl rfl (by rfl) (by rfl) (by rfl) (by rfl) (by rfl) (by rfl) (by omega) (fun w' hw' => Nat.le_trans hB (show Chg S0 w w' from hw'.at).size)) rfl (fun _ => wsl) (fun _ => wsr) ?_
    intro v2 _
    refine wgs ?_
    refine OpsS.pure (φ := v2.oneCell' = true) (fun w' hw' => own_one (hw'.own (v := v2))) fun hone => ?_
    refine OpsS.hez0 (HE0.storeL rfl rfl rfl rfl hone wup wset) rfl ?_
    rintro ⟨⟩ _
    refine wgh ?_
    refine FinH.end0 rfl fun w' hw' => ?_
    unfold BringPost
    refine MutPost.of (x := ((⟨tv, fv, v2, mv, gv, ev⟩ : SpV), ig')) (M := spM B bx sp im dm ⟨tv, fv, v2, mv, gv, ev⟩ tn tc { X with tables := X.tables ++ [x.table] } ig' dg) ⟨by rw [hkx]; exact hcp, rfl⟩ (hw'.sub (R' := [Chg S0 w]) (by unfold spM; exact wsl) wsr) (by dsimp only; rw [hb]) (by rw [hS]; exact wmem)
  · have hb : X.bring x = { X with mems := X.mems ++ [x.mem] } := by unfold SpX.bring; simp [hkx, hc_]
    refine wgh ?_
    refine CdH.regionS [0, 1, 2, 3, 4, 5, 6, 7, 8, 9, 10] 11 [.blk b _ TImp, .blk bx [.pointer (some ⟨sp, 0, none⟩)] TSpP, .blk sp [tv, fv, bv, mv, gv, ev, .int .i64 X.datas, .map (some im), .map (some dm)] TSp] [] (by kernel_rfl) wsl wsr ?_
    refine wgs ?_
    refine OpsS.he (HE.bsl rfl rfl rfl rfl rfl wcel (by rfl) (by rfl)) rfl (fun _ => wsl) (fun _ => wsr) ?_
    intro b3 _
    refine OpsS.he (HE.app rfl rfl (fun _ => wup) wup rfl rfl rfl (by rfl) (by rfl) (by rfl) (by rfl) (by rfl) (by rfl) (by omega) (fun w' hw' => Nat.le_trans hB (show Chg S0 w w' from hw'.at).size)) rfl (fun _ => wsl) (fun _ => wsr) ?_
    intro v2 _
    refine wgs ?_
    refine OpsS.pure (φ := v2.oneCell' = true) (fun w' hw' => own_one (hw'.own (v := v2))) fun hone => ?_
    refine OpsS.hez0 (HE0.storeL rfl rfl rfl rfl hone wup wset) rfl ?_
    rintro ⟨⟩ _
    refine wgh ?_
    refine FinH.end0 rfl fun w' hw' => ?_
    unfold BringPost
    refine MutPost.of (x := ((⟨tv, fv, bv, v2, gv, ev⟩ : SpV), ig')) (M := spM B bx sp im dm ⟨tv, fv, bv, v2, gv, ev⟩ tn tc { X with mems := X.mems ++ [x.mem] } ig' dg) ⟨by rw [hkx]; exact hcp, rfl⟩ (hw'.sub (R' := [Chg S0 w]) (by unfold spM; exact wsl) wsr) (by dsimp only; rw [hb]) (by rw [hS]; exact wmem)
  · have hb : X.bring x = { X with globals := X.globals ++ [x.global_] } := by unfold SpX.bring; simp [hkx, hc_]
    refine wgh ?_
    refine CdH.regionS [0, 1, 2, 3, 4, 5, 6, 7, 8, 9, 10] 11 [.blk b _ TImp, .blk bx [.pointer (some ⟨sp, 0, none⟩)] TSpP, .blk sp [tv, fv, bv, mv, gv, ev, .int .i64 X.datas, .map (some im), .map (some dm)] TSp] [] (by kernel_rfl) wsl wsr ?_
    refine wgs ?_
    refine OpsS.he (HE.bsl rfl rfl rfl rfl rfl wcel (by rfl) (by rfl)) rfl (fun _ => wsl) (fun _ => wsr) ?_
    intro b3 _
    refine OpsS.he (HE.app rfl rfl (fun _ => wup) wup rfl rfl rfl (by rfl) (by rfl) (by rfl) (by rfl) (by rfl) (by rfl) (by omega) (fun w' hw' => Nat.le_trans hB (show Chg S0 w w' from hw'.at).size)) rfl (fun _ => wsl) (fun _ => wsr) ?_
    intro v2 _
    refine wgs ?_
    refine OpsS.pure (φ := v2.oneCell' = true) (fun w' hw' => own_one (hw'.own (v := v2))) fun hone => ?_
    refine OpsS.hez0 (HE0.storeL rfl rfl rfl rfl hone wup wset) rfl ?_
    rintro ⟨⟩ _
    refine wgh ?_
    refine FinH.end0 rfl fun w' hw' => ?_
    unfold BringPost
    refine MutPost.of (x := ((⟨tv, fv, bv, mv, v2, ev⟩ : SpV), ig')) (M := spM B bx sp im dm ⟨tv, fv, bv, mv, v2, ev⟩ tn tc { X with globals := X.globals ++ [x.global_] } ig' dg) ⟨by rw [hkx]; exact hcp, rfl⟩ (hw'.sub (R' := [Chg S0 w]) (by unfold spM; exact wsl) wsr) (by dsimp only; rw [hb]) (by rw [hS]; exact wmem)
  · have hb : X.bring x = X := by unfold SpX.bring; simp [hkx, hc0_, hc1_, hc2_, hc3_]
    refine wgh ?_
    refine FinH.end0 rfl fun w' hw' => ?_
    unfold BringPost
    exact MutPost.of (x := ((⟨tv, fv, bv, mv, gv, ev⟩ : SpV), ig')) (M := spM B bx sp im dm ⟨tv, fv, bv, mv, gv, ev⟩ tn tc X ig' dg) ⟨by rw [hkx]; exact hcp, rfl⟩ (hw'.sub (R' := [Chg S0 w]) (by unfold spM; exact wsl) wsr) (by dsimp only; rw [hb]) (by rw [hS]; exact wmem)
end Go.Proofs.YtmkgfccfnpmcjaaDoor
