/- ref57.one, ref57.Of: the reference counts the same. -/
import Derived.Test.YtgbgnipidakdhaaGreatDoorJSk
import Derived.Test.YtgbgnipidakdhaaGreatDoorJMv
namespace Go.Proofs.YtgbgnipidakdhaaGreatDoor
open Go.RowKit
set_option maxRecDepth 100000
def s5 (xs : List Ins) (j : Nat) : Cen := csum (fun x : Ins => one5 x.op) (xs.take j)
noncomputable def c5 (xs : List Ins) (j : Nat) : Cen := ⟨1, xs.length, nbK xs, (s5 xs j).loops, (s5 xs j).calls, (s5 xs j).loads, (s5 xs j).stores, (s5 xs j).consts⟩
structure SpX where
  funcs : List Int
  tables : List ApiTable
  mems : List ApiLimits
  globals : List ApiGlobal
  elems : List Int
  datas : Int
  deriving Inhabited
@[simp] def tblC (t : ApiTable) : List Value := [.int .i64 t.elem, .int .i64 t.lim.min, .int .i64 t.lim.max, .bool t.lim.has]
@[simp] def limC (t : ApiLimits) : List Value := [.int .i64 t.min, .int .i64 t.max, .bool t.has]
@[simp] def gloC (t : ApiGlobal) : List Value := [.int .i64 t.val_, .bool t.mut_]
abbrev TSp : Nat := 96
abbrev TSpP : Nat := 58
abbrev TTbl : Nat := 102
theorem qal5q {ops : Array Oper} {Q : Exit → Act → World → Prop} {n : Nat} {rest : List Oper} {E : Env} {M : List Res} {R : List (World → Prop)} {d : Nat} {ty : TypeId} {pos : String} {aft : Array Edge} (h : ∀ b : Nat, OpsH ops Q n rest ((d, .pointer (some ⟨b, 0, none⟩)) :: E) (.blk b [Value.int .i64 0, Value.int .i64 0, Value.int .i64 0, Value.bool false] TTbl :: M) R) (hd : Nat.blt d n = true := by rfl) : OpsH ops Q n (⟨some d, .alloc TTbl, ty, pos, aft, none⟩ :: rest) E M R := OpsH.alloc (t := TTbl) [Value.int .i64 0, Value.int .i64 0, Value.int .i64 0, Value.bool false] rfl rfl hd h
abbrev TLim : Nat := 100
theorem qal4q {ops : Array Oper} {Q : Exit → Act → World → Prop} {n : Nat} {rest : List Oper} {E : Env} {M : List Res} {R : List (World → Prop)} {d : Nat} {ty : TypeId} {pos : String} {aft : Array Edge} (h : ∀ b : Nat, OpsH ops Q n rest ((d, .pointer (some ⟨b, 0, none⟩)) :: E) (.blk b [Value.int .i64 0, Value.int .i64 0, Value.bool false] TLim :: M) R) (hd : Nat.blt d n = true := by rfl) : OpsH ops Q n (⟨some d, .alloc TLim, ty, pos, aft, none⟩ :: rest) E M R := OpsH.alloc (t := TLim) [Value.int .i64 0, Value.int .i64 0, Value.bool false] rfl rfl hd h
abbrev TGlo : Nat := 104
theorem qal3q {ops : Array Oper} {Q : Exit → Act → World → Prop} {n : Nat} {rest : List Oper} {E : Env} {M : List Res} {R : List (World → Prop)} {d : Nat} {ty : TypeId} {pos : String} {aft : Array Edge} (h : ∀ b : Nat, OpsH ops Q n rest ((d, .pointer (some ⟨b, 0, none⟩)) :: E) (.blk b [Value.int .i64 0, Value.bool false] TGlo :: M) R) (hd : Nat.blt d n = true := by rfl) : OpsH ops Q n (⟨some d, .alloc TGlo, ty, pos, aft, none⟩ :: rest) E M R := OpsH.alloc (t := TGlo) [Value.int .i64 0, Value.bool false] rfl rfl hd h
abbrev TVal : Nat := 37
abbrev TImp : Nat := 106
abbrev TFn : Nat := 47
theorem qal2q {ops : Array Oper} {Q : Exit → Act → World → Prop} {n : Nat} {rest : List Oper} {E : Env} {M : List Res} {R : List (World → Prop)} {d : Nat} {ty : TypeId} {pos : String} {aft : Array Edge} (h : ∀ b : Nat, OpsH ops Q n rest ((d, .pointer (some ⟨b, 0, none⟩)) :: E) (.blk b [Value.slice none 0 0, Value.slice none 0 0] TFn :: M) R) (hd : Nat.blt d n = true := by rfl) : OpsH ops Q n (⟨some d, .alloc TFn, ty, pos, aft, none⟩ :: rest) E M R := OpsH.alloc (t := TFn) [Value.slice none 0 0, Value.slice none 0 0] rfl rfl hd h
structure SpV where
  tv : Value
  fv : Value
  bv : Value
  mv : Value
  gv : Value
  ev : Value
def spM (B bx sp im dm : Nat) (v : SpV) (tn : Nat) (tc : List Value) (X : SpX) (ig dg : Int → Option Value) : List Res :=
  [.blk bx [.pointer (some ⟨sp, 0, none⟩)] TSpP, .blk sp [v.tv, v.fv, v.bv, v.mv, v.gv, v.ev, .int .i64 X.datas, .map (some im), .map (some dm)] TSp, .own B 3 1 v.fv X.funcs.length (X.funcs.map (Value.int .i64)), .own B TTbl 4 v.bv X.tables.length (X.tables.flatMap tblC), .own B TLim 3 v.mv X.mems.length (X.mems.flatMap limC), .own B TGlo 2 v.gv X.globals.length (X.globals.flatMap gloC), .own B TVal 1 v.ev X.elems.length (X.elems.map (Value.int .i64)), .iv im ig, .iv dm dg, .own B TFn 2 v.tv tn tc]
def Cnt (g : Int → Option Value) (c : Int → Int) : Prop := ∀ k, (g k).getD (.int .i64 0) = .int .i64 (c k)
def impCells (x : ApiImport) : List Value := [.string x.module, .string x.name, .int .i64 x.kind, .int .i64 x.func, .int .i64 x.table.elem, .int .i64 x.table.lim.min, .int .i64 x.table.lim.max, .bool x.table.lim.has, .int .i64 x.mem.min, .int .i64 x.mem.max, .bool x.mem.has, .int .i64 x.global_.val_, .bool x.global_.mut_]
def SpX.bring (X : SpX) (x : ApiImport) : SpX :=
  if x.kind = 0 then { X with funcs := X.funcs ++ [x.func] } else if x.kind = 1 then { X with tables := X.tables ++ [x.table] } else if x.kind = 2 then { X with mems := X.mems ++ [x.mem] } else if x.kind = 3 then { X with globals := X.globals ++ [x.global_] } else X
def inc (c : Int → Int) (k : Int) : Int → Int := fun b => if b = k then c k + 1 else c b
theorem Cnt.put {g : Int → Option Value} {c : Int → Int} (h : Cnt g c) (k : Int) : Cnt (put g k (.int .i64 (c k + 1))) (inc c k) := fun b => by
  unfold Go.Proofs.YtgbgnipidakdhaaGreatDoor.put inc
  by_cases e : b = k
  · subst e; simp
  · simp only [if_neg e]; exact h b
def SpX.ok (X : SpX) : Prop := X.funcs.length ≤ 1000000 ∧ X.tables.length ≤ 1000000 ∧ X.mems.length ≤ 1000000 ∧ X.globals.length ≤ 1000000 ∧ X.elems.length ≤ 1000000
def BringPost (B bx sp im dm : Nat) (v : SpV) (tn : Nat) (tc : List Value) (X : SpX) (ig dg : Int → Option Value) (x : ApiImport) (c : Int → Int) (w : World) : Ending → World → Prop :=
  MutPost (spM B bx sp im dm v tn tc X ig dg) w (fun _ : SpV × (Int → Option Value) => .tuple #[]) (fun y => Cnt y.2 (inc c x.kind) ∧ y.1.tv = v.tv) (fun y => spM B bx sp im dm y.1 tn tc (X.bring x) y.2 dg)
set_option maxHeartbeats 16000000 in
theorem space_bring (B bx sp im dm : Nat) (v : SpV) (tn : Nat) (tc : List Value) (X : SpX) (ig dg : Int → Option Value) (x : ApiImport) (c : Int → Int) (w : World) (hw : Ok (spM B bx sp im dm v tn tc X ig dg) [] w) (hB : B ≤ w.heap.size) (hX : X.ok) (hc : Cnt ig c) (hk : R64 x.kind) (hcx : -1000000 ≤ c x.kind ∧ c x.kind ≤ 1000000) :
    Calls G.P 38 #[.agg (impCells x).toArray, .pointer (some ⟨bx, 0, none⟩)] w (BringPost B bx sp im dm v tn tc X ig dg x c w) := by
  obtain ⟨tv, fv, bv, mv, gv, ev⟩ := v
  obtain ⟨x1, x2, x3, x4, x5⟩ := hX
  refine enterH (l := [.agg (impCells x).toArray, .pointer (some ⟨bx, 0, none⟩)]) Tryz.func38 rfl Tryz.ntmps38 rfl (Ok.startM hw) ?_
  generalize hS : Mb (spM B bx sp im dm ⟨tv, fv, bv, mv, gv, ev⟩ tn tc X ig dg) = S0
  unfold spM
  dsimp only
  refine wgh ?_
  refine OpsH.box (impCells x) rfl rfl rfl fun b => ?_
  unfold impCells
  refine wgh ?_
  refine CdH.regionS [0, 1, 2, 3, 4, 5, 6, 7] 8 [.blk b _ TImp, .blk bx [.pointer (some ⟨sp, 0, none⟩)] TSpP, .blk sp [tv, fv, bv, mv, gv, ev, .int .i64 X.datas, .map (some im), .map (some dm)] TSp, .iv im ig] [] (by kernel_rfl) wsl wsr ?_
  refine wgs ?_
  refine OpsS.y_ (Yl.lookupH (zv := .int .i64 0) Tryz.underlying92 Tryz.underlying98 (fun _ => rfl) rfl rfl hk (by repeat (first | with_reducible exact List.mem_cons_self | apply List.mem_cons_of_mem))) rfl ?_
  rw [hc x.kind]
  refine wgs ?_
  refine OpsS.hez0 (HE0.mapUpdate Tryz.underlying92 Tryz.underlying98 rfl rfl rfl hk wup) rfl ?_
  rintro ⟨⟩ _
  have hcp := hc.put x.kind
  generalize put ig x.kind (.int .i64 (c x.kind + 1)) = ig' at *
  generalize hkx : x.kind = kd at *
  rcases (show kd = 0 ∨ kd = 1 ∨ kd = 2 ∨ kd = 3 ∨ (kd ≠ 0 ∧ kd ≠ 1 ∧ kd ≠ 2 ∧ kd ≠ 3) from by omega) with hc_ | hc_ | hc_ | hc_ | ⟨hc0_, hc1_, hc2_, hc3_⟩
  · have hb : X.bring x = { X with funcs := X.funcs ++ [x.func] } := by unfold SpX.bring; simp [hkx, hc_]
    refine wgh ?_
    refine CdH.regionS [0, 1, 2, 3, 4, 5, 6, 7, 8, 9, 10] 11 [.blk b _ TImp, .blk bx [.pointer (some ⟨sp, 0, none⟩)] TSpP, .blk sp [tv, fv, bv, mv, gv, ev, .int .i64 X.datas, .map (some im), .map (some dm)] TSp] [] (by kernel_rfl) wsl wsr ?_
    refine wgs ?_
    refine OpsS.he (HE.bsl rfl rfl rfl rfl rfl wcel (by rfl) (by rfl)) rfl (fun _ => wsl) (fun _ => wsr) ?_
    intro b3 _
    refine OpsS.he (HE.app rfl rfl (fun _ => wup) wup rfl rfl rfl (by rfl) (by rfl) (by rfl) (by rfl) (by rfl) (by rfl) (by omega) (fun w' hw' => Nat.le_trans hB (show Chg S0 w w' from hw'.at).size)) rfl (fun _ => wsl) (fun _ => wsr) ?_
    intro v2 _
    refine wgs ?_
    refine OpsS.pure (φ := v2.oneCell' = true) (fun w' hw' => own_one (hw'.own (v := v2))) fun hone => ?_
    refine OpsS.hez0 (HE0.storeL rfl rfl rfl rfl hone wup wset) rfl ?_
    rintro ⟨⟩ _
    refine wgh ?_
    refine FinH.end0 rfl fun w' hw' => ?_
    unfold BringPost
    refine MutPost.of (x := ((⟨tv, v2, bv, mv, gv, ev⟩ : SpV), ig')) (M := spM B bx sp im dm ⟨tv, v2, bv, mv, gv, ev⟩ tn tc { X with funcs := X.funcs ++ [x.func] } ig' dg) ⟨by rw [hkx]; exact hcp, rfl⟩ (hw'.sub (R' := [Chg S0 w]) (by unfold spM; exact wsl) wsr) (by dsimp only; rw [hb]) (by rw [hS]; exact wmem)
  · have hb : X.bring x = { X with tables := X.tables ++ [x.table] } := by unfold SpX.bring; simp [hkx, hc_]
    refine wgh ?_
    refine CdH.regionS [0, 1, 2, 3, 4, 5, 6, 7, 8, 9, 10] 11 [.blk b _ TImp, .blk bx [.pointer (some ⟨sp, 0, none⟩)] TSpP, .blk sp [tv, fv, bv, mv, gv, ev, .int .i64 X.datas, .map (some im), .map (some dm)] TSp] [] (by kernel_rfl) wsl wsr ?_
    refine wgs ?_
    refine OpsS.he (HE.bsl rfl rfl rfl rfl rfl wcel (by rfl) (by rfl)) rfl (fun _ => wsl) (fun _ => wsr) ?_
    intro b3 _
    refine OpsS.he (HE.app rfl rfl (fun _ => wup) wup rfl rfl rfl (by rfl) (by rfl) (by rfl) (by rfl) (by rfl) (by rfl) (by omega) (fun w' hw' => Nat.le_trans hB (show Chg S0 w w' from hw'.at).size)) rfl (fun _ => wsl) (fun _ => wsr) ?_
    intro v2 _
    refine wgs ?_
    refine OpsS.pure (φ := v2.oneCell' = true) (fun w' hw' => own_one (hw'.own (v := v2))) fun hone => ?_
    refine OpsS.hez0 (HE0.storeL rfl rfl rfl rfl hone wup wset) rfl ?_
    rintro ⟨⟩ _
    refine wgh ?_
    refine FinH.end0 rfl fun w' hw' => ?_
    unfold BringPost
    refine MutPost.of (x := ((⟨tv, fv, v2, mv, gv, ev⟩ : SpV), ig')) (M := spM B bx sp im dm ⟨tv, fv, v2, mv, gv, ev⟩ tn tc { X with tables := X.tables ++ [x.table] } ig' dg) ⟨by rw [hkx]; exact hcp, rfl⟩ (hw'.sub (R' := [Chg S0 w]) (by unfold spM; exact wsl) wsr) (by dsimp only; rw [hb]) (by rw [hS]; exact wmem)
  · have hb : X.bring x = { X with mems := X.mems ++ [x.mem] } := by unfold SpX.bring; simp [hkx, hc_]
    refine wgh ?_
    refine CdH.regionS [0, 1, 2, 3, 4, 5, 6, 7, 8, 9, 10] 11 [.blk b _ TImp, .blk bx [.pointer (some ⟨sp, 0, none⟩)] TSpP, .blk sp [tv, fv, bv, mv, gv, ev, .int .i64 X.datas, .map (some im), .map (some dm)] TSp] [] (by kernel_rfl) wsl wsr ?_
    refine wgs ?_
    refine OpsS.he (HE.bsl rfl rfl rfl rfl rfl wcel (by rfl) (by rfl)) rfl (fun _ => wsl) (fun _ => wsr) ?_
    intro b3 _
    refine OpsS.he (HE.app rfl rfl (fun _ => wup) wup rfl rfl rfl (by rfl) (by rfl) (by rfl) (by rfl) (by rfl) (by rfl) (by omega) (fun w' hw' => Nat.le_trans hB (show Chg S0 w w' from hw'.at).size)) rfl (fun _ => wsl) (fun _ => wsr) ?_
    intro v2 _
    refine wgs ?_
    refine OpsS.pure (φ := v2.oneCell' = true) (fun w' hw' => own_one (hw'.own (v := v2))) fun hone => ?_
    refine OpsS.hez0 (HE0.storeL rfl rfl rfl rfl hone wup wset) rfl ?_
    rintro ⟨⟩ _
    refine wgh ?_
    refine FinH.end0 rfl fun w' hw' => ?_
    unfold BringPost
    refine MutPost.of (x := ((⟨tv, fv, bv, v2, gv, ev⟩ : SpV), ig')) (M := spM B bx sp im dm ⟨tv, fv, bv, v2, gv, ev⟩ tn tc { X with mems := X.mems ++ [x.mem] } ig' dg) ⟨by rw [hkx]; exact hcp, rfl⟩ (hw'.sub (R' := [Chg S0 w]) (by unfold spM; exact wsl) wsr) (by dsimp only; rw [hb]) (by rw [hS]; exact wmem)
  · have hb : X.bring x = { X with globals := X.globals ++ [x.global_] } := by unfold SpX.bring; simp [hkx, hc_]
    refine wgh ?_
    refine CdH.regionS [0, 1, 2, 3, 4, 5, 6, 7, 8, 9, 10] 11 [.blk b _ TImp, .blk bx [.pointer (some ⟨sp, 0, none⟩)] TSpP, .blk sp [tv, fv, bv, mv, gv, ev, .int .i64 X.datas, .map (some im), .map (some dm)] TSp] [] (by kernel_rfl) wsl wsr ?_
    refine wgs ?_
    refine OpsS.he (HE.bsl rfl rfl rfl rfl rfl wcel (by rfl) (by rfl)) rfl (fun _ => wsl) (fun _ => wsr) ?_
    intro b3 _
    refine OpsS.he (HE.app rfl rfl (fun _ => wup) wup rfl rfl rfl (by rfl) (by rfl) (by rfl) (by rfl) (by rfl) (by rfl) (by omega) (fun w' hw' => Nat.le_trans hB (show Chg S0 w w' from hw'.at).size)) rfl (fun _ => wsl) (fun _ => wsr) ?_
    intro v2 _
    refine wgs ?_
    refine OpsS.pure (φ := v2.oneCell' = true) (fun w' hw' => own_one (hw'.own (v := v2))) fun hone => ?_
    refine OpsS.hez0 (HE0.storeL rfl rfl rfl rfl hone wup wset) rfl ?_
    rintro ⟨⟩ _
    refine wgh ?_
    refine FinH.end0 rfl fun w' hw' => ?_
    unfold BringPost
    refine MutPost.of (x := ((⟨tv, fv, bv, mv, v2, ev⟩ : SpV), ig')) (M := spM B bx sp im dm ⟨tv, fv, bv, mv, v2, ev⟩ tn tc { X with globals := X.globals ++ [x.global_] } ig' dg) ⟨by rw [hkx]; exact hcp, rfl⟩ (hw'.sub (R' := [Chg S0 w]) (by unfold spM; exact wsl) wsr) (by dsimp only; rw [hb]) (by rw [hS]; exact wmem)
  · have hb : X.bring x = X := by unfold SpX.bring; simp [hkx, hc0_, hc1_, hc2_, hc3_]
    refine wgh ?_
    refine FinH.end0 rfl fun w' hw' => ?_
    unfold BringPost
    exact MutPost.of (x := ((⟨tv, fv, bv, mv, gv, ev⟩ : SpV), ig')) (M := spM B bx sp im dm ⟨tv, fv, bv, mv, gv, ev⟩ tn tc X ig' dg) ⟨by rw [hkx]; exact hcp, rfl⟩ (hw'.sub (R' := [Chg S0 w]) (by unfold spM; exact wsl) wsr) (by dsimp only; rw [hb]) (by rw [hS]; exact wmem)
section
variable {ops : Array Oper} {Q : Exit → Act → World → Prop} {n : Nat} {E : Env} {M M' : List Res} {R : List (World → Prop)} {rest l : List Oper} {op : Op} {d : Nat} {ty : TypeId} {pos : String} {aft : Array Edge} {v : Value} {x y z : Operand} {t : TypeId} {C : World → Prop}
theorem HE.appRB {Mf : Value → List Res} {ti te : TI} {B T s m k c : Nat} {po : Option Addr} {xs : List Value} (ys : List Value) (hx : ev E x = some v) (hy : ev E y = some (.slice po k c)) (hM : ∀ v', Up (.own B T s v m xs) (.own B T s v' (m + k) (xs ++ ys)) M (Mf v'))
    (hrd : k = 0 ∨ ∃ bk o, po = some ⟨bk, o, none⟩ ∧ ∀ w, Ok M R w → ∀ j u, ys[j]? = some u → w.cell? ⟨bk, o + j, none⟩ = some u) (hys : ys.length = k * s)
    (ht : G.ty t = some ti) (he : ti.elem = some T) (hte : G.ty T = some te) (hs : te.size = s) (hzs : Nat.beq te.zero.cells.size te.size = true) (hsz : Nat.blt 0 te.size = true) (h1 : ∀ u ∈ ys, u.oneCell' = true) (hby : (m + k) * te.bytes ≤ 140737488355328) (hml : m + k ≤ 9223372036854775807) (hB : ∀ w, Ok M R w → B ≤ w.heap.size) :
    HE n (.call ⟨.builtin .append, #[x, y], #[t, t]⟩) E M R (fun _ : Value => True) (fun v' => v') Mf (fun _ => R) :=
  ⟨fun w hw => by
    subst hs
    have hm := (hw.m _ (hM undef).mem)
    have ho : w.ownsRow B T te.size v m xs := hm.1
    have hsz' : 0 < te.size := by simpa using hsz
    have key : ∀ v' w', w'.ownsRow B T te.size v' (m + k) (xs ++ ys) → Chg (fun k => v.ownBlock = some k) w w' → (v'.ownBlock = v.ownBlock ∨ v'.ownBlock = some w.heap.size) → ∃ x : Value, True ∧ v' = x ∧ Ok (Mf x) R w' := fun v' w' ho' hc hob =>
      ⟨v', trivial, rfl, hw.upd (hM v') hc ho' fun i hi => ⟨(ho'.lt i hi).2, fun hlt => by
        rcases hob with e | e
        · show v.ownBlock = some i
          rw [← e]; exact hi
        · have hk' : v'.ownBlock = some i := hi
          rw [e] at hk'; cases hk'; omega⟩⟩
    by_cases h0 : k = 0
    · subst h0
      obtain ⟨po, c, rfl, hc, _⟩ := own_slice ho
      have hy0 : ys = [] := List.eq_nil_of_length_eq_zero (by simpa using hys)
      subst hy0
      refine (Eff.append0 (G := G) ht he hte hx hc hy).mono ?_
      rintro _ _ ⟨rfl, rfl⟩
      exact key _ _ (by rw [List.append_nil]; exact ho) (Chg.refl _ _) (.inl rfl)
    · obtain ⟨bk, o, rfl, hr⟩ := hrd.resolve_left h0
      refine (Eff.appendB (G := G) (news := ys) ht he hte (Nat.eq_of_beq_eq_true hzs) hsz' hx ho hy hys (fun j u hj => hr w hw j u hj) h1 (by unfold maxLen; omega) hby (hB w hw)).mono fun v' w' ⟨a, b, c⟩ => key v' w' a b c⟩
end
def Dec (g : Int → Option Value) (d : Int → Bool) : Prop := ∀ k, (g k).getD (.bool false) = .bool (d k)
def named (l : List Ins) (k : Int) : Bool := l.any fun x => decide (x.op = 210) && decide (x.a = k)
def decl1 (d : Int → Bool) (l : List Ins) : Int → Bool := fun k => d k || named l k
theorem named_app (l r : List Ins) (k : Int) : named (l ++ r) k = (named l k || named r k) := by unfold named; rw [List.any_append]
theorem Dec.put {g : Int → Option Value} {d : Int → Bool} (h : Dec g d) (a : Int) : Dec (put g a (.bool true)) (fun k => d k || decide (a = k)) := fun b => by
  unfold Go.Proofs.YtgbgnipidakdhaaGreatDoor.put
  by_cases e : b = a
  · subst e; simp
  · have e' : ¬ a = b := fun h => e h.symm
    simp only [if_neg e, e', decide_false, Bool.or_false]; exact h b
abbrev TIns2 : Nat := 42
def NamePost (B bx sp im dm : Nat) (v : SpV) (tn : Nat) (tc : List Value) (X : SpX) (ig dg : Int → Option Value) (d : Int → Bool) (l : List Ins) (w : World) : Ending → World → Prop :=
  MutPost (spM B bx sp im dm v tn tc X ig dg) w (fun _ : (Int → Option Value) => .tuple #[]) (fun g => Dec g (decl1 d l)) (fun g => spM B bx sp im dm v tn tc X ig g)
set_option maxHeartbeats 16000000 in
theorem space_name (F : Nat → Prop) (B bx sp im dm : Nat) (v : SpV) (tn : Nat) (tc : List Value) (X : SpX) (ig dg : Int → Option Value) (d : Int → Bool) (l : List Ins) (lv : Value) (w0 w : World) (hw : Ok (spM B bx sp im dm v tn tc X ig dg) [Ext w0] w) (hl : BodyR F w0 lv l) (hd : Dec dg d) :
    Calls G.P 39 #[lv, .pointer (some ⟨bx, 0, none⟩)] w (NamePost B bx sp im dm v tn tc X ig dg d l w) := by
  obtain ⟨tv, fv, bv, mv, gv, ev⟩ := v
  obtain ⟨p, c, rfl, hll⟩ := hl.slice
  refine enterH (l := [.slice p l.length c, .pointer (some ⟨bx, 0, none⟩)]) Tryz.func39 rfl Tryz.ntmps39 rfl (Ok.startM hw) ?_
  generalize hS : Mb (spM B bx sp im dm ⟨tv, fv, bv, mv, gv, ev⟩ tn tc X ig dg) = S0
  refine wgh ?_
  refine CdH.loop (σ := Nat × (Int → Option Value)) (fun s => [(1, .pointer (some ⟨bx, 0, none⟩)), (5, .slice p l.length c), (6, .int .i64 l.length), (7, .int .i64 s.1)]) (fun s => spM B bx sp im dm ⟨tv, fv, bv, mv, gv, ev⟩ tn tc X ig s.2) (fun _ => [Chg S0 w, Ext w0]) (fun s => s.1 ≤ l.length ∧ Dec s.2 (decl1 d (l.take s.1))) (fun s => l.length - s.1) (0, dg) wsub wsl wsr ⟨by dsimp only; omega, by dsimp only; intro k; rw [hd k]; simp [decl1, named]⟩ ?_
  rintro ⟨i, g⟩ ⟨hi, hg⟩
  dsimp only at hi hg ⊢
  by_cases hlt : i < l.length
  · obtain ⟨b6, o6, rfl, -, hall⟩ := hl.at hlt
    have hra := (hall i hlt).ra
    obtain ⟨tv9, lv9, htv, hlv, hc9⟩ := (hall i hlt).all9
    obtain ⟨xt, yt, rfl, -⟩ := htv.slice
    obtain ⟨xl, yl, rfl, -⟩ := hlv.slice
    have hnx : ∀ k, decl1 d (l.take (i + 1)) k = (decl1 d (l.take i) k || (decide ((ix l i).op = 210) && decide ((ix l i).a = k))) := fun k => by
      unfold decl1; rw [take_succ_ix hlt, named_app, Bool.or_assoc]; simp [named]
    unfold spM
    dsimp only
    refine wgh ?_
    refine OpsH.y_ (Yl.loadE rfl rfl rfl wmem (by rfl) (by rfl) hc9) rfl ?_
    refine OpsH.alloc [Value.int .i64 0, Value.int .i64 0, Value.int .i64 0, Value.int .u64 0, Value.int .i64 0, Value.int .i64 0, Value.int .i64 0, Value.slice none 0 0, Value.slice none 0 0] rfl rfl rfl fun b9 => ?_
    refine wgh ?_
    by_cases h210 : (ix l i).op = 210
    · refine wgh ?_
      refine CdH.regionS [0, 1, 2, 3, 4, 5] 6 [.blk b9 _ TIns2, .blk bx [.pointer (some ⟨sp, 0, none⟩)] TSpP, .blk sp [tv, fv, bv, mv, gv, ev, .int .i64 X.datas, .map (some im), .map (some dm)] TSp] [] (by kernel_rfl) wsl wsr ?_
      refine wgs ?_
      refine OpsS.hez0 (HE0.mapUpdate Tryz.underlying93 Tryz.underlying3 rfl rfl rfl hra wup) rfl ?_
      rintro ⟨⟩ _
      refine wgh ?_
      refine FinH.next (i + 1, put g (ix l i).a (.bool true)) wsub wsl wsr ⟨by dsimp only; omega, ?_⟩ (by dsimp only; omega)
      dsimp only
      intro k
      rw [hg.put _ k, hnx k]; simp [h210]
    · refine wgh ?_
      refine FinH.next (i + 1, g) wsub wsl wsr ⟨by dsimp only; omega, ?_⟩ (by dsimp only; omega)
      dsimp only
      intro k
      rw [hg k, hnx k]; simp [h210]
  · obtain rfl : i = l.length := by omega
    refine wgh ?_
    refine FinH.end0 rfl fun w' hw' => ?_
    unfold NamePost
    rw [List.take_length] at hg
    exact MutPost.of (x := g) hg hw' rfl (by rw [hS]; exact wmem)
theorem ints_rd {F : Nat → Prop} {w : World} {p : Option Addr} {n c : Nat} {xs : List Int} {M : List Res} {R : List (World → Prop)} (h : IntsR F w (.slice p n c) xs) (hR : Ext w ∈ R) : xs.length = 0 ∨ ∃ bk o, p = some ⟨bk, o, none⟩ ∧ ∀ w', Ok M R w' → ∀ j u, (xs.map (Value.int .i64))[j]? = some u → w'.cell? ⟨bk, o + j, none⟩ = some u := by
  obtain ⟨p', c', e, hl, h⟩ := h
  cases e
  rcases h with h | ⟨b, o, rfl, hF, h⟩
  · exact .inl (by rw [h]; rfl)
  · refine .inr ⟨b, o, rfl, fun w' hw' j u hj => ?_⟩
    rw [List.getElem?_map] at hj
    by_cases hlt : j < xs.length
    · rw [ix_some hlt] at hj
      cases hj
      exact (show Ext w w' from hw'.get hR).cell (h j hlt)
    · rw [List.getElem?_eq_none (by omega)] at hj; cases hj
theorem ints_one (xs : List Int) : ∀ u ∈ xs.map (Value.int .i64), u.oneCell' = true := by
  intro u hu; obtain ⟨a, _, rfl⟩ := List.mem_map.1 hu; rfl
theorem own_ints {w : World} {B T : Nat} {v : Value} {xs : List Int} (h : w.ownsRow B T 1 v xs.length (xs.map (Value.int .i64))) (hl : xs.length ≤ 17592186044416) : IntsR (fun k => B ≤ k) w v xs := by
  obtain ⟨p, c, rfl, hn, hc, hg⟩ := own_slice h
  refine ⟨p, c, rfl, hl, ?_⟩
  by_cases hx : xs = []
  · exact .inl hx
  · obtain ⟨g, rfl, h1, h2⟩ := hg (List.length_pos_iff.2 hx)
    exact .inr ⟨g, 0, rfl, h1, fun i hi => by rw [Nat.zero_add]; exact own_get h (by rw [List.getElem?_map, ix_some hi]; rfl)⟩
set_option maxHeartbeats 16000000 in
theorem space_copied (F : Nat → Prop) (f : ApiFunc) (u0 u1 : Value) (w : World) (h0 : IntsR F w u0 f.params) (h1 : IntsR F w u1 f.results) : Calls G.P 37 #[.agg #[u0, u1]] w fun e w' => (∃ x : Value × Value, e = .returned (.agg #[x.1, x.2]) ∧ IntsR (fun k => w.heap.size ≤ k) w' x.1 f.params ∧ IntsR (fun k => w.heap.size ≤ k) w' x.2 f.results) ∧ Ext w w' := by
  obtain ⟨p0, c0, rfl, l0⟩ := h0.slice
  obtain ⟨p1, c1, rfl, l1⟩ := h1.slice
  refine enterH (l := [.agg #[.slice p0 f.params.length c0, .slice p1 f.results.length c1]]) Tryz.func37 rfl Tryz.ntmps37 rfl (Ok.start w) ?_
  refine wgh ?_
  refine OpsH.box [.slice p0 f.params.length c0, .slice p1 f.results.length c1] rfl rfl rfl fun b1 => ?_
  refine wgh ?_
  refine OpsH.alloc [Value.slice none 0 0, Value.slice none 0 0] rfl rfl rfl fun b2 => ?_
  refine wgh ?_
  refine CdH.nilO w.heap.size TVal 1 ?_
  refine CdH.nilO w.heap.size TVal 1 ?_
  refine CdH.regionS [0, 1, 3, 4, 2, 5, 6] 7 [.blk b1 [.slice p0 f.params.length c0, .slice p1 f.results.length c1] TFn] [Ext w] (by kernel_rfl) wsl wsr ?_
  refine wgs ?_
  refine OpsS.he (HE.appRB (f.params.map (Value.int .i64)) rfl rfl (fun _ => wup) (ints_rd h0 wmem) (by simp) rfl rfl rfl (by rfl) (by rfl) (by rfl) (ints_one _) (by show (0 + f.params.length) * 8 ≤ _; omega) (by omega) szR) rfl (fun _ => wsl) (fun _ => wsr) ?_
  intro v1 _
  refine OpsS.he (HE.appRB (f.results.map (Value.int .i64)) rfl rfl (fun _ => wup) (ints_rd h1 wmem) (by simp) rfl rfl rfl (by rfl) (by rfl) (by rfl) (ints_one _) (by show (0 + f.results.length) * 8 ≤ _; omega) (by omega) szR) rfl (fun _ => wsl) (fun _ => wsr) ?_
  intro v2 _
  refine OpsS.pure (φ := (∃ p c, v1 = .slice p (0 + f.params.length) c) ∧ ∃ p c, v2 = .slice p (0 + f.results.length) c) (fun w' hw' => ⟨?_, ?_⟩) ?_
  · obtain ⟨p, c, e, _⟩ := own_slice (hw'.own (v := v1)); exact ⟨p, c, e⟩
  · obtain ⟨p, c, e, _⟩ := own_slice (hw'.own (v := v2)); exact ⟨p, c, e⟩
  rintro ⟨⟨q1, d1, rfl⟩, ⟨q2, d2, rfl⟩⟩
  refine wgs ?_
  refine OpsS.hez0 (HE0.storeB _ rfl rfl rfl rfl rfl rfl wup rfl) rfl ?_
  rintro ⟨⟩ _
  refine wgh ?_
  refine FinH.ret1c (.inl rfl) rfl rfl rfl rfl rfl wup rfl fun w' hw' => ⟨⟨(_, _), rfl, ?_, ?_⟩, hw'.at⟩
  · have := hw'.own (v := .slice q1 (0 + f.params.length) d1)
    rw [Nat.zero_add] at this ⊢
    exact own_ints this l0
  · have := hw'.own (v := .slice q2 (0 + f.results.length) d2)
    have e : 0 + f.results.length = f.results.length := Nat.zero_add _
    rw [e] at this
    show IntsR _ w' (.slice q2 (0 + f.results.length) d2) _
    rw [e]; exact own_ints this l1
end Go.Proofs.YtgbgnipidakdhaaGreatDoor
