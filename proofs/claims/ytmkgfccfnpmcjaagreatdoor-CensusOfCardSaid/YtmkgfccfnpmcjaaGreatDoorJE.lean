/- More rules of the walk: structs written out, texts, results that lie in memory; the walker over them. -/
import Derived.Test.YtmkgfccfnpmcjaaGreatDoorJBt
import Derived.Test.YtmkgfccfnpmcjaaGreatDoorJD
namespace Go.Proofs.YtmkgfccfnpmcjaaGreatDoor
open Go.RowKit

section
variable {n : Nat} {E : Env} {C : World → Prop} {x y z : Operand} {t t2 : TypeId} {v : Value} {w : World} {ops : Array Oper} {M : Mode} {rest : List Oper} {d : Nat} {ty : TypeId} {pos : String} {aft : Array Edge}

/-- cells laid over others from a place on -/
def layL : List Value → Nat → List Value → List Value
  | cs, _, [] => cs
  | cs, o, c :: r => layL (cs.set o c) (o + 1) r
/-- what 'build' lays out -/
def fillL (pl : List (Nat × Nat)) : List Value → List (Nat × Value) → Option (List Value)
  | cs, [] => some cs
  | cs, (i, v) :: r =>
    match pl[i]? with
    | none => none
    | some (off, size) => bif (Nat.beq v.cells.toList.length size && Nat.ble (off + v.cells.toList.length) cs.length) then fillL pl (layL cs off v.cells.toList) r else none
theorem layL_eq : ∀ (l : List Value) (cs : List Value) (o k : Nat), (layL cs (o + k) l).toArray = (l.zipIdx k).foldl (fun a p => a.setIfInBounds (o + p.2) p.1) cs.toArray
  | [], cs, o, k => rfl
  | c :: r, cs, o, k => by
    rw [layL, List.zipIdx_cons, List.foldl_cons, Nat.add_assoc, layL_eq r _ o (k + 1)]
    simp
theorem fill_of {pl : List (Nat × Nat)} : ∀ {parts : List (Nat × Value)} {cs c : List Value}, fillL pl cs parts = some c → Instr.fill (pl.toArray[·]?) cs.toArray parts = some c.toArray
  | [], cs, c, h => by simp only [fillL, Option.some.injEq] at h; subst h; rfl
  | (i, v) :: r, cs, c, h => by
    simp only [fillL] at h
    unfold Instr.fill
    have e0 : pl.toArray[i]? = pl[i]? := by simp
    rw [e0]
    cases hp : pl[i]? with
    | none => simp [hp] at h
    | some p =>
      obtain ⟨off, size⟩ := p
      rw [hp] at h
      dsimp only at h ⊢
      cases hb : (Nat.beq v.cells.toList.length size && Nat.ble (off + v.cells.toList.length) cs.length) with
      | false => rw [hb] at h; cases h
      | true =>
        rw [hb] at h
        simp only [Bool.and_eq_true] at hb
        have h1 := Nat.eq_of_beq_eq_true hb.1
        have h2 := Nat.le_of_ble_eq_true hb.2
        have e1 : v.cells.size = size := by simpa using h1
        have e2 : ¬ off + v.cells.size > cs.toArray.size := by simpa using h2
        rw [if_neg (by simp [e1]; rw [e1] at e2; simpa using e2)]
        have h3 := fill_of h
        rw [← h3]
        congr 1
        have := layL_eq v.cells.toList cs off 0
        rw [Nat.add_zero] at this
        rw [this, ← Array.foldl_toList, Array.toList_zipIdx]
/-- a struct written out -/
theorem Yl.buildP {s bt : Nat} {el : Option Nat} {os : List Nat} {zs : List Value} {ik : Option IntKind} {parts : List (Nat × Operand)} {vs : List Value} (ht : G.ty t = some ⟨s, bt, true, el, os, .agg zs.toArray, ik⟩) (ho : os.isEmpty = false) (hv : evs E (parts.map (·.2)) = some vs) (hf : (fillL (plsOf os s) zs ((parts.map (·.1)).zip vs)).isSome = true) :
    Yl G n (.build t parts.toArray) E C (.agg ((fillL (plsOf os s) zs ((parts.map (·.1)).zip vs)).getD []).toArray) := by
  refine Yl.build hv (fun w => ?_)
  rw [bld_ok t _ ht rfl (by simpa using ho)]
  refine bldS_ok ?_ _ _
  obtain ⟨c, hc⟩ := Option.isSome_iff_exists.1 hf
  rw [hc]
  have := fill_of hc
  simpa [Value.cells] using this

/-- texts -/
theorem Yl.strBin {bo : BinOp} {a b : ByteArray} (hx : ev E x = some (.string a)) (hy : ev E y = some (.string b)) (hr : ∀ w, (Op.stringOp bo a b).run G.P w = .ok v w) : Yl G n (.binOp bo t x y t2) E C v :=
  ⟨fun w _ ac ha d ty pos aft gd => by
    have hg : ∀ p q : Operand, (eqGuard bo t p q (.string a) (.string b)).run G.P w = .ok () w := by
      intro p q; unfold eqGuard; split <;> simp
    simp [execOp, ha.eval hx, ha.eval hy, hg, binOp, hr]⟩
theorem Yl.eqS {a b : ByteArray} (hx : ev E x = some (.string a)) (hy : ev E y = some (.string b)) : Yl G n (.binOp .eql t x y t2) E C (.bool (a.data.toList == b.data.toList)) := Yl.strBin hx hy (fun w => by simp [Op.stringOp, ByteArray.toList_eq])
theorem Yl.neqS {a b : ByteArray} (hx : ev E x = some (.string a)) (hy : ev E y = some (.string b)) : Yl G n (.binOp .neq t x y t2) E C (.bool (!(a.data.toList == b.data.toList))) := Yl.strBin hx hy (fun w => by simp [Op.stringOp, ByteArray.toList_eq])
theorem Yl.addS {a b : ByteArray} (hx : ev E x = some (.string a)) (hy : ev E y = some (.string b)) (h : a.size + b.size ≤ 9223372036854775807) : Yl G n (.binOp .add t x y t2) E C (.string (a ++ b)) := Yl.strBin hx hy (fun w => run_string_add_sum w a b h)
theorem Yl.lenS {a : ByteArray} (ht : G.P.underlying t = some .string) (hx : ev E x = some (.string a)) : Yl G n (.call ⟨.builtin .len, #[x], #[t]⟩) E C (.int .i64 a.size) :=
  ⟨fun w _ ac ha d ty pos aft gd => by simp [execOp, resolve, invoke, builtin, Builtin.len_, ha.eval hx, run_underlying ht, goInt]⟩
theorem Yl.sliceSHi {k : IntKind} {p : Int} {a : ByteArray} {i : Nat} (ht : G.P.underlying t = some .string) (hx : ev E x = some (.string a)) (hi : ev E y = some (.int k p)) (hp : p = (i : Int)) (hc : i ≤ a.size) : Yl G n (.slice t x none (some y) none) E C (.string (a.extract 0 i)) :=
  ⟨fun w _ ac ha d ty pos aft gd => by subst hp; simp [execOp, ha.eval hx, ha.eval hi, Instr.sliceAt, Instr.slice, Instr.sliceBounds, Instr.sliceBound, asIntOf, run_underlying ht, hc]⟩
theorem Yl.sliceSLo {k : IntKind} {p : Int} {a : ByteArray} {i : Nat} (ht : G.P.underlying t = some .string) (hx : ev E x = some (.string a)) (hi : ev E y = some (.int k p)) (hp : p = (i : Int)) (hc : i ≤ a.size) : Yl G n (.slice t x (some y) none none) E C (.string (a.extract i a.size)) :=
  ⟨fun w _ ac ha d ty pos aft gd => by subst hp; simp [execOp, ha.eval hx, ha.eval hi, Instr.sliceAt, Instr.slice, Instr.sliceBounds, Instr.sliceBound, asIntOf, run_underlying ht, hc]⟩
theorem Yl.sliceSLH {k k' : IntKind} {p q : Int} {a : ByteArray} {i j : Nat} (ht : G.P.underlying t = some .string) (hx : ev E x = some (.string a)) (hi : ev E y = some (.int k p)) (hj : ev E z = some (.int k' q)) (hp : p = (i : Int)) (hq : q = (j : Int)) (hc : i ≤ j) (hc2 : j ≤ a.size) : Yl G n (.slice t x (some y) (some z) none) E C (.string (a.extract i j)) :=
  ⟨fun w _ ac ha d ty pos aft gd => by subst hp; subst hq; simp [execOp, ha.eval hx, ha.eval hi, ha.eval hj, Instr.sliceAt, Instr.slice, Instr.sliceBounds, Instr.sliceBound, asIntOf, run_underlying ht, hc, hc2]⟩
theorem Yl.quo {p q r : Int} (hx : ev E x = some (.int .i64 p)) (hy : ev E y = some (.int .i64 q)) (hr : ∀ w, (binOp .quo t (.int .i64 p) (.int .i64 q)).run G.P w = .ok (.int .i64 r) w) : Yl G n (.binOp .quo t x y t2) E C (.int .i64 r) := Yl.bin hx hy hr
/-- a sum that may wrap -/
theorem Yl.addw {p q : Int} (hx : ev E x = some (.int .i64 p)) (hy : ev E y = some (.int .i64 q)) : Yl G n (.binOp .add t x y t2) E C (.int .i64 (IntKind.i64.wrap (p + q))) := Yl.bin hx hy (fun w => by simp only [binOp, Op.intArith, ne_eq, not_true_eq_false, if_false]; rfl)

end
/-- walk on, by all rules -/
theorem wgx {g g' : Prop} (h : g') (hw : Hold g' → g := by (intro hk_; (repeat (first | (first | refine Ops.y (Yl.move rfl) rfl ?_ | refine Ops.y (Yl.assign rfl) rfl ?_ | (refine Ops.is ?_; (first | (refine Ops.isG ?_; (first | refine Ops.gs rfl rfl rfl ?_ | refine Ops.gu rfl rfl ?_ | refine Ops.yg rfl (Yl.move rfl) rfl ?_ | refine Ops.yg rfl (Yl.assign rfl) rfl ?_ | (refine Ops.isBin ?_; (first | (refine Ops.isBin (bo := .lss) ?_; (first | refine Ops.yg rfl (Yl.lssT rfl rfl (by omega)) rfl ?_ | refine Ops.yg rfl (Yl.lssF rfl rfl (by omega)) rfl ?_)) | (refine Ops.isBin (bo := .eql) ?_; (first | refine Ops.yg rfl (Yl.eqlT rfl rfl (by omega)) rfl ?_ | refine Ops.yg rfl (Yl.eqlF rfl rfl (by omega)) rfl ?_)) | (refine Ops.isBin (bo := .neq) ?_; (first | refine Ops.yg rfl (Yl.neqT rfl rfl (by omega)) rfl ?_ | refine Ops.yg rfl (Yl.neqF rfl rfl (by omega)) rfl ?_)) | (refine Ops.isBin (bo := .leq) ?_; (first | refine Ops.yg rfl (Yl.leqT rfl rfl (by omega)) rfl ?_ | refine Ops.yg rfl (Yl.leqF rfl rfl (by omega)) rfl ?_)) | (refine Ops.isBin (bo := .gtr) ?_; (first | refine Ops.yg rfl (Yl.gtrT rfl rfl (by omega)) rfl ?_ | refine Ops.yg rfl (Yl.gtrF rfl rfl (by omega)) rfl ?_)) | (refine Ops.isBin (bo := .geq) ?_; (first | refine Ops.yg rfl (Yl.geqT rfl rfl (by omega)) rfl ?_ | refine Ops.yg rfl (Yl.geqF rfl rfl (by omega)) rfl ?_)) | refine Ops.yg rfl (Yl.add rfl rfl (by omega)) rfl ?_ | refine Ops.yg rfl (Yl.sub rfl rfl (by omega)) rfl ?_ | refine Ops.yg rfl (Yl.shr1 rfl rfl) rfl ?_ | refine Ops.yg rfl (Yl.eqNil rfl rfl rfl rfl) rfl ?_ | refine Ops.yg rfl (Yl.neqb Tryz.underlying4 rfl rfl) rfl ?_ | refine Ops.yg rfl (Yl.eqlb Tryz.underlying4 rfl rfl) rfl ?_)) | (refine Ops.isField ?_; (first | refine Ops.yg rfl (Yl.field0 rfl rfl rfl) rfl ?_ | refine Ops.yg rfl (Yl.field rfl rfl rfl) rfl ?_)) | (refine Ops.isLoad ?_; (first | refine Ops.yg rfl (Yl.load rfl rfl rfl (by intro _ hw_; cases hw_; with_reducible assumption)) rfl ?_ | refine Ops.yg rfl (Yl.load rfl rfl rfl (ncell (by with_reducible assumption))) rfl ?_ | refine Ops.yg rfl (Yl.load rfl rfl rfl (dcell (by with_reducible assumption))) rfl ?_ | refine Ops.yg rfl (Yl.load rfl rfl rfl (scell (by with_reducible assumption))) rfl ?_ | refine Ops.yg rfl (Yl.load rfl rfl rfl (ecell (by with_reducible assumption))) rfl ?_ | refine Ops.yg rfl (Yl.load rfl rfl rfl (by with_reducible assumption)) rfl ?_)) | (refine Ops.isIdx ?_; (first | refine Ops.yg rfl (Yl.idx1 rfl rfl rfl rfl rfl rfl (by omega)) rfl ?_ | refine Ops.yg rfl (Yl.idx rfl rfl rfl rfl rfl rfl (by omega)) rfl ?_)) | refine Ops.yg rfl (Yl.len rfl rfl rfl) rfl ?_ | refine Ops.yg rfl (Yl.extract rfl rfl) rfl ?_ | refine Ops.yg rfl (Yl.pickT rfl rfl) rfl ?_ | refine Ops.yg rfl (Yl.pickF rfl rfl) rfl ?_ | refine Ops.yg rfl (Yl.nilCheck rfl) rfl ?_ | refine Ops.yg rfl (Yl.not rfl) rfl ?_ | refine Ops.yg rfl (Yl.convI rfl rfl rfl rfl rfl (by omega)) rfl ?_ | refine Ops.yg rfl (Yl.convU rfl rfl rfl rfl rfl (by omega)) rfl ?_ | refine Ops.yg rfl (Yl.makeFunc rfl rfl) rfl ?_)) | refine Ops.nil ?_ | refine Ops.nilT ?_ | refine Ops.nilM ?_ | (refine Ops.isBin ?_; (first | (refine Ops.isBin (bo := .lss) ?_; (first | refine Ops.y (Yl.lssT rfl rfl (by omega)) rfl ?_ | refine Ops.y (Yl.lssF rfl rfl (by omega)) rfl ?_)) | (refine Ops.isBin (bo := .eql) ?_; (first | refine Ops.y (Yl.eqlT rfl rfl (by omega)) rfl ?_ | refine Ops.y (Yl.eqlF rfl rfl (by omega)) rfl ?_)) | (refine Ops.isBin (bo := .neq) ?_; (first | refine Ops.y (Yl.neqT rfl rfl (by omega)) rfl ?_ | refine Ops.y (Yl.neqF rfl rfl (by omega)) rfl ?_)) | (refine Ops.isBin (bo := .leq) ?_; (first | refine Ops.y (Yl.leqT rfl rfl (by omega)) rfl ?_ | refine Ops.y (Yl.leqF rfl rfl (by omega)) rfl ?_)) | (refine Ops.isBin (bo := .gtr) ?_; (first | refine Ops.y (Yl.gtrT rfl rfl (by omega)) rfl ?_ | refine Ops.y (Yl.gtrF rfl rfl (by omega)) rfl ?_)) | (refine Ops.isBin (bo := .geq) ?_; (first | refine Ops.y (Yl.geqT rfl rfl (by omega)) rfl ?_ | refine Ops.y (Yl.geqF rfl rfl (by omega)) rfl ?_)) | refine Ops.y (Yl.add rfl rfl (by omega)) rfl ?_ | refine Ops.y (Yl.sub rfl rfl (by omega)) rfl ?_ | refine Ops.y (Yl.shr1 rfl rfl) rfl ?_ | refine Ops.y (Yl.eqNil rfl rfl rfl rfl) rfl ?_ | refine Ops.y (Yl.neqb Tryz.underlying4 rfl rfl) rfl ?_ | refine Ops.y (Yl.eqlb Tryz.underlying4 rfl rfl) rfl ?_)) | (refine Ops.isField ?_; (first | refine Ops.y (Yl.field0 rfl rfl rfl) rfl ?_ | refine Ops.y (Yl.field rfl rfl rfl) rfl ?_)) | (refine Ops.isLoad ?_; (first | refine Ops.y (Yl.load rfl rfl rfl (by intro _ hw_; cases hw_; with_reducible assumption)) rfl ?_ | refine Ops.y (Yl.load rfl rfl rfl (ncell (by with_reducible assumption))) rfl ?_ | refine Ops.y (Yl.load rfl rfl rfl (dcell (by with_reducible assumption))) rfl ?_ | refine Ops.y (Yl.load rfl rfl rfl (scell (by with_reducible assumption))) rfl ?_ | refine Ops.y (Yl.load rfl rfl rfl (ecell (by with_reducible assumption))) rfl ?_ | refine Ops.y (Yl.load rfl rfl rfl (by with_reducible assumption)) rfl ?_)) | (refine Ops.isIdx ?_; (first | refine Ops.y (Yl.idx1 rfl rfl rfl rfl rfl rfl (by omega)) rfl ?_ | refine Ops.y (Yl.idx rfl rfl rfl rfl rfl rfl (by omega)) rfl ?_)) | refine Ops.y (Yl.len rfl rfl rfl) rfl ?_ | refine Ops.y (Yl.extract rfl rfl) rfl ?_ | refine Ops.y (Yl.pickT rfl rfl) rfl ?_ | refine Ops.y (Yl.pickF rfl rfl) rfl ?_ | refine Ops.y (Yl.nilCheck rfl) rfl ?_ | refine Ops.y (Yl.not rfl) rfl ?_ | refine Ops.y (Yl.convI rfl rfl rfl rfl rfl (by omega)) rfl ?_ | refine Ops.y (Yl.convU rfl rfl rfl rfl rfl (by omega)) rfl ?_ | refine Ops.y (Yl.makeFunc rfl rfl) rfl ?_)) | (refine Cd.is ?_; (first | refine Cd.seq ?_ | refine Cd.region ?_ | refine Cd.regionN (by kernel_rfl) ?_ | refine Cd.block ?_ | refine Cd.condT rfl ?_ | refine Cd.condF rfl ?_ | refine Cd.skip ?_ | refine Cd.scope ?_ | refine Cd.ret ?_ | refine Cd.exit ?_ | refine Cd.label ?_)) | (refine Fin.is ?_; (first | refine Fin.thenN ?_ | refine Fin.blkN ?_ | refine Fin.thenR ?_ | refine Fin.blkR ?_ | refine Fin.thenX ?_ | refine Fin.ngN ?_ | refine Fin.ngR ?_ | refine Fin.ngX ?_ | refine Fin.blkX ?_ | refine Fin.blkY rfl ?_))) | (refine Ops.is ?_; (first | (refine Ops.isG ?_; (first | (refine Ops.isBin ?_; (first | refine Ops.yg rfl (Yl.eqS rfl rfl) rfl ?_ | refine Ops.yg rfl (Yl.neqS rfl rfl) rfl ?_ | refine Ops.yg rfl (Yl.addS rfl rfl (by omega)) rfl ?_)) | refine Ops.yg rfl (Yl.buildP rfl rfl rfl rfl) rfl ?_ | refine Ops.yg rfl (Yl.sliceSHi Tryz.underlying9 rfl rfl rfl (by omega)) rfl ?_ | refine Ops.yg rfl (Yl.sliceSLo Tryz.underlying9 rfl rfl rfl (by omega)) rfl ?_ | refine Ops.yg rfl (Yl.sliceSLH Tryz.underlying9 rfl rfl rfl rfl rfl (by omega) (by omega)) rfl ?_ | refine Ops.yg rfl (Yl.sliceHi rfl rfl rfl rfl rfl rfl (by omega)) rfl ?_ | refine Ops.yg rfl (Yl.lenS Tryz.underlying9 rfl) rfl ?_)) | (refine Ops.isBin ?_; (first | refine Ops.y (Yl.eqS rfl rfl) rfl ?_ | refine Ops.y (Yl.neqS rfl rfl) rfl ?_ | refine Ops.y (Yl.addS rfl rfl (by omega)) rfl ?_)) | refine Ops.y (Yl.buildP rfl rfl rfl rfl) rfl ?_ | refine Ops.y (Yl.sliceSHi Tryz.underlying9 rfl rfl rfl (by omega)) rfl ?_ | refine Ops.y (Yl.sliceSLo Tryz.underlying9 rfl rfl rfl (by omega)) rfl ?_ | refine Ops.y (Yl.sliceSLH Tryz.underlying9 rfl rfl rfl rfl rfl (by omega) (by omega)) rfl ?_ | refine Ops.y (Yl.sliceHi rfl rfl rfl rfl rfl rfl (by omega)) rfl ?_ | refine Ops.y (Yl.lenS Tryz.underlying9 rfl) rfl ?_)))); exact hk_.out)) : g := hw ⟨h⟩

section
variable {fn : Func} {R : Ending → World → Prop} {n : Nat} {E : Env} {w : World} {a T t b Tb s : Nat} {ti : TI} {v : Value} {cs : List Value}
theorem run_cellA (hT : G.ty T = some ti) (hag : ti.agg = true) (hsz : ti.size = s) (hb : Blk w b cs Tb) (hl : cs.length = s) : (loadVar T ⟨b, 0, none⟩).run G.P w = .ok (.agg cs.toArray) w := by
  have h1 := (G.tyOk T ti hT).agg w
  have h2 := (G.tyOk T ti hT).size w
  rw [hag] at h1
  subst hl
  have h3 := run_loadCells (P := G.P) (w := w) (bk := b) cs 0 0 #[] (fun j hj => by
    have := hb.cell (j := j) (List.getElem?_eq_getElem hj)
    rw [List.getElem?_eq_getElem hj, ← this]; simp)
  simp [loadVar, h1, h2, hsz, loadCells, h3]
/-- a result that is a struct in memory -/
theorem Fin.ret1c {e : Exit} (he : e = .ret ∨ e = .normal) (hr : fn.results = #[.cell a T]) (ha : lk E a = some (.pointer (some ⟨b, 0, none⟩))) (hT : G.ty T = some ti) (hag : ti.agg = true) (hsz : ti.size = s) (hb : Blk w b cs Tb) (hl : cs.length = s) (hR : R (.returned (.agg cs.toArray)) w) : Fin (bodyPost G.P fn R) n e E w :=
  Fin.ofRun he (fun ac hac => by
    have h3 := run_cellA hT hag hsz hb hl
    have g1 : ac.tmps[a]?.getD undef = .pointer (some ⟨b, 0, none⟩) := by have := (hac.eq a _ ha).2; simpa using this
    simp [results, hr, g1, asAddr, h3]) hR
/-- the same, and one more -/
theorem Fin.ret2c {e : Exit} (he : e = .ret ∨ e = .normal) (hr : fn.results = #[.cell a T, .tmp t]) (ha : lk E a = some (.pointer (some ⟨b, 0, none⟩))) (hT : G.ty T = some ti) (hag : ti.agg = true) (hsz : ti.size = s) (hb : Blk w b cs Tb) (hl : cs.length = s) (hv : lk E t = some v) (hR : R (.returned (.tuple #[.agg cs.toArray, v])) w) : Fin (bodyPost G.P fn R) n e E w :=
  Fin.ofRun he (fun ac hac => by
    have h3 := run_cellA hT hag hsz hb hl
    have g1 : ac.tmps[a]?.getD undef = .pointer (some ⟨b, 0, none⟩) := by have := (hac.eq a _ ha).2; simpa using this
    have g2 : ac.tmps[t]?.getD undef = v := by have := (hac.eq t _ hv).2; simpa using this
    simp [results, hr, g1, g2, asAddr, h3]) hR
/-- a result that lies in a cell -/
theorem Fin.ret1s {e : Exit} {ad : Addr} (he : e = .ret ∨ e = .normal) (hr : fn.results = #[.cell a T]) (ha : lk E a = some (.pointer (some ad))) (hT : G.ty T = some ti) (hag : ti.agg = false) (hc : w.cell? ad = some v) (hR : R (.returned v) w) : Fin (bodyPost G.P fn R) n e E w :=
  Fin.ofRun he (fun ac hac => by
    have h1 := (G.tyOk T ti hT).agg w
    rw [hag] at h1
    have g1 : ac.tmps[a]?.getD undef = .pointer (some ad) := by have := (hac.eq a _ ha).2; simpa using this
    simp [results, hr, g1, asAddr, loadVar, h1, hc]) hR
end
end Go.Proofs.YtmkgfccfnpmcjaaGreatDoor
