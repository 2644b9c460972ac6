/- The walk's own rules for the operations. -/
import Derived.Test.YtgbgnipidakdhaaGreatDoorJK
namespace Go.Proofs.YtgbgnipidakdhaaGreatDoor
open Go.RowKit

/-- in every world of the class the operation op gives v and leaves the world as it is -/
structure Yl (G : Prg) (n : Nat) (op : Op) (E : Env) (C : World → Prop) (v : Value) : Prop where
  h : ∀ w, C w → ∀ a, Ag n a E → ∀ d ty pos aft gd, (execOp a.eval ⟨d, op, ty, pos, aft, gd⟩).run G.P w = .ok (.value v) w

/-- what the guard of an operation says -/
def gdv (ops : Array Oper) (E : Env) (j : Nat) : Option Bool :=
  match ((ops[j]?).bind (·.dst)).bind (lk E) with
  | some (.bool b) => some b
  | _ => none

/-- the guard looks at an operation that was itself passed over -/
def gdu (ops : Array Oper) (E : Env) (j : Nat) : Bool :=
  match ((ops[j]?).bind (·.dst)).bind (lk E) with
  | some (.bool _) => false
  | some _ => true
  | none => false

section
variable {G : Prg} {ops : Array Oper} {M : Mode} {n : Nat} {E : Env} {rest : List Oper} {op : Op} {ty : TypeId} {pos : String} {aft : Array Edge} {v : Value} {d : Nat}

theorem yielded_of {a : Act} (ha : Ag n a E) {j : Nat} {b : Bool} (h : gdv ops E j = some b) : yielded ops a.tmps j = some b := by
  unfold gdv at h
  unfold yielded
  cases h1 : (ops[j]?).bind (·.dst) with
  | none => simp [h1] at h
  | some t =>
    simp only [h1, Option.bind_some] at h ⊢
    cases h2 : lk E t with
    | none => simp [h2] at h
    | some u =>
      obtain ⟨h3, h4⟩ := ha.eq t u h2
      have ht : t < a.tmps.size := by rw [ha.sz]; exact h3
      have : a.tmps[t]? = some u := by
        rw [Array.getElem?_eq_getElem ht]; simp [Array.getD, ht] at h4; rw [h4]
      rw [this]
      cases u <;> simp_all

theorem yielded_none {a : Act} (ha : Ag n a E) {j : Nat} (h : gdu ops E j = true) : yielded ops a.tmps j = none := by
  unfold gdu at h
  unfold yielded
  cases h1 : (ops[j]?).bind (·.dst) with
  | none => simp [h1] at h
  | some t =>
    simp only [h1, Option.bind_some] at h ⊢
    cases h2 : lk E t with
    | none => simp [h2] at h
    | some u =>
      obtain ⟨h3, h4⟩ := ha.eq t u h2
      have ht : t < a.tmps.size := by rw [ha.sz]; exact h3
      have : a.tmps[t]? = some u := by
        rw [Array.getElem?_eq_getElem ht]; simp [Array.getD, ht] at h4; rw [h4]
      rw [this]
      cases u <;> simp_all
theorem run_y {a : Act} {o : Oper} (hq : isQ o.op = true) (hg : Region.wanted o (yielded ops a.tmps) = true) (hr : ∀ w, M.C w → (execOp a.eval o).run G.P w = .ok (.value v) w) (hn : M.run G ops rest (a.put o.dst v)) : M.run G ops (o :: rest) a := by
  cases M with
  | list Q w =>
    simp only [Mode.run, wpList, hg, if_true] at *
    refine .inl ?_
    unfold Oper.wp
    rw [hr w rfl]
    exact hn
  | still K w =>
    simp only [Mode.run, wpStill, hg, if_true] at *
    unfold Oper.still
    rw [hr w rfl]
    exact ⟨rfl, hn⟩
  | quiet K C =>
    simp only [Mode.run, wpQuiet, hg, if_true] at *
    refine ⟨v, fun w hw => ?_, hn⟩
    unfold Oper.quietAt
    rw [hr w hw]
    exact ⟨rfl, rfl⟩
  | mix sk Q C w =>
    simp only [Mode.run, wpMix, hg, hq, if_true] at *
    exact ⟨v, hr, hn⟩

theorem run_skip {a : Act} {o : Oper} (hg : Region.wanted o (yielded ops a.tmps) = false) (hn : M.run G ops rest (a.put o.dst undef)) : M.run G ops (o :: rest) a := by
  cases M with
  | list Q w => simp only [Mode.run, wpList, hg] at *; exact hn
  | still K w => simp only [Mode.run, wpStill, hg] at *; exact hn
  | quiet K C => simp only [Mode.run, wpQuiet, hg] at *; exact hn
  | mix sk Q C w => simp only [Mode.run, wpMix, hg] at *; exact hn

/-- an operation that gives a value -/
theorem Ops.y (hy : Yl G n op E M.C v) (hd : (isQ op && Nat.blt d n) = true) (h : Ops G ops M n rest ((d, v) :: E)) : Ops G ops M n (⟨some d, op, ty, pos, aft, none⟩ :: rest) E :=
  ⟨fun a ha => run_y (by simp only [Bool.and_eq_true] at hd; exact hd.1) (by simp [Region.wanted]) (fun w hw => hy.h w hw a ha _ _ _ _ _) (h.h _ (ha.put (by simp only [Bool.and_eq_true] at hd; simpa using hd.2) v))⟩
/-- a guarded operation whose guard lets it run -/
theorem Ops.yg {j : Nat} {b : Bool} (hg : gdv ops E j = some b) (hy : Yl G n op E M.C v) (hd : (isQ op && Nat.blt d n) = true) (h : Ops G ops M n rest ((d, v) :: E)) : Ops G ops M n (⟨some d, op, ty, pos, aft, some (j, b)⟩ :: rest) E :=
  ⟨fun a ha => run_y (by simp only [Bool.and_eq_true] at hd; exact hd.1) (by simp [Region.wanted, yielded_of ha hg]) (fun w hw => hy.h w hw a ha _ _ _ _ _) (h.h _ (ha.put (by simp only [Bool.and_eq_true] at hd; simpa using hd.2) v))⟩
/-- a guarded operation that is passed over -/
theorem Ops.gs {j : Nat} {b b' : Bool} (hg : gdv ops E j = some b') (hb : b' = !b) (hd : Nat.blt d n = true) (h : Ops G ops M n rest ((d, undef) :: E)) : Ops G ops M n (⟨some d, op, ty, pos, aft, some (j, b)⟩ :: rest) E :=
  ⟨fun a ha => run_skip (by subst hb; cases b <;> simp [Region.wanted, yielded_of ha hg]) (h.h _ (ha.put (by simpa using hd) undef))⟩
theorem Ops.gu {j : Nat} {b : Bool} (hg : gdu ops E j = true) (hd : Nat.blt d n = true) (h : Ops G ops M n rest ((d, undef) :: E)) : Ops G ops M n (⟨some d, op, ty, pos, aft, some (j, b)⟩ :: rest) E :=
  ⟨fun a ha => run_skip (by simp [Region.wanted, yielded_none ha hg]) (h.h _ (ha.put (by simpa using hd) undef))⟩
end

section
variable {G : Prg} {n : Nat} {E : Env} {C : World → Prop} {v u : Value} {x y z : Operand} {t t2 : TypeId} {p q : Int} {k : IntKind}

theorem Yl.move (hx : ev E x = some v) : Yl G n (.move x) E C v := ⟨fun w _ a ha d ty pos aft gd => by simp [execOp, ha.eval hx]⟩
theorem Yl.assign (hx : ev E x = some v) : Yl G n (.assign x) E C v := ⟨fun w _ a ha d ty pos aft gd => by simp [execOp, ha.eval hx]⟩
theorem Yl.pickT (hc : ev E x = some (.bool true)) (hx : ev E y = some v) : Yl G n (.pick x y z) E C v := ⟨fun w _ a ha d ty pos aft gd => by simp [execOp, ha.eval hx, ha.eval hc, asBool]⟩
theorem Yl.pickF (hc : ev E x = some (.bool false)) (hx : ev E z = some v) : Yl G n (.pick x y z) E C v := ⟨fun w _ a ha d ty pos aft gd => by simp [execOp, ha.eval hx, ha.eval hc, asBool]⟩
theorem Yl.bin {bo : BinOp} (hx : ev E x = some (.int k p)) (hy : ev E y = some (.int k q)) (hr : ∀ w, (binOp bo t (.int k p) (.int k q)).run G.P w = .ok v w) : Yl G n (.binOp bo t x y t2) E C v :=
  ⟨fun w _ a ha d ty pos aft gd => by
    have hg : ∀ b c : Operand, (eqGuard bo t b c (.int k p) (.int k q)).run G.P w = .ok () w := by
      intro b c; unfold eqGuard; split <;> simp
    simp [execOp, ha.eval hx, ha.eval hy, hg, hr]⟩
theorem Yl.lssT (hx : ev E x = some (.int k p)) (hy : ev E y = some (.int k q)) (h : p < q) : Yl G n (.binOp .lss t x y t2) E C (.bool true) := Yl.bin hx hy (fun w => by simp [binOp, Op.intCmp, h])
theorem Yl.lssF (hx : ev E x = some (.int k p)) (hy : ev E y = some (.int k q)) (h : q ≤ p) : Yl G n (.binOp .lss t x y t2) E C (.bool false) := Yl.bin hx hy (fun w => by simp [binOp, Op.intCmp, Int.not_lt.2 h])
theorem Yl.leqT (hx : ev E x = some (.int k p)) (hy : ev E y = some (.int k q)) (h : p ≤ q) : Yl G n (.binOp .leq t x y t2) E C (.bool true) := Yl.bin hx hy (fun w => by simp [binOp, Op.intCmp, h])
theorem Yl.leqF (hx : ev E x = some (.int k p)) (hy : ev E y = some (.int k q)) (h : q < p) : Yl G n (.binOp .leq t x y t2) E C (.bool false) := Yl.bin hx hy (fun w => by simp [binOp, Op.intCmp, Int.not_le.2 h])
theorem Yl.gtrT (hx : ev E x = some (.int k p)) (hy : ev E y = some (.int k q)) (h : q < p) : Yl G n (.binOp .gtr t x y t2) E C (.bool true) := Yl.bin hx hy (fun w => by simp [binOp, Op.intCmp, h])
theorem Yl.gtrF (hx : ev E x = some (.int k p)) (hy : ev E y = some (.int k q)) (h : p ≤ q) : Yl G n (.binOp .gtr t x y t2) E C (.bool false) := Yl.bin hx hy (fun w => by simp [binOp, Op.intCmp, Int.not_lt.2 h])
theorem Yl.geqT (hx : ev E x = some (.int k p)) (hy : ev E y = some (.int k q)) (h : q ≤ p) : Yl G n (.binOp .geq t x y t2) E C (.bool true) := Yl.bin hx hy (fun w => by simp [binOp, Op.intCmp, h])
theorem Yl.geqF (hx : ev E x = some (.int k p)) (hy : ev E y = some (.int k q)) (h : p < q) : Yl G n (.binOp .geq t x y t2) E C (.bool false) := Yl.bin hx hy (fun w => by simp [binOp, Op.intCmp, Int.not_le.2 h])
theorem Yl.eqlT (hx : ev E x = some (.int k p)) (hy : ev E y = some (.int k q)) (h : p = q) : Yl G n (.binOp .eql t x y t2) E C (.bool true) := Yl.bin hx hy (fun w => by simp [binOp, Op.intCmp, h])
theorem Yl.eqlF (hx : ev E x = some (.int k p)) (hy : ev E y = some (.int k q)) (h : p ≠ q) : Yl G n (.binOp .eql t x y t2) E C (.bool false) := Yl.bin hx hy (fun w => by simp [binOp, Op.intCmp, h])
theorem Yl.neqT (hx : ev E x = some (.int k p)) (hy : ev E y = some (.int k q)) (h : p ≠ q) : Yl G n (.binOp .neq t x y t2) E C (.bool true) := Yl.bin hx hy (fun w => by simp [binOp, Op.intCmp, h])
theorem Yl.neqF (hx : ev E x = some (.int k p)) (hy : ev E y = some (.int k q)) (h : p = q) : Yl G n (.binOp .neq t x y t2) E C (.bool false) := Yl.bin hx hy (fun w => by simp [binOp, Op.intCmp, h])
theorem Yl.add (hx : ev E x = some (.int .i64 p)) (hy : ev E y = some (.int .i64 q)) (h : -9223372036854775808 ≤ p + q ∧ p + q ≤ 9223372036854775807) : Yl G n (.binOp .add t x y t2) E C (.int .i64 (p + q)) :=
  Yl.bin hx hy (fun w => by simp only [binOp, Op.intArith, ne_eq, not_true_eq_false, if_false, IntWalk.i64_in _ h]; rfl)
theorem Yl.sub (hx : ev E x = some (.int .i64 p)) (hy : ev E y = some (.int .i64 q)) (h : -9223372036854775808 ≤ p - q ∧ p - q ≤ 9223372036854775807) : Yl G n (.binOp .sub t x y t2) E C (.int .i64 (p - q)) :=
  Yl.bin hx hy (fun w => by simp only [binOp, Op.intArith, ne_eq, not_true_eq_false, if_false, IntWalk.i64_in _ h]; rfl)
theorem Yl.eqbB {a b : Bool} (hx : ev E x = some (.bool a)) (hy : ev E y = some (.bool b)) (ht : ∀ w, (Op.equal t (.bool a) (.bool b)).run G.P w = .ok (a == b) w) : Yl G n (.binOp .eql t x y t2) E C (.bool (a == b)) :=
  ⟨fun w _ ac ha d ty pos aft gd => by simp [execOp, ha.eval hx, ha.eval hy, eqGuard, binOp, ht]⟩
theorem Yl.neqbB {a b : Bool} (hx : ev E x = some (.bool a)) (hy : ev E y = some (.bool b)) (ht : ∀ w, (Op.equal t (.bool a) (.bool b)).run G.P w = .ok (a == b) w) : Yl G n (.binOp .neq t x y t2) E C (.bool (a != b)) :=
  ⟨fun w _ ac ha d ty pos aft gd => by simp [execOp, ha.eval hx, ha.eval hy, eqGuard, binOp, ht, bne]⟩
theorem Yl.not {b : Bool} (hx : ev E x = some (.bool b)) : Yl G n (.unOp .not t x) E C (.bool (!b)) := ⟨fun w _ a ha d ty pos aft gd => by simp [execOp, ha.eval hx, Op.unary]⟩
theorem Yl.extract {vs : Array Value} {i : Nat} (hx : ev E x = some (.tuple vs)) (hi : vs[i]? = some v) : Yl G n (.extract x i) E C v := ⟨fun w _ a ha d ty pos aft gd => by simp [execOp, ha.eval hx, Instr.extract, hi]⟩
theorem Yl.nilCheck {ad : Addr} (hx : ev E x = some (.pointer (some ad))) : Yl G n (.nilCheck x) E C (.pointer (some ad)) := ⟨fun w _ a ha d ty pos aft gd => by simp [execOp, ha.eval hx]⟩
theorem Yl.makeFunc {fn : Fn} {first cap : List Operand} {fs cs : List Value} (h1 : evs E first = some fs) (h2 : evs E cap = some cs) : Yl G n (.makeFunc fn first.toArray cap.toArray) E C (.func fn fs.toArray cs.toArray) :=
  ⟨fun w _ a ha d ty pos aft gd => by
    have e1 := ha.evals h1
    have e2 := ha.evals h2
    simp [execOp, Instr.makeFunc, e1, e2]⟩
theorem Yl.len {ti : TI} {e : Nat} {po : Option Addr} {l c : Nat} (ht : G.ty t = some ti) (he : ti.elem = some e) (hx : ev E x = some (.slice po l c)) : Yl G n (.call ⟨.builtin .len, #[x], #[t]⟩) E C (.int .i64 l) :=
  ⟨fun w _ a ha d ty pos aft gd => by
    have := (G.tyOk t ti ht).elem e he
    simp [execOp, resolve, invoke, builtin, Builtin.len_, ha.eval hx, run_underlying this, goInt]⟩
theorem Yl.field {ti : TI} {f o bk of_ : Nat} (ht : G.ty t = some ti) (ho : ti.offs[f]? = some o) (hx : ev E x = some (.pointer (some ⟨bk, of_, none⟩))) : Yl G n (.fieldAddr t x f) E C (.pointer (some ⟨bk, of_ + o, none⟩)) :=
  ⟨fun w _ a ha d ty pos aft gd => by
    have := (G.tyOk t ti ht).offs f o ho w ⟨bk, of_, none⟩
    have e : (⟨bk, of_, none⟩ : Addr).add o = ⟨bk, of_ + o, none⟩ := by unfold Addr.add; split <;> simp_all
    simp [execOp, ha.eval hx, this, e]⟩
theorem Yl.field0 {ti : TI} {f bk of_ : Nat} (ht : G.ty t = some ti) (ho : ti.offs[f]? = some 0) (hx : ev E x = some (.pointer (some ⟨bk, of_, none⟩))) : Yl G n (.fieldAddr t x f) E C (.pointer (some ⟨bk, of_, none⟩)) := Yl.field ht ho hx
theorem Yl.idx {ti : TI} {e bk of_ l c i s bt : Nat} {ag : Bool} {el : Option Nat} {os : List Nat} {zr : Value} {ik : Option IntKind} (ht : G.ty t = some ti) (he : ti.elem = some e) (hte : G.ty e = some ⟨s, bt, ag, el, os, zr, ik⟩) (hx : ev E x = some (.slice (some ⟨bk, of_, none⟩) l c)) (hi : ev E y = some (.int k p)) (hp : p = (i : Int)) (hl : i < l) :
    Yl G n (.indexAddr t x y) E C (.pointer (some ⟨bk, of_ + i * s, none⟩)) :=
  ⟨fun w _ a ha d ty pos aft gd => by
    have h1 := (G.tyOk t ti ht).elem e he
    have h2 : (sizeOf e).run G.P w = .ok s w := (G.tyOk e _ hte).size w
    subst hp
    have e1 : (⟨bk, of_, none⟩ : Addr).add (i * s) = ⟨bk, of_ + i * s, none⟩ := by
      unfold Addr.add; split
      · rename_i h; rw [h]; rfl
      · rfl
    simp [execOp, ha.eval hx, ha.eval hi, Instr.indexAt, asIntOf, run_underlying h1, hl, h2, e1]⟩
theorem Yl.idx1 {ti : TI} {e bk of_ l c i bt : Nat} {ag : Bool} {el : Option Nat} {os : List Nat} {zr : Value} {ik : Option IntKind} (ht : G.ty t = some ti) (he : ti.elem = some e) (hte : G.ty e = some ⟨1, bt, ag, el, os, zr, ik⟩) (hx : ev E x = some (.slice (some ⟨bk, of_, none⟩) l c)) (hi : ev E y = some (.int k p)) (hp : p = (i : Int)) (hl : i < l) :
    Yl G n (.indexAddr t x y) E C (.pointer (some ⟨bk, of_ + i, none⟩)) := by
  have := Yl.idx (G := G) (n := n) (E := E) (C := C) ht he hte hx hi hp hl
  rwa [Nat.mul_one] at this
theorem Yl.conv {ti td : TI} {k1 k2 : IntKind} {p' : Int} (hs : G.ty t = some ti) (hs' : ti.ik = some k1) (hd : G.ty t2 = some td) (hd' : td.ik = some k2) (hx : ev E x = some (.int k p)) (hr : k2.wrap p = p') : Yl G n (.convert t t2 x) E C (.int k2 p') :=
  ⟨fun w _ a ha d ty pos aft gd => by
    have h1 := (G.tyOk t ti hs).intk k1 hs'
    have h2 := (G.tyOk t2 td hd).intk k2 hd'
    simp [execOp, ha.eval hx, convert, run_underlying h1, run_underlying h2, Conv.intToInt, hr]⟩
theorem Yl.convI {ti td : TI} {k1 : IntKind} (hs : G.ty t = some ti) (hs' : ti.ik = some k1) (hd : G.ty t2 = some td) (hd' : td.ik = some .i64) (hx : ev E x = some (.int k p)) (h : -9223372036854775808 ≤ p ∧ p ≤ 9223372036854775807) : Yl G n (.convert t t2 x) E C (.int .i64 p) := Yl.conv hs hs' hd hd' hx (IntWalk.i64_in _ h)
theorem Yl.convU {ti td : TI} {k1 : IntKind} (hs : G.ty t = some ti) (hs' : ti.ik = some k1) (hd : G.ty t2 = some td) (hd' : td.ik = some .u64) (hx : ev E x = some (.int k p)) (h : 0 ≤ p ∧ p ≤ 18446744073709551615) : Yl G n (.convert t t2 x) E C (.int .u64 p) := Yl.conv hs hs' hd hd' hx (IntWalk.u64_in _ h)
theorem Yl.shr1 {yk : IntKind} (hx : ev E x = some (.int k p)) (hy : ev E y = some (.int yk 1)) : Yl G n (.binOp .shr t x y t2) E C (.int k (p / 2)) :=
  ⟨fun w _ a ha d ty pos aft gd => by
    have hb : min 1 k.bits = 1 := by cases k <;> rfl
    have hf : p.fdiv 2 = p / 2 := Int.fdiv_eq_ediv_of_nonneg p (by omega)
    simp [execOp, ha.eval hx, ha.eval hy, eqGuard, binOp, Op.shift, hb, hf]⟩
/-- a slice held against nil -/
theorem Yl.eqNil {ti : TI} {e : Nat} {po : Option Addr} {l c : Nat} (ht : G.ty t = some ti) (he : ti.elem = some e) (hx : ev E x = some (.slice po l c)) (hy : ev E y = some (.slice none 0 0)) : Yl G n (.binOp .eql t x y t2) E C (.bool po.isNone) :=
  ⟨fun w _ a ha d ty pos aft gd => by
    have h1 := (G.tyOk t ti ht).elem e he
    have h2 : ∀ m, (Op.equalIn (m + 1) t (.slice po l c) (.slice none 0 0)).run G.P w = .ok po.isNone w := by
      intro m; cases po <;> simp [Op.equalIn, run_underlying h1]
    have h3 : (Op.equal t (.slice po l c) (.slice none 0 0)).run G.P w = .ok po.isNone w := h2 9999
    simp [execOp, ha.eval hx, ha.eval hy, eqGuard, binOp, h3]⟩
theorem Yl.load {ti : TI} {ad : Addr} (ht : G.ty t = some ti) (ha : ti.agg = false) (hx : ev E x = some (.pointer (some ad))) (hc : ∀ w, C w → w.cell? ad = some v) : Yl G n (.load t x) E C v :=
  ⟨fun w hw a ha' d ty pos aft gd => by
    have := (G.tyOk t ti ht).agg w
    rw [ha] at this
    simp [execOp, ha'.eval hx, Instr.loadAt, Instr.sureAddr, loadVar, this, hc w hw]⟩

theorem run_loadCells {P : Program} {w : World} {bk : Nat} : ∀ (cs : List Value) (i o : Nat) (acc : Array Value), (∀ j, j < cs.length → w.cell? ⟨bk, o + i + j, none⟩ = cs[j]?) → (loadCellsFrom ⟨bk, o, none⟩ i cs.length acc).run P w = .ok (acc ++ cs.toArray) w
  | [], i, o, acc, _ => by simp [loadCellsFrom]
  | c :: r, i, o, acc, h => by
    have h0 := h 0 (by simp)
    have e : (⟨bk, o, none⟩ : Addr).add i = ⟨bk, o + i, none⟩ := by
      unfold Addr.add; split
      · rename_i h; rw [h]; rfl
      · rfl
    have ih := run_loadCells (P := P) (w := w) (bk := bk) r (i + 1) o (acc.push c) (fun j hj => by
      have := h (j + 1) (by simp; omega)
      have e2 : o + (i + 1) + j = o + i + (j + 1) := by omega
      rw [e2, this]; simp)
    simp only [List.length_cons, loadCellsFrom, e]
    simp only [Nat.add_zero, List.getElem?_cons_zero] at h0
    simp [h0, ih]
/-- a load of a struct -/
theorem Yl.loadA {ti : TI} {bk of_ s : Nat} {cs : List Value} (ht : G.ty t = some ti) (ha : ti.agg = true) (hs : ti.size = s) (hx : ev E x = some (.pointer (some ⟨bk, of_, none⟩))) (hl : cs.length = s) (hc : ∀ w, C w → ∀ j, j < s → w.cell? ⟨bk, of_ + j, none⟩ = cs[j]?) : Yl G n (.load t x) E C (.agg cs.toArray) :=
  ⟨fun w hw a ha' d ty pos aft gd => by
    have h1 := (G.tyOk t ti ht).agg w
    have h2 := (G.tyOk t ti ht).size w
    rw [ha] at h1
    subst hl
    have h3 := run_loadCells (P := G.P) (w := w) (bk := bk) cs 0 of_ #[] (fun j hj => by simpa using hc w hw j hj)
    simp [execOp, ha'.eval hx, Instr.loadAt, Instr.sureAddr, loadVar, h1, h2, hs, loadCells, h3]⟩
end

/-! which kind of operation stands next -/
section
variable {G : Prg} {ops : Array Oper} {M : Mode} {n : Nat} {E : Env} {rest l : List Oper} {op : Op} {ty : TypeId} {pos : String} {aft : Array Edge} {d : Option Nat} {gd : Option (Nat × Bool)} {x y : Operand} {t t2 : TypeId} {w : World} {Q : Exit → Act → World → Prop}
theorem Ops.is (h : Ops G ops M n l E) : Ops G ops M n l E := h
theorem Cd.is {c : Code} (h : Cd G Q n c E w) : Cd G Q n c E w := h
theorem Fin.is {e : Exit} (h : Fin Q n e E w) : Fin Q n e E w := h
theorem Ops.isG {jb : Nat × Bool} (h : Ops G ops M n (⟨d, op, ty, pos, aft, some jb⟩ :: rest) E) : Ops G ops M n (⟨d, op, ty, pos, aft, some jb⟩ :: rest) E := h
theorem Ops.isBin {bo : BinOp} (h : Ops G ops M n (⟨d, .binOp bo t x y t2, ty, pos, aft, gd⟩ :: rest) E) : Ops G ops M n (⟨d, .binOp bo t x y t2, ty, pos, aft, gd⟩ :: rest) E := h
theorem Ops.isIdx (h : Ops G ops M n (⟨d, .indexAddr t x y, ty, pos, aft, gd⟩ :: rest) E) : Ops G ops M n (⟨d, .indexAddr t x y, ty, pos, aft, gd⟩ :: rest) E := h
theorem Ops.isField {f : Nat} (h : Ops G ops M n (⟨d, .fieldAddr t x f, ty, pos, aft, gd⟩ :: rest) E) : Ops G ops M n (⟨d, .fieldAddr t x f, ty, pos, aft, gd⟩ :: rest) E := h
theorem Ops.isLoad (h : Ops G ops M n (⟨d, .load t x, ty, pos, aft, gd⟩ :: rest) E) : Ops G ops M n (⟨d, .load t x, ty, pos, aft, gd⟩ :: rest) E := h
end

end Go.Proofs.YtgbgnipidakdhaaGreatDoor
