/- Plain words: lists read at a place; slices of numbers and of instructions read in a world; rows of the call's own. -/
import Derived.Test.YtgbgnipidakdhaaGreatDoorJG
import Derived.Test.YtgbgnipidakdhaaGreatDoorJBt
namespace Go.Proofs.YtgbgnipidakdhaaGreatDoor
open Go.RowKit
def ix {α : Type} [Inhabited α] (xs : List α) (i : Nat) : α := xs.getD i default
theorem ix_eq {α : Type} [Inhabited α] {xs : List α} {i : Nat} (h : i < xs.length) : ix xs i = xs[i] := by
  simp [ix, h]
theorem ix_some {α : Type} [Inhabited α] {xs : List α} {i : Nat} (h : i < xs.length) : xs[i]? = some (ix xs i) := by
  rw [ix_eq h, List.getElem?_eq_getElem h]
theorem take_succ_ix {α : Type} [Inhabited α] {xs : List α} {k : Nat} (h : k < xs.length) : xs.take (k + 1) = xs.take k ++ [ix xs k] := by
  rw [ix_eq h, List.take_succ_eq_append_getElem h]
def R64 (n : Int) : Prop := -9223372036854775808 ≤ n ∧ n ≤ 9223372036854775807
def IntsR (F : Nat → Prop) (w : World) (v : Value) (xs : List Int) : Prop :=
  ∃ p cap, v = .slice p xs.length cap ∧ xs.length ≤ 17592186044416 ∧
    (xs = [] ∨ ∃ b off, p = some ⟨b, off, none⟩ ∧ F b ∧ ∀ i, i < xs.length → w.cell? ⟨b, off + i, none⟩ = some (.int .i64 (ix xs i)))
theorem IntsR.chg {F S : Nat → Prop} {w w' : World} {v : Value} {xs : List Int} (h : IntsR F w v xs) (hc : Chg S w w') (hd : ∀ k, k < w.heap.size → F k → ¬ S k) : IntsR F w' v xs := by
  obtain ⟨p, cap, rfl, hl, h⟩ := h
  refine ⟨p, cap, rfl, hl, ?_⟩
  rcases h with h | ⟨b, off, hp, hF, h⟩
  · exact .inl h
  · exact .inr ⟨b, off, hp, hF, fun i hi => hc.cell (hd b (cell_lt (h i hi)) hF) (h i hi)⟩
theorem IntsR.mono {F H : Nat → Prop} {w : World} {v : Value} {xs : List Int} (h : IntsR F w v xs) (hFG : ∀ k, k < w.heap.size → F k → H k) : IntsR H w v xs := by
  obtain ⟨p, cap, rfl, hl, h⟩ := h
  refine ⟨p, cap, rfl, hl, ?_⟩
  rcases h with h | ⟨b, off, hp, hF, h⟩
  · exact .inl h
  · by_cases hx : xs = []
    · exact .inl hx
    · have h0 : 0 < xs.length := List.length_pos_iff.2 hx
      exact .inr ⟨b, off, hp, hFG b (cell_lt (h 0 h0)) hF, h⟩
theorem IntsR.slice {F : Nat → Prop} {w : World} {v : Value} {xs : List Int} (h : IntsR F w v xs) : ∃ p cap, v = .slice p xs.length cap ∧ xs.length ≤ 17592186044416 := by
  obtain ⟨p, cap, rfl, hl, _⟩ := h
  exact ⟨p, cap, rfl, hl⟩
theorem IntsR.at {F : Nat → Prop} {w : World} {p : Option Addr} {n cap : Nat} {xs : List Int} (h : IntsR F w (.slice p n cap) xs) {i : Nat} (hi : i < xs.length) :
    ∃ b off, p = some ⟨b, off, none⟩ ∧ F b ∧ ∀ i, i < xs.length → w.cell? ⟨b, off + i, none⟩ = some (.int .i64 (ix xs i)) := by
  obtain ⟨p', cap', e, hl, h⟩ := h
  cases e
  rcases h with h | ⟨b, off, hp, hF, h⟩
  · subst h; cases hi
  · exact ⟨b, off, hp, hF, h⟩
def OwnI (base : Nat) (w : World) (v : Value) (xs : List Int) : Prop := w.ownsRow base 3 1 v xs.length (xs.map (Value.int .i64))
theorem own_slice {w : World} {base : Nat} {e : TypeId} {size n : Nat} {v : Value} {xs : List Value} (h : w.ownsRow base e size v n xs) : ∃ p cap, v = .slice p n cap ∧ n ≤ cap ∧ cap ≤ maxLen ∧ (0 < n → ∃ g, p = some ⟨g, 0, none⟩ ∧ base ≤ g ∧ g < w.heap.size) := by
  obtain ⟨h1, h2⟩ := h
  rcases h2 with ⟨rfl, rfl⟩ | ⟨g, cap, cur, rfl, hg, hh, hn, hc, hs, ht⟩
  · exact ⟨none, 0, rfl, by omega, by unfold maxLen; omega, by omega⟩
  · refine ⟨_, cap, rfl, hn, hc, fun _ => ⟨g, rfl, hg, ?_⟩⟩
    by_cases hlt : g < w.heap.size
    · exact hlt
    · simp [Array.getElem?_eq_none (Nat.le_of_not_lt hlt)] at hh
theorem own_chg {S : Nat → Prop} {w w' : World} {base : Nat} {e : TypeId} {size n : Nat} {v : Value} {xs : List Value} (h : w.ownsRow base e size v n xs) (hc : Chg S w w') (hd : ∀ k, v.ownBlock = some k → ¬ S k) : w'.ownsRow base e size v n xs := by
  have hlt := h.lt
  obtain ⟨h1, h2⟩ := h
  refine ⟨h1, ?_⟩
  rcases h2 with h2 | ⟨g, cap, cur, rfl, hg, hh, r⟩
  · exact .inl h2
  · exact .inr ⟨g, cap, cur, rfl, hg, by rw [hc.block g (hlt g rfl).2 (hd g rfl)]; exact hh, r⟩
theorem own_base {w : World} {base base' : Nat} {e : TypeId} {size n : Nat} {v : Value} {xs : List Value} (h : w.ownsRow base e size v n xs) (hd : ∀ k, v.ownBlock = some k → base' ≤ k) : w.ownsRow base' e size v n xs := by
  obtain ⟨h1, h2⟩ := h
  refine ⟨h1, ?_⟩
  rcases h2 with h2 | ⟨g, cap, cur, rfl, hg, r⟩
  · exact .inl h2
  · exact .inr ⟨g, cap, cur, rfl, hd g rfl, r⟩
theorem OwnI.ext {base : Nat} {w w' : World} {v : Value} {xs : List Int} (h : OwnI base w v xs) (hc : Ext w w') : OwnI base w' v xs := own_chg h hc (fun _ _ h => h)
theorem OwnI.nil (base : Nat) (w : World) : OwnI base w (.slice none 0 0) [] := World.ownsRow_nil w base _ _
theorem own_new {w w' : World} {cs : List Value} {T base size n : Nat} (h : New w w' cs T) (hb : base ≤ w.heap.size) (hm : n ≤ maxLen) (hs : cs.length = n * size) : w'.ownsRow base T size (.slice (some ⟨w.heap.size, 0, none⟩) n n) n cs :=
  ⟨hs, .inr ⟨w.heap.size, n, cs.toArray, rfl, hb, h.blk, Nat.le_refl _, hm, by simpa using hs, by simp [← hs]⟩⟩
theorem OwnI.ofNew {w w' : World} {cs : List Value} {base n : Nat} {xs : List Int} (h : New w w' cs 3) (hx : cs = xs.map (Value.int .i64)) (hb : base ≤ w.heap.size) (hm : xs.length ≤ maxLen) (hn : n = xs.length := by rfl) : OwnI base w' (.slice (some ⟨w.heap.size, 0, none⟩) n n) xs := by
  subst hn
  subst hx
  exact own_new h hb hm (by simp)
theorem OwnI.get {base : Nat} {w : World} {g n cap : Nat} {xs : List Int} (h : OwnI base w (.slice (some ⟨g, 0, none⟩) n cap) xs) {i : Nat} (hi : i < xs.length) : w.cell? ⟨g, 0 + i, none⟩ = some (.int .i64 (ix xs i)) := by
  have h1 : n = xs.length := by obtain ⟨p, c, e, _⟩ := own_slice h; cases e; rfl
  subst h1
  rw [Nat.zero_add, World.ownsRow.cellAt h i (by omega), List.getElem?_map, ix_some hi]; rfl
theorem OwnI.free {base : Nat} {w : World} {g n cap : Nat} {xs : List Int} (h : OwnI base w (.slice (some ⟨g, 0, none⟩) n cap) xs) (j : Nat) : w.frozen? ⟨g, j, none⟩ = false := by
  have h1 : n = xs.length := by obtain ⟨p, c, e, _⟩ := own_slice h; cases e; rfl
  subst h1
  exact World.ownsRow.frozenAt h j
theorem OwnI.set {base : Nat} {w : World} {g n cap : Nat} {xs : List Int} (h : OwnI base w (.slice (some ⟨g, 0, none⟩) n cap) xs) (i : Nat) (a : Int) :
    OwnI base (w.setCell ⟨g, 0 + i, none⟩ (.int .i64 a)) (.slice (some ⟨g, 0, none⟩) n cap) (xs.set i a) ∧ Chg (fun k => k = g) w (w.setCell ⟨g, 0 + i, none⟩ (.int .i64 a)) := by
  have h1 : n = xs.length := by obtain ⟨p, c, e, _⟩ := own_slice h; cases e; rfl
  subst h1
  obtain ⟨h2, h3⟩ := World.ownsRow.stored h i (.int .i64 a)
  rw [Nat.zero_add]
  refine ⟨?_, (Chg.ofGrown h3).mono (fun k _ e => by cases e; rfl)⟩
  unfold OwnI
  rw [List.length_set, List.map_set]; exact h2
structure Ins where
  op : Int
  a : Int
  b : Int
  n : Int
  kind : Int
  val : Int
  index : Int
  types : List Int
  labels : List Int
  deriving Inhabited
structure InsR (F : Nat → Prop) (w : World) (bk o : Nat) (x : Ins) : Prop where
  op : w.cell? ⟨bk, o, none⟩ = some (.int .i64 x.op)
  a : w.cell? ⟨bk, o + 1, none⟩ = some (.int .i64 x.a)
  b : w.cell? ⟨bk, o + 2, none⟩ = some (.int .i64 x.b)
  n : w.cell? ⟨bk, o + 3, none⟩ = some (.int .u64 x.n)
  kind : w.cell? ⟨bk, o + 4, none⟩ = some (.int .i64 x.kind)
  val : w.cell? ⟨bk, o + 5, none⟩ = some (.int .i64 x.val)
  index : w.cell? ⟨bk, o + 6, none⟩ = some (.int .i64 x.index)
  types : ∃ tv, w.cell? ⟨bk, o + 7, none⟩ = some tv ∧ IntsR F w tv x.types
  labels : ∃ lv, w.cell? ⟨bk, o + 8, none⟩ = some lv ∧ IntsR F w lv x.labels
  rop : R64 x.op
  ra : R64 x.a
theorem InsR.chg {F S : Nat → Prop} {w w' : World} {b o : Nat} {x : Ins} (h : InsR F w b o x) (hc : Chg S w w') (hF : F b) (hd : ∀ k, k < w.heap.size → F k → ¬ S k) : InsR F w' b o x := by
  have hb : ¬ S b := hd b (cell_lt h.op) hF
  refine ⟨hc.cell hb h.op, hc.cell hb h.a, hc.cell hb h.b, hc.cell hb h.n, hc.cell hb h.kind, hc.cell hb h.val, hc.cell hb h.index, ?_, ?_, h.rop, h.ra⟩
  · obtain ⟨tv, h1, h2⟩ := h.types
    exact ⟨tv, hc.cell hb h1, h2.chg hc hd⟩
  · obtain ⟨tv, h1, h2⟩ := h.labels
    exact ⟨tv, hc.cell hb h1, h2.chg hc hd⟩
def BodyR (F : Nat → Prop) (w : World) (v : Value) (xs : List Ins) : Prop :=
  ∃ p cap, v = .slice p xs.length cap ∧ xs.length ≤ 1353247013952 ∧
    (xs = [] ∨ ∃ b off, p = some ⟨b, off, none⟩ ∧ F b ∧ ∀ i, i < xs.length → InsR F w b (off + i * 9) (ix xs i))
theorem BodyR.chg {F S : Nat → Prop} {w w' : World} {v : Value} {xs : List Ins} (h : BodyR F w v xs) (hc : Chg S w w') (hd : ∀ k, k < w.heap.size → F k → ¬ S k) : BodyR F w' v xs := by
  obtain ⟨p, cap, rfl, hl, h⟩ := h
  refine ⟨p, cap, rfl, hl, ?_⟩
  rcases h with h | ⟨b, off, hp, hF, h⟩
  · exact .inl h
  · exact .inr ⟨b, off, hp, hF, fun i hi => (h i hi).chg hc hF hd⟩
abbrev Body (w : World) (v : Value) (xs : List Ins) : Prop := BodyR (fun _ => True) w v xs
theorem BodyR.ext {F : Nat → Prop} {w w' : World} {v : Value} {xs : List Ins} (h : BodyR F w v xs) (hc : Ext w w') : BodyR F w' v xs := h.chg hc (fun _ _ _ h => h)
theorem BodyR.slice {F : Nat → Prop} {w : World} {v : Value} {xs : List Ins} (h : BodyR F w v xs) : ∃ p cap, v = .slice p xs.length cap ∧ xs.length ≤ 1353247013952 := by
  obtain ⟨p, cap, rfl, hl, _⟩ := h
  exact ⟨p, cap, rfl, hl⟩
theorem BodyR.at {F : Nat → Prop} {w : World} {p : Option Addr} {n cap : Nat} {xs : List Ins} (h : BodyR F w (.slice p n cap) xs) {i : Nat} (hi : i < xs.length) :
    ∃ b off, p = some ⟨b, off, none⟩ ∧ F b ∧ ∀ i, i < xs.length → InsR F w b (off + i * 9) (ix xs i) := by
  obtain ⟨p', cap', e, hl, h⟩ := h
  cases e
  rcases h with h | ⟨b, off, hp, hF, h⟩
  · subst h; cases hi
  · exact ⟨b, off, hp, hF, h⟩
section
variable {n : Nat} {E : Env} {C : World → Prop} {x y z : Operand} {t t2 : TypeId} {v : Value} {w : World} {ops : Array Oper} {M : Mode} {rest : List Oper} {d : Nat} {ty : TypeId} {pos : String} {aft : Array Edge}
def layL : List Value → Nat → List Value → List Value
  | cs, _, [] => cs
  | cs, o, c :: r => layL (cs.set o c) (o + 1) r
def fillL (pl : List (Nat × Nat)) : List Value → List (Nat × Value) → Option (List Value)
  | cs, [] => some cs
  | cs, (i, v) :: r =>
    match pl[i]? with
    | none => none
    | some (off, size) => bif (Nat.beq v.cells.toList.length size && Nat.ble (off + v.cells.toList.length) cs.length) then fillL pl (layL cs off v.cells.toList) r else none
theorem layL_eq : ∀ (l : List Value) (cs : List Value) (o k : Nat), (layL cs (o + k) l).toArray = (l.zipIdx k).foldl (fun a p => a.setIfInBounds (o + p.2) p.1) cs.toArray
  | [], cs, o, k => rfl
  | c :: r, cs, o, k => by
    rw [layL, List.zipIdx_cons, List.foldl_cons, Nat.add_assoc, layL_eq r _ o (k + 1)]
    simp
theorem fill_of {pl : List (Nat × Nat)} : ∀ {parts : List (Nat × Value)} {cs c : List Value}, fillL pl cs parts = some c → Instr.fill (pl.toArray[·]?) cs.toArray parts = some c.toArray
  | [], cs, c, h => by simp only [fillL, Option.some.injEq] at h; subst h; rfl
  | (i, v) :: r, cs, c, h => by
    simp only [fillL] at h
    unfold Instr.fill
    have e0 : pl.toArray[i]? = pl[i]? := by simp
    rw [e0]
    cases hp : pl[i]? with
    | none => simp [hp] at h
    | some p =>
      obtain ⟨off, size⟩ := p
      rw [hp] at h
      dsimp only at h ⊢
      cases hb : (Nat.beq v.cells.toList.length size && Nat.ble (off + v.cells.toList.length) cs.length) with
      | false => rw [hb] at h; cases h
      | true =>
        rw [hb] at h
        simp only [Bool.and_eq_true] at hb
        have h1 := Nat.eq_of_beq_eq_true hb.1
        have h2 := Nat.le_of_ble_eq_true hb.2
        have e1 : v.cells.size = size := by simpa using h1
        have e2 : ¬ off + v.cells.size > cs.toArray.size := by simpa using h2
        rw [if_neg (by simp [e1]; rw [e1] at e2; simpa using e2)]
        have h3 := fill_of h
        rw [← h3]
        congr 1
        have := layL_eq v.cells.toList cs off 0
        rw [Nat.add_zero] at this
        rw [this, ← Array.foldl_toList, Array.toList_zipIdx]
theorem Yl.buildP {s bt : Nat} {el : Option Nat} {os : List Nat} {zs : List Value} {ik : Option IntKind} {parts : List (Nat × Operand)} {vs : List Value} (ht : G.ty t = some ⟨s, bt, true, el, os, .agg zs.toArray, ik⟩) (ho : os.isEmpty = false) (hv : evs E (parts.map (·.2)) = some vs) (hf : (fillL (plsOf os s) zs ((parts.map (·.1)).zip vs)).isSome = true) :
    Yl G n (.build t parts.toArray) E C (.agg ((fillL (plsOf os s) zs ((parts.map (·.1)).zip vs)).getD []).toArray) := by
  refine Yl.build hv (fun w => ?_)
  rw [bld_ok t _ ht rfl (by simpa using ho)]
  refine bldS_ok ?_ _ _
  obtain ⟨c, hc⟩ := Option.isSome_iff_exists.1 hf
  rw [hc]
  have := fill_of hc
  simpa [Value.cells] using this
theorem Yl.strBin {bo : BinOp} {a b : ByteArray} (hx : ev E x = some (.string a)) (hy : ev E y = some (.string b)) (hr : ∀ w, (Op.stringOp bo a b).run G.P w = .ok v w) : Yl G n (.binOp bo t x y t2) E C v :=
  ⟨fun w _ ac ha d ty pos aft gd => by
    have hg : ∀ p q : Operand, (eqGuard bo t p q (.string a) (.string b)).run G.P w = .ok () w := by
      intro p q; unfold eqGuard; split <;> simp
    simp [execOp, ha.eval hx, ha.eval hy, hg, binOp, hr]⟩
theorem Yl.eqS {a b : ByteArray} (hx : ev E x = some (.string a)) (hy : ev E y = some (.string b)) : Yl G n (.binOp .eql t x y t2) E C (.bool (a.data.toList == b.data.toList)) := Yl.strBin hx hy (fun w => by simp [Op.stringOp, ByteArray.toList_eq])
theorem Yl.neqS {a b : ByteArray} (hx : ev E x = some (.string a)) (hy : ev E y = some (.string b)) : Yl G n (.binOp .neq t x y t2) E C (.bool (!(a.data.toList == b.data.toList))) := Yl.strBin hx hy (fun w => by simp [Op.stringOp, ByteArray.toList_eq])
theorem Yl.addS {a b : ByteArray} (hx : ev E x = some (.string a)) (hy : ev E y = some (.string b)) (h : a.size + b.size ≤ 9223372036854775807) : Yl G n (.binOp .add t x y t2) E C (.string (a ++ b)) := Yl.strBin hx hy (fun w => run_string_add_sum w a b h)
theorem Yl.lenS {a : ByteArray} (ht : G.P.underlying t = some .string) (hx : ev E x = some (.string a)) : Yl G n (.call ⟨.builtin .len, #[x], #[t]⟩) E C (.int .i64 a.size) :=
  ⟨fun w _ ac ha d ty pos aft gd => by simp [execOp, resolve, invoke, builtin, Builtin.len_, ha.eval hx, run_underlying ht, goInt]⟩
theorem Yl.sliceSHi {k : IntKind} {p : Int} {a : ByteArray} {i : Nat} (ht : G.P.underlying t = some .string) (hx : ev E x = some (.string a)) (hi : ev E y = some (.int k p)) (hp : p = (i : Int)) (hc : i ≤ a.size) : Yl G n (.slice t x none (some y) none) E C (.string (a.extract 0 i)) :=
  ⟨fun w _ ac ha d ty pos aft gd => by subst hp; simp [execOp, ha.eval hx, ha.eval hi, Instr.sliceAt, Instr.slice, Instr.sliceBounds, Instr.sliceBound, asIntOf, run_underlying ht, hc]⟩
theorem Yl.sliceSLo {k : IntKind} {p : Int} {a : ByteArray} {i : Nat} (ht : G.P.underlying t = some .string) (hx : ev E x = some (.string a)) (hi : ev E y = some (.int k p)) (hp : p = (i : Int)) (hc : i ≤ a.size) : Yl G n (.slice t x (some y) none none) E C (.string (a.extract i a.size)) :=
  ⟨fun w _ ac ha d ty pos aft gd => by subst hp; simp [execOp, ha.eval hx, ha.eval hi, Instr.sliceAt, Instr.slice, Instr.sliceBounds, Instr.sliceBound, asIntOf, run_underlying ht, hc]⟩
theorem Yl.sliceSLH {k k' : IntKind} {p q : Int} {a : ByteArray} {i j : Nat} (ht : G.P.underlying t = some .string) (hx : ev E x = some (.string a)) (hi : ev E y = some (.int k p)) (hj : ev E z = some (.int k' q)) (hp : p = (i : Int)) (hq : q = (j : Int)) (hc : i ≤ j) (hc2 : j ≤ a.size) : Yl G n (.slice t x (some y) (some z) none) E C (.string (a.extract i j)) :=
  ⟨fun w _ ac ha d ty pos aft gd => by subst hp; subst hq; simp [execOp, ha.eval hx, ha.eval hi, ha.eval hj, Instr.sliceAt, Instr.slice, Instr.sliceBounds, Instr.sliceBound, asIntOf, run_underlying ht, hc, hc2]⟩
theorem Yl.quo {p q r : Int} (hx : ev E x = some (.int .i64 p)) (hy : ev E y = some (.int .i64 q)) (hr : ∀ w, (binOp .quo t (.int .i64 p) (.int .i64 q)).run G.P w = .ok (.int .i64 r) w) : Yl G n (.binOp .quo t x y t2) E C (.int .i64 r) := Yl.bin hx hy hr
theorem Yl.addw {p q : Int} (hx : ev E x = some (.int .i64 p)) (hy : ev E y = some (.int .i64 q)) : Yl G n (.binOp .add t x y t2) E C (.int .i64 (IntKind.i64.wrap (p + q))) := Yl.bin hx hy (fun w => by simp only [binOp, Op.intArith, ne_eq, not_true_eq_false, if_false]; rfl)
end
theorem wgx {g g' : Prop} (h : g') (hw : Hold g' → g := by (intro hk_; (repeat (first | (first | refine Ops.y (Yl.move rfl) rfl ?_ | refine Ops.y (Yl.assign rfl) rfl ?_ | (refine Ops.is ?_; (first | (refine Ops.isG ?_; (first | refine Ops.gs rfl rfl rfl ?_ | refine Ops.gu rfl rfl ?_ | refine Ops.yg rfl (Yl.move rfl) rfl ?_ | refine Ops.yg rfl (Yl.assign rfl) rfl ?_ | (refine Ops.isBin ?_; (first | (refine Ops.isBin (bo := .lss) ?_; (first | refine Ops.yg rfl (Yl.lssT rfl rfl (by omega)) rfl ?_ | refine Ops.yg rfl (Yl.lssF rfl rfl (by omega)) rfl ?_)) | (refine Ops.isBin (bo := .eql) ?_; (first | refine Ops.yg rfl (Yl.eqlT rfl rfl (by omega)) rfl ?_ | refine Ops.yg rfl (Yl.eqlF rfl rfl (by omega)) rfl ?_)) | (refine Ops.isBin (bo := .neq) ?_; (first | refine Ops.yg rfl (Yl.neqT rfl rfl (by omega)) rfl ?_ | refine Ops.yg rfl (Yl.neqF rfl rfl (by omega)) rfl ?_)) | (refine Ops.isBin (bo := .leq) ?_; (first | refine Ops.yg rfl (Yl.leqT rfl rfl (by omega)) rfl ?_ | refine Ops.yg rfl (Yl.leqF rfl rfl (by omega)) rfl ?_)) | (refine Ops.isBin (bo := .gtr) ?_; (first | refine Ops.yg rfl (Yl.gtrT rfl rfl (by omega)) rfl ?_ | refine Ops.yg rfl (Yl.gtrF rfl rfl (by omega)) rfl ?_)) | (refine Ops.isBin (bo := .geq) ?_; (first | refine Ops.yg rfl (Yl.geqT rfl rfl (by omega)) rfl ?_ | refine Ops.yg rfl (Yl.geqF rfl rfl (by omega)) rfl ?_)) | refine Ops.yg rfl (Yl.add rfl rfl (by omega)) rfl ?_ | refine Ops.yg rfl (Yl.sub rfl rfl (by omega)) rfl ?_ | refine Ops.yg rfl (Yl.shr1 rfl rfl) rfl ?_ | refine Ops.yg rfl (Yl.eqNil rfl rfl rfl rfl) rfl ?_ | refine Ops.yg rfl (Yl.neqb Tryz.underlying4 rfl rfl) rfl ?_ | refine Ops.yg rfl (Yl.eqlb Tryz.underlying4 rfl rfl) rfl ?_)) | (refine Ops.isField ?_; (first | refine Ops.yg rfl (Yl.field0 rfl rfl rfl) rfl ?_ | refine Ops.yg rfl (Yl.field rfl rfl rfl) rfl ?_)) | (refine Ops.isLoad ?_; (first | refine Ops.yg rfl (Yl.load rfl rfl rfl (by intro _ hw_; cases hw_; with_reducible assumption)) rfl ?_ | refine Ops.yg rfl (Yl.load rfl rfl rfl (ncell wraq)) rfl ?_ | refine Ops.yg rfl (Yl.load rfl rfl rfl (dcell wraq)) rfl ?_ | refine Ops.yg rfl (Yl.load rfl rfl rfl (scell wraq)) rfl ?_ | refine Ops.yg rfl (Yl.load rfl rfl rfl (ecell wraq)) rfl ?_ | refine Ops.yg rfl (Yl.load rfl rfl rfl wraq) rfl ?_)) | (refine Ops.isIdx ?_; (first | refine Ops.yg rfl (Yl.idx1 rfl rfl rfl rfl rfl rfl (by omega)) rfl ?_ | refine Ops.yg rfl (Yl.idx rfl rfl rfl rfl rfl rfl (by omega)) rfl ?_)) | refine Ops.yg rfl (Yl.len rfl rfl rfl) rfl ?_ | refine Ops.yg rfl (Yl.extract rfl rfl) rfl ?_ | refine Ops.yg rfl (Yl.pickT rfl rfl) rfl ?_ | refine Ops.yg rfl (Yl.pickF rfl rfl) rfl ?_ | refine Ops.yg rfl (Yl.nilCheck rfl) rfl ?_ | refine Ops.yg rfl (Yl.not rfl) rfl ?_ | refine Ops.yg rfl (Yl.convI rfl rfl rfl rfl rfl (by omega)) rfl ?_ | refine Ops.yg rfl (Yl.convU rfl rfl rfl rfl rfl (by omega)) rfl ?_ | refine Ops.yg rfl (Yl.makeFunc rfl rfl) rfl ?_)) | refine Ops.nil ?_ | refine Ops.nilT ?_ | refine Ops.nilM ?_ | (refine Ops.isBin ?_; (first | (refine Ops.isBin (bo := .lss) ?_; (first | refine Ops.y (Yl.lssT rfl rfl (by omega)) rfl ?_ | refine Ops.y (Yl.lssF rfl rfl (by omega)) rfl ?_)) | (refine Ops.isBin (bo := .eql) ?_; (first | refine Ops.y (Yl.eqlT rfl rfl (by omega)) rfl ?_ | refine Ops.y (Yl.eqlF rfl rfl (by omega)) rfl ?_)) | (refine Ops.isBin (bo := .neq) ?_; (first | refine Ops.y (Yl.neqT rfl rfl (by omega)) rfl ?_ | refine Ops.y (Yl.neqF rfl rfl (by omega)) rfl ?_)) | (refine Ops.isBin (bo := .leq) ?_; (first | refine Ops.y (Yl.leqT rfl rfl (by omega)) rfl ?_ | refine Ops.y (Yl.leqF rfl rfl (by omega)) rfl ?_)) | (refine Ops.isBin (bo := .gtr) ?_; (first | refine Ops.y (Yl.gtrT rfl rfl (by omega)) rfl ?_ | refine Ops.y (Yl.gtrF rfl rfl (by omega)) rfl ?_)) | (refine Ops.isBin (bo := .geq) ?_; (first | refine Ops.y (Yl.geqT rfl rfl (by omega)) rfl ?_ | refine Ops.y (Yl.geqF rfl rfl (by omega)) rfl ?_)) | refine Ops.y (Yl.add rfl rfl (by omega)) rfl ?_ | refine Ops.y (Yl.sub rfl rfl (by omega)) rfl ?_ | refine Ops.y (Yl.shr1 rfl rfl) rfl ?_ | refine Ops.y (Yl.eqNil rfl rfl rfl rfl) rfl ?_ | refine Ops.y (Yl.neqb Tryz.underlying4 rfl rfl) rfl ?_ | refine Ops.y (Yl.eqlb Tryz.underlying4 rfl rfl) rfl ?_)) | (refine Ops.isField ?_; (first | refine Ops.y (Yl.field0 rfl rfl rfl) rfl ?_ | refine Ops.y (Yl.field rfl rfl rfl) rfl ?_)) | (refine Ops.isLoad ?_; (first | refine Ops.y (Yl.load rfl rfl rfl (by intro _ hw_; cases hw_; with_reducible assumption)) rfl ?_ | refine Ops.y (Yl.load rfl rfl rfl (ncell wraq)) rfl ?_ | refine Ops.y (Yl.load rfl rfl rfl (dcell wraq)) rfl ?_ | refine Ops.y (Yl.load rfl rfl rfl (scell wraq)) rfl ?_ | refine Ops.y (Yl.load rfl rfl rfl (ecell wraq)) rfl ?_ | refine Ops.y (Yl.load rfl rfl rfl wraq) rfl ?_)) | (refine Ops.isIdx ?_; (first | refine Ops.y (Yl.idx1 rfl rfl rfl rfl rfl rfl (by omega)) rfl ?_ | refine Ops.y (Yl.idx rfl rfl rfl rfl rfl rfl (by omega)) rfl ?_)) | refine Ops.y (Yl.len rfl rfl rfl) rfl ?_ | refine Ops.y (Yl.extract rfl rfl) rfl ?_ | refine Ops.y (Yl.pickT rfl rfl) rfl ?_ | refine Ops.y (Yl.pickF rfl rfl) rfl ?_ | refine Ops.y (Yl.nilCheck rfl) rfl ?_ | refine Ops.y (Yl.not rfl) rfl ?_ | refine Ops.y (Yl.convI rfl rfl rfl rfl rfl (by omega)) rfl ?_ | refine Ops.y (Yl.convU rfl rfl rfl rfl rfl (by omega)) rfl ?_ | refine Ops.y (Yl.makeFunc rfl rfl) rfl ?_)) | (refine Cd.is ?_; (first | refine Cd.seq ?_ | refine Cd.region ?_ | refine Cd.regionN (by kernel_rfl) ?_ | refine Cd.block ?_ | refine Cd.condT rfl ?_ | refine Cd.condF rfl ?_ | refine Cd.skip ?_ | refine Cd.scope ?_ | refine Cd.ret ?_ | refine Cd.exit ?_ | refine Cd.label ?_)) | (refine Fin.is ?_; (first | refine Fin.thenN ?_ | refine Fin.blkN ?_ | refine Fin.thenR ?_ | refine Fin.blkR ?_ | refine Fin.thenX ?_ | refine Fin.ngN ?_ | refine Fin.ngR ?_ | refine Fin.ngX ?_ | refine Fin.blkX ?_ | refine Fin.blkY rfl ?_))) | (refine Ops.is ?_; (first | (refine Ops.isG ?_; (first | (refine Ops.isBin ?_; (first | refine Ops.yg rfl (Yl.eqS rfl rfl) rfl ?_ | refine Ops.yg rfl (Yl.neqS rfl rfl) rfl ?_ | refine Ops.yg rfl (Yl.addS rfl rfl (by omega)) rfl ?_)) | refine Ops.yg rfl (Yl.buildP rfl rfl rfl rfl) rfl ?_ | refine Ops.yg rfl (Yl.sliceSHi Tryz.underlying9 rfl rfl rfl (by omega)) rfl ?_ | refine Ops.yg rfl (Yl.sliceSLo Tryz.underlying9 rfl rfl rfl (by omega)) rfl ?_ | refine Ops.yg rfl (Yl.sliceSLH Tryz.underlying9 rfl rfl rfl rfl rfl (by omega) (by omega)) rfl ?_ | refine Ops.yg rfl (Yl.sliceHi rfl rfl rfl rfl rfl rfl (by omega)) rfl ?_ | refine Ops.yg rfl (Yl.lenS Tryz.underlying9 rfl) rfl ?_)) | (refine Ops.isBin ?_; (first | refine Ops.y (Yl.eqS rfl rfl) rfl ?_ | refine Ops.y (Yl.neqS rfl rfl) rfl ?_ | refine Ops.y (Yl.addS rfl rfl (by omega)) rfl ?_)) | refine Ops.y (Yl.buildP rfl rfl rfl rfl) rfl ?_ | refine Ops.y (Yl.sliceSHi Tryz.underlying9 rfl rfl rfl (by omega)) rfl ?_ | refine Ops.y (Yl.sliceSLo Tryz.underlying9 rfl rfl rfl (by omega)) rfl ?_ | refine Ops.y (Yl.sliceSLH Tryz.underlying9 rfl rfl rfl rfl rfl (by omega) (by omega)) rfl ?_ | refine Ops.y (Yl.sliceHi rfl rfl rfl rfl rfl rfl (by omega)) rfl ?_ | refine Ops.y (Yl.lenS Tryz.underlying9 rfl) rfl ?_)))); exact hk_.out)) : g := hw ⟨h⟩
section
variable {fn : Func} {R : Ending → World → Prop} {n : Nat} {E : Env} {w : World} {a T t b Tb s : Nat} {ti : TI} {v : Value} {cs : List Value}
theorem run_cellA (hT : G.ty T = some ti) (hag : ti.agg = true) (hsz : ti.size = s) (hb : Blk w b cs Tb) (hl : cs.length = s) : (loadVar T ⟨b, 0, none⟩).run G.P w = .ok (.agg cs.toArray) w := by
  have h1 := (G.tyOk T ti hT).agg w
  have h2 := (G.tyOk T ti hT).size w
  rw [hag] at h1
  subst hl
  have h3 := run_loadCells (P := G.P) (w := w) (bk := b) cs 0 0 #[] (fun j hj => by
    have := hb.cell (j := j) (List.getElem?_eq_getElem hj)
    rw [List.getElem?_eq_getElem hj, ← this]; simp)
  simp [loadVar, h1, h2, hsz, loadCells, h3]
theorem Fin.ret1c {e : Exit} (he : e = .ret ∨ e = .normal) (hr : fn.results = #[.cell a T]) (ha : lk E a = some (.pointer (some ⟨b, 0, none⟩))) (hT : G.ty T = some ti) (hag : ti.agg = true) (hsz : ti.size = s) (hb : Blk w b cs Tb) (hl : cs.length = s) (hR : R (.returned (.agg cs.toArray)) w) : Fin (bodyPost G.P fn R) n e E w :=
  Fin.ofRun he (fun ac hac => by
    have h3 := run_cellA hT hag hsz hb hl
    have g1 : ac.tmps[a]?.getD undef = .pointer (some ⟨b, 0, none⟩) := by have := (hac.eq a _ ha).2; simpa using this
    simp [results, hr, g1, asAddr, h3]) hR
theorem Fin.ret2c {e : Exit} (he : e = .ret ∨ e = .normal) (hr : fn.results = #[.cell a T, .tmp t]) (ha : lk E a = some (.pointer (some ⟨b, 0, none⟩))) (hT : G.ty T = some ti) (hag : ti.agg = true) (hsz : ti.size = s) (hb : Blk w b cs Tb) (hl : cs.length = s) (hv : lk E t = some v) (hR : R (.returned (.tuple #[.agg cs.toArray, v])) w) : Fin (bodyPost G.P fn R) n e E w :=
  Fin.ofRun he (fun ac hac => by
    have h3 := run_cellA hT hag hsz hb hl
    have g1 : ac.tmps[a]?.getD undef = .pointer (some ⟨b, 0, none⟩) := by have := (hac.eq a _ ha).2; simpa using this
    have g2 : ac.tmps[t]?.getD undef = v := by have := (hac.eq t _ hv).2; simpa using this
    simp [results, hr, g1, g2, asAddr, h3]) hR
end
end Go.Proofs.YtgbgnipidakdhaaGreatDoor
