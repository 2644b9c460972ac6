/- The reference's table of opcodes: ref05.rows, find, Known, Name, Of, All, within, Width. Printed by gen_b1.py. -/
import Derived.Test.YtgbgnipidakdhaaGreatDoorJH7
import Derived.Test.YtgbgnipidakdhaaGreatDoorJHq
namespace Go.Proofs.YtgbgnipidakdhaaGreatDoor
open Go.RowKit
set_option maxRecDepth 100000

abbrev Row5 := Int × List UInt8 × Int
def control5 : List Row5 := [(0, [117, 110, 114, 101, 97, 99, 104, 97, 98, 108, 101], 0), (1, [110, 111, 112], 0), (2, [98, 108, 111, 99, 107], 1), (3, [108, 111, 111, 112], 1), (4, [105, 102], 1), (5, [101, 108, 115, 101], 0), (11, [101, 110, 100], 0), (12, [98, 114], 2), (13, [98, 114, 95, 105, 102], 2), (14, [98, 114, 95, 116, 97, 98, 108, 101], 3), (15, [114, 101, 116, 117, 114, 110], 0), (16, [99, 97, 108, 108], 4), (17, [99, 97, 108, 108, 95, 105, 110, 100, 105, 114, 101, 99, 116], 5), (26, [100, 114, 111, 112], 0), (27, [115, 101, 108, 101, 99, 116], 0), (28, [115, 101, 108, 101, 99, 116], 6), (32, [108, 111, 99, 97, 108, 46, 103, 101, 116], 7), (33, [108, 111, 99, 97, 108, 46, 115, 101, 116], 7), (34, [108, 111, 99, 97, 108, 46, 116, 101, 101], 7), (35, [103, 108, 111, 98, 97, 108, 46, 103, 101, 116], 8), (36, [103, 108, 111, 98, 97, 108, 46, 115, 101, 116], 8), (37, [116, 97, 98, 108, 101, 46, 103, 101, 116], 9), (38, [116, 97, 98, 108, 101, 46, 115, 101, 116], 9)]
def access5 : List Row5 := [(40, [105, 51, 50, 46, 108, 111, 97, 100], 17), (41, [105, 54, 52, 46, 108, 111, 97, 100], 17), (44, [105, 51, 50, 46, 108, 111, 97, 100, 56, 95, 115], 17), (45, [105, 51, 50, 46, 108, 111, 97, 100, 56, 95, 117], 17), (46, [105, 51, 50, 46, 108, 111, 97, 100, 49, 54, 95, 115], 17), (47, [105, 51, 50, 46, 108, 111, 97, 100, 49, 54, 95, 117], 17), (48, [105, 54, 52, 46, 108, 111, 97, 100, 56, 95, 115], 17), (49, [105, 54, 52, 46, 108, 111, 97, 100, 56, 95, 117], 17), (50, [105, 54, 52, 46, 108, 111, 97, 100, 49, 54, 95, 115], 17), (51, [105, 54, 52, 46, 108, 111, 97, 100, 49, 54, 95, 117], 17), (52, [105, 54, 52, 46, 108, 111, 97, 100, 51, 50, 95, 115], 17), (53, [105, 54, 52, 46, 108, 111, 97, 100, 51, 50, 95, 117], 17), (54, [105, 51, 50, 46, 115, 116, 111, 114, 101], 17), (55, [105, 54, 52, 46, 115, 116, 111, 114, 101], 17), (58, [105, 51, 50, 46, 115, 116, 111, 114, 101, 56], 17), (59, [105, 51, 50, 46, 115, 116, 111, 114, 101, 49, 54], 17), (60, [105, 54, 52, 46, 115, 116, 111, 114, 101, 56], 17), (61, [105, 54, 52, 46, 115, 116, 111, 114, 101, 49, 54], 17), (62, [105, 54, 52, 46, 115, 116, 111, 114, 101, 51, 50], 17), (63, [109, 101, 109, 111, 114, 121, 46, 115, 105, 122, 101], 13), (64, [109, 101, 109, 111, 114, 121, 46, 103, 114, 111, 119], 13), (65, [105, 51, 50, 46, 99, 111, 110, 115, 116], 18), (66, [105, 54, 52, 46, 99, 111, 110, 115, 116], 19)]
def end5 : List Row5 := [(208, [114, 101, 102, 46, 110, 117, 108, 108], 20), (209, [114, 101, 102, 46, 105, 115, 95, 110, 117, 108, 108], 0), (210, [114, 101, 102, 46, 102, 117, 110, 99], 4), (64520, [109, 101, 109, 111, 114, 121, 46, 105, 110, 105, 116], 15), (64521, [100, 97, 116, 97, 46, 100, 114, 111, 112], 16), (64522, [109, 101, 109, 111, 114, 121, 46, 99, 111, 112, 121], 14), (64523, [109, 101, 109, 111, 114, 121, 46, 102, 105, 108, 108], 13), (64524, [116, 97, 98, 108, 101, 46, 105, 110, 105, 116], 11), (64525, [101, 108, 101, 109, 46, 100, 114, 111, 112], 12), (64526, [116, 97, 98, 108, 101, 46, 99, 111, 112, 121], 10), (64527, [116, 97, 98, 108, 101, 46, 103, 114, 111, 119], 9), (64528, [116, 97, 98, 108, 101, 46, 115, 105, 122, 101], 9), (64529, [116, 97, 98, 108, 101, 46, 102, 105, 108, 108], 9)]
def mid5 : List Row5 := [(167, [105, 51, 50, 46, 119, 114, 97, 112, 95, 105, 54, 52], 0), (172, [105, 54, 52, 46, 101, 120, 116, 101, 110, 100, 95, 105, 51, 50, 95, 115], 0), (173, [105, 54, 52, 46, 101, 120, 116, 101, 110, 100, 95, 105, 51, 50, 95, 117], 0)]
def compares5 : List (List UInt8) := [[101, 113, 122], [101, 113], [110, 101], [108, 116, 95, 115], [108, 116, 95, 117], [103, 116, 95, 115], [103, 116, 95, 117], [108, 101, 95, 115], [108, 101, 95, 117], [103, 101, 95, 115], [103, 101, 95, 117]]
def twos5 : List (List UInt8) := [[99, 108, 122], [99, 116, 122], [112, 111, 112, 99, 110, 116], [97, 100, 100], [115, 117, 98], [109, 117, 108], [100, 105, 118, 95, 115], [100, 105, 118, 95, 117], [114, 101, 109, 95, 115], [114, 101, 109, 95, 117], [97, 110, 100], [111, 114], [120, 111, 114], [115, 104, 108], [115, 104, 114, 95, 115], [115, 104, 114, 95, 117], [114, 111, 116, 108], [114, 111, 116, 114]]
def nums5 (f : Int) (t : List UInt8) (l : List (List UInt8)) : List Row5 := l.zipIdx.map fun p => (f + p.2, t ++ [46] ++ p.1, 0)
def ext2 : List (List UInt8) := [[101, 120, 116, 101, 110, 100, 56, 95, 115], [101, 120, 116, 101, 110, 100, 49, 54, 95, 115]]
def ext3 : List (List UInt8) := [[101, 120, 116, 101, 110, 100, 56, 95, 115], [101, 120, 116, 101, 110, 100, 49, 54, 95, 115], [101, 120, 116, 101, 110, 100, 51, 50, 95, 115]]
def r05 : List Row5 := ((((((((control5 ++ access5) ++ nums5 69 [105, 51, 50] compares5) ++ nums5 80 [105, 54, 52] compares5) ++ nums5 103 [105, 51, 50] twos5) ++ nums5 121 [105, 54, 52] twos5) ++ mid5) ++ nums5 192 [105, 51, 50] ext2) ++ nums5 194 [105, 54, 52] ext3) ++ end5

end Go.Proofs.YtgbgnipidakdhaaGreatDoor
/- The reference's table of opcodes: find, Known, Name, Of, within, Width, All; and that both tables are one. -/
namespace Go.Proofs.YtgbgnipidakdhaaGreatDoor
open Go.RowKit
set_option maxRecDepth 100000

def find5 (op : Int) : Option Row5 := r05.find? fun r => decide (r.1 = op)
def row5 (op : Int) : Row5 := (find5 op).getD (0, [], 0)
/-- s holds p at place i -/
def at5 (s p : List UInt8) (i : Nat) : Bool := (s.drop i).take p.length == p
def within5 (s p : List UInt8) : Bool := (List.range (s.length + 1)).any fun i => decide (i + p.length ≤ s.length) && at5 s p i
def has5 (s : List UInt8) (d e : List UInt8) : Bool := within5 s d || within5 s e
def width5 (op : Int) : Int :=
  if (row5 op).2.2 ≠ 17 then 0 else
  let s := (row5 op).2.1
  if has5 s [100, 56] [101, 56] = true then 1 else if has5 s [100, 49, 54] [101, 49, 54] = true then 2 else if has5 s [100, 51, 50] [101, 51, 50] = true then 4 else if ((s.drop 1).take 2 == [51, 50]) = true then 4 else 8
theorem tables : opX = r05.map fun r => (r.1, ⟨r.2.1.toArray⟩) := by decide +kernel
theorem findO_map (op : Int) : ∀ l : List Row5, findO op (l.map fun r => (r.1, ⟨r.2.1.toArray⟩)) = (l.find? fun r => decide (r.1 = op)).map fun r => ⟨r.2.1.toArray⟩
  | [] => rfl
  | a :: r => by
    rw [List.map_cons, findO, List.find?_cons]
    by_cases h : a.1 = op
    · simp [h]
    · simp [h, findO_map op r]
theorem findO_5 (op : Int) : findO op opX = (find5 op).map fun r => ⟨r.2.1.toArray⟩ := by rw [tables, findO_map]; rfl
theorem nameO_5 (op : Int) : by_ (nameO op) = (row5 op).2.1 := by
  unfold nameO row5; rw [findO_5]
  cases find5 op <;> rfl
theorem known_tab : (r05.all fun r => !(r.2.1 == [])) = true := by decide +kernel
theorem knownO_5 (op : Int) : knownO op = (find5 op).isSome := by
  unfold knownO; rw [nameO_5]; unfold row5
  cases h : find5 op with
  | none => rfl
  | some r =>
    have := List.all_eq_true.1 known_tab r (List.mem_of_find?_eq_some h)
    simpa using this
theorem width_tab : (r05.all fun r => width5 r.1 == widthO r.1) = true := by decide +kernel
theorem widthO_5 (op : Int) : widthO op = width5 op := by
  cases h : find5 op with
  | none =>
    have h1 := knownO_5 op
    rw [h] at h1
    have h2 : accessO op = false := by unfold accessO; rw [h1]; simp
    unfold widthO width5 row5
    rw [h2, h]; rfl
  | some r =>
    have := List.all_eq_true.1 width_tab r (List.mem_of_find?_eq_some h)
    have e : r.1 = op := by have := List.find?_some h; simpa using this
    rw [e] at this
    exact (beq_iff_eq.1 this).symm
end Go.Proofs.YtgbgnipidakdhaaGreatDoor
/- Counters: census.plus, Add; ref57.Add. -/
namespace Go.Proofs.YtgbgnipidakdhaaGreatDoor
open Go.RowKit
set_option maxRecDepth 100000

/-- the counters of a module -/
structure Cen where
  funcs : Int
  instrs : Int
  blocks : Int
  loops : Int
  calls : Int
  loads : Int
  stores : Int
  consts : Int
  deriving Inhabited, DecidableEq
end Go.Proofs.YtgbgnipidakdhaaGreatDoor
/- census.one: the counters of one instruction. -/
namespace Go.Proofs.YtgbgnipidakdhaaGreatDoor
open Go.RowKit
set_option maxRecDepth 100000

def b01 (b : Bool) : Int := if b then 1 else 0
theorem Blk.all {w : World} {b : Nat} {cs : List Value} {T : TypeId} (h : Blk w b cs T) {n : Nat} (hn : cs.length = n) : ∀ w', w' = w → ∀ j, j < n → w'.cell? ⟨b, 0 + j, none⟩ = cs[j]? := by
  rintro _ rfl j hj
  rw [Nat.zero_add, List.getElem?_eq_getElem (by omega)]
  exact h.cell (List.getElem?_eq_getElem (by omega))

end Go.Proofs.YtgbgnipidakdhaaGreatDoor
/- Modules read; ref08.Imported; law07.rows, Light and law57.light, as far as the laws need them. -/
namespace Go.Proofs.YtgbgnipidakdhaaGreatDoor
open Go.RowKit
set_option maxRecDepth 100000

theorem SlR.el {α : Type} [Inhabited α] {s N : Nat} {R : ElR α} {F : Nat → Prop} {w : World} {p : Option Addr} {n cap : Nat} {xs : List α} (h : SlR s N R F w (.slice p n cap) xs) {i : Nat} (hi : i < xs.length) : ∃ b off, p = some ⟨b, off, none⟩ ∧ F b ∧ R F w b (off + i * s) (ix xs i) := by
  obtain ⟨b, off, e, hF, hall⟩ := h.at hi
  exact ⟨b, off, e, hF, hall i hi⟩
/-- how many of the first n imports are of kind k -/
def impC (l : List ApiImport) (k : Int) (n : Nat) : Nat := ((l.take n).filter fun x => decide (x.kind = k)).length
theorem impC_succ {l : List ApiImport} {k : Int} {n : Nat} (h : n < l.length) : impC l k (n + 1) = impC l k n + if (ix l n).kind = k then 1 else 0 := by
  unfold impC
  rw [take_succ_ix h, List.filter_append, List.length_append]
  by_cases e : (ix l n).kind = k <;> simp [e]
theorem impC_le (l : List ApiImport) (k : Int) (n : Nat) : impC l k n ≤ n := by
  unfold impC
  exact Nat.le_trans (List.length_filter_le _ _) (by rw [List.length_take]; omega)
abbrev TMod : Nat := 33

end Go.Proofs.YtgbgnipidakdhaaGreatDoor
/- law07.rows, Light and law57.light: what their being true tells. Printed by gen_m4.py. -/
namespace Go.Proofs.YtgbgnipidakdhaaGreatDoor
open Go.RowKit
set_option maxRecDepth 100000

/-- values of slices, and the bodies that they read -/
structure BL (w : World) (ls : List Value) (bs : List (List Ins)) : Prop where
  len : ls.length = bs.length
  rd : ∀ i, i < bs.length → Body w (ix ls i) (ix bs i)
theorem ix_app_l {α : Type} [Inhabited α] {a b : List α} {i : Nat} (h : i < a.length) : ix (a ++ b) i = ix a i := by simp [ix, List.getElem?_append_left h]
theorem ix_app_r {α : Type} [Inhabited α] {a b : List α} {i : Nat} (h : a.length ≤ i) : ix (a ++ b) i = ix b (i - a.length) := by simp [ix, List.getElem?_append_right h]
theorem BL.nil (w : World) : BL w [] [] := ⟨rfl, fun i h => by simp at h⟩
theorem BL.app {w : World} {ls ls' : List Value} {bs bs' : List (List Ins)} (h : BL w ls bs) (h' : BL w ls' bs') : BL w (ls ++ ls') (bs ++ bs') := by
  refine ⟨by simp [h.len, h'.len], fun i hi => ?_⟩
  by_cases hlt : i < bs.length
  · rw [ix_app_l (a := bs) hlt, ix_app_l (a := ls) (by rw [h.len]; exact hlt)]; exact h.rd i hlt
  · rw [ix_app_r (a := bs) (by omega), ix_app_r (a := ls) (by rw [h.len]; omega), h.len]
    exact h'.rd _ (by simp at hi; omega)
theorem BL.one {w : World} {v : Value} {x : List Ins} (h : Body w v x) : BL w [v] [x] := ⟨rfl, fun i hi => by
  obtain rfl : i = 0 := by simpa using hi
  exact h⟩
/-- a bool, and what its being true tells -/
def BoolTells (P : Prop) (w : World) (e : Ending) (w' : World) : Prop := (∃ b : Bool, e = .returned (.bool b) ∧ (b = true → P)) ∧ Ext w w'
def LensP (m : ApiModule) : Prop := m.types.length ≤ 100 ∧ m.imports.length ≤ 100 ∧ m.funcs.length ≤ 100 ∧ m.tables.length ≤ 100 ∧ m.mems.length ≤ 100 ∧ m.globals.length ≤ 100 ∧ m.exports.length ≤ 100 ∧ m.elems.length ≤ 100 ∧ m.datas.length ≤ 100
section
variable {n : Nat} {E : Env} {M : List Res} {R : List (World → Prop)}
theorem HE.callB {f : Nat} {args : List Operand} {tys : Array TypeId} {vs : List Value} {P : Prop} (hf : G.fb[f]? = some true) (ha : evs E args = some vs) (hc : ∀ w, Ok M R w → Calls G.P f vs.toArray w (BoolTells P w)) :
    HE n (.call ⟨.value (.func f), args.toArray, tys⟩) E M R (fun b : Bool => b = true → P) (fun b => .bool b) (fun _ => M) (fun _ => R) :=
  HE.call (fun b : Bool => .bool b) hf ha fun w hw => (hc w hw).mono fun _e _w' ⟨⟨b, e1, h1⟩, hx⟩ => ⟨b, e1, h1, hw.ext hx⟩
end
end Go.Proofs.YtgbgnipidakdhaaGreatDoor
