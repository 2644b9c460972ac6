/- The reference's table of opcodes: find, Known, Name, Of, within, Width, All; and that both tables are one. -/
import Derived.Test.YtmkgfccfnpmcjaaDoorJB2
namespace Go.Proofs.YtmkgfccfnpmcjaaDoor
open Go.RowKit
set_option maxRecDepth 100000

def find5 (op : Int) : Option Row5 := r05.find? fun r => decide (r.1 = op)
def row5 (op : Int) : Row5 := (find5 op).getD (0, [], 0)
theorem rwC_get : ∀ (xs : List Row5) (i j : Nat), i < xs.length → j < 3 → (xs.flatMap rwC)[i * 3 + j]? = (rwC (ix xs i))[j]?
  | [], i, _, h, _ => by simp at h
  | a :: r, 0, j, _, hj => by
    rw [List.flatMap_cons, List.getElem?_append_left (by simp [rwC]; omega)]
    simp [ix]
  | a :: r, i + 1, j, h, hj => by
    rw [List.flatMap_cons, List.getElem?_append_right (by simp [rwC]; omega)]
    have e : (i + 1) * 3 + j - (rwC a).length = i * 3 + j := by simp [rwC]; omega
    rw [e, rwC_get r i j (by simpa using h) hj]
    simp [ix]
/-- the table, frozen -/
def Tb5 (g : Nat) : World → Prop := fun w => ∀ i, i < r05.length → ∀ j, j < 3 → w.cell? ⟨g, 0 + i * 3 + j, none⟩ = (rwC (ix r05 i))[j]?
theorem r05_len : r05.length = 125 := by decide +kernel
theorem r05_ix (i : Nat) : rwC (ix r05 i) = [.int .i64 (ix r05 i).1, .string ⟨(ix r05 i).2.1.toArray⟩, .int .i64 (ix r05 i).2.2] := rfl
theorem find5_at {op : Int} {i : Nat} (hi : i < r05.length) (h : ∀ j, j < i → (ix r05 j).1 ≠ op) (e : (ix r05 i).1 = op) : find5 op = some (ix r05 i) := by
  unfold find5
  rw [List.find?_eq_some_iff_getElem]
  refine ⟨by simpa using e, i, hi, (ix_eq hi).symm, fun j hj => ?_⟩
  have := h j hj
  rw [ix_eq (by omega)] at this
  simpa using this
theorem find5_none {op : Int} (h : ∀ j, j < r05.length → (ix r05 j).1 ≠ op) : find5 op = none := by
  unfold find5
  rw [List.find?_eq_none]
  intro x hx
  obtain ⟨j, hj, e⟩ := List.getElem_of_mem hx
  have := h j hj
  rw [ix_eq hj, e] at this
  simpa using this

def findV (op : Int) : Value := .tuple #[.agg #[.int .i64 (row5 op).1, .string ⟨(row5 op).2.1.toArray⟩, .int .i64 (row5 op).2.2], .bool (find5 op).isSome]
/-- s holds p at place i -/
def at5 (s p : List UInt8) (i : Nat) : Bool := (s.drop i).take p.length == p
def within5 (s p : List UInt8) : Bool := (List.range (s.length + 1)).any fun i => decide (i + p.length ≤ s.length) && at5 s p i
theorem within5_T {s p : List UInt8} {i : Nat} (h : i + p.length ≤ s.length) (e : at5 s p i = true) : within5 s p = true := by
  unfold within5; rw [List.any_eq_true]; exact ⟨i, by simp; omega, by simp [h, e]⟩
theorem within5_F {s p : List UInt8} {i : Nat} (h : s.length < i + p.length) (hall : ∀ j, j < i → at5 s p j = false) : within5 s p = false := by
  unfold within5; rw [List.any_eq_false]
  intro j _
  by_cases hj : j < i
  · simp [hall j hj]
  · simp; omega
def has5 (s : List UInt8) (d e : List UInt8) : Bool := within5 s d || within5 s e
def width5 (op : Int) : Int :=
  if (row5 op).2.2 ≠ 17 then 0 else
  let s := (row5 op).2.1
  if has5 s [100, 56] [101, 56] = true then 1 else if has5 s [100, 49, 54] [101, 49, 54] = true then 2 else if has5 s [100, 51, 50] [101, 51, 50] = true then 4 else if ((s.drop 1).take 2 == [51, 50]) = true then 4 else 8
theorem r05_small : (r05.all fun r => decide (r.2.1.length ≤ 100) && (decide (r.2.2 ≠ 17) || decide (3 ≤ r.2.1.length))) = true := by decide +kernel
theorem row5_small (op : Int) : (row5 op).2.1.length ≤ 100 ∧ ((row5 op).2.2 = 17 → 3 ≤ (row5 op).2.1.length) := by
  unfold row5
  cases h : find5 op with
  | none => simp
  | some r =>
    have := List.all_eq_true.1 r05_small r (List.mem_of_find?_eq_some h)
    simp only [Bool.and_eq_true, Bool.or_eq_true, decide_eq_true_eq] at this
    exact ⟨this.1, fun e => this.2.resolve_left (fun h => h e)⟩
/-- all opcodes -/
def all5 : List Int := r05.map (·.1)
theorem all5_len : all5.length = r05.length := by simp [all5]
theorem all5_ix {i : Nat} (h : i < r05.length) : ix all5 i = (ix r05 i).1 := by
  rw [ix_eq (by rw [all5_len]; exact h), ix_eq h]; simp [all5]
abbrev TOp : Nat := 46
theorem tables : opX = r05.map fun r => (r.1, ⟨r.2.1.toArray⟩) := by decide +kernel
theorem findO_map (op : Int) : ∀ l : List Row5, findO op (l.map fun r => (r.1, ⟨r.2.1.toArray⟩)) = (l.find? fun r => decide (r.1 = op)).map fun r => ⟨r.2.1.toArray⟩
  | [] => rfl
  | a :: r => by
    rw [List.map_cons, findO, List.find?_cons]
    by_cases h : a.1 = op
    · simp [h]
    · simp [h, findO_map op r]
theorem findO_5 (op : Int) : findO op opX = (find5 op).map fun r => ⟨r.2.1.toArray⟩ := by rw [tables, findO_map]; rfl
theorem nameO_5 (op : Int) : by_ (nameO op) = (row5 op).2.1 := by
  unfold nameO row5; rw [findO_5]
  cases find5 op <;> rfl
theorem known_tab : (r05.all fun r => !(r.2.1 == [])) = true := by decide +kernel
theorem knownO_5 (op : Int) : knownO op = (find5 op).isSome := by
  unfold knownO; rw [nameO_5]; unfold row5
  cases h : find5 op with
  | none => rfl
  | some r =>
    have := List.all_eq_true.1 known_tab r (List.mem_of_find?_eq_some h)
    simpa using this
theorem width_tab : (r05.all fun r => width5 r.1 == widthO r.1) = true := by decide +kernel
theorem widthO_5 (op : Int) : widthO op = width5 op := by
  cases h : find5 op with
  | none =>
    have h1 := knownO_5 op
    rw [h] at h1
    have h2 : accessO op = false := by unfold accessO; rw [h1]; simp
    unfold widthO width5 row5
    rw [h2, h]; rfl
  | some r =>
    have := List.all_eq_true.1 width_tab r (List.mem_of_find?_eq_some h)
    have e : r.1 = op := by have := List.find?_some h; simpa using this
    rw [e] at this
    exact (beq_iff_eq.1 this).symm
end Go.Proofs.YtmkgfccfnpmcjaaDoor
