/- Walk of the reference of layer 9: which opcodes open a block. -/
import Derived.Test.YtmkgfccfnpmcjaaDoorJG
import Derived.Test.YtmkgfccfnpmcjaaDoorJE
namespace Go.Proofs.YtmkgfccfnpmcjaaDoor
open Go.RowKit

def opensB (op : Int) : Bool := op == 2 || op == 3 || op == 4

end Go.Proofs.YtmkgfccfnpmcjaaDoor
/- Walk of the reference of layer 9: the blocks round a place. -/
namespace Go.Proofs.YtmkgfccfnpmcjaaDoor
open Go.RowKit

/-- one step of the stack of open blocks: instruction i with opcode op -/
def stepR (l : List Int) (i : Int) (op : Int) : List Int :=
  let l1 := if opensB op then l ++ [i] else l
  if op = 11 ∧ 0 < l1.length then l1.dropLast else l1

def roundR (xs : List Ins) : Nat → List Int
  | 0 => [-1]
  | k + 1 => stepR (roundR xs k) k (ix xs k).op

theorem stepR_len (l : List Int) (i op : Int) : (stepR l i op).length ≤ l.length + 1 := by
  unfold stepR
  dsimp only
  split <;> split <;> simp <;> omega
theorem roundR_len (xs : List Ins) (k : Nat) : (roundR xs k).length ≤ k + 1 := by
  induction k with
  | zero => simp [roundR]
  | succ k ih => have := stepR_len (roundR xs k) k (ix xs k).op; simp only [roundR]; omega

end Go.Proofs.YtmkgfccfnpmcjaaDoor
/- Walks of the reference of layer 9: elsed, Check, none, Ends, Elses, Target. -/
namespace Go.Proofs.YtmkgfccfnpmcjaaDoor
open Go.RowKit

/-- the last number -/
def lastI (l : List Int) : Int := ix l (l.length - 1)

theorem stepR_mem {l : List Int} {i op a : Int} (h : a ∈ stepR l i op) : a ∈ l ∨ a = i := by
  have h1 : a ∈ (if opensB op then l ++ [i] else l) := by
    unfold stepR at h
    dsimp only at h
    by_cases hc : op = 11 ∧ 0 < (if opensB op then l ++ [i] else l).length
    · rw [if_pos hc] at h; exact (List.dropLast_sublist _).subset h
    · rw [if_neg hc] at h; exact h
  split at h1
  · simpa using h1
  · exact .inl h1
theorem roundR_mem {xs : List Ins} {k : Nat} {a : Int} (h : a ∈ roundR xs k) : -1 ≤ a ∧ a < k := by
  induction k with
  | zero => simp [roundR] at h; omega
  | succ k ih =>
    rcases stepR_mem h with h | h
    · have := ih h; omega
    · omega
theorem lastI_mem {l : List Int} (h : 0 < l.length) : lastI l ∈ l := by
  unfold lastI; rw [ix_eq (by omega)]; exact List.getElem_mem _
theorem lastR {xs : List Ins} {k : Nat} (h : 0 < (roundR xs k).length) : -1 ≤ lastI (roundR xs k) ∧ lastI (roundR xs k) < k := roundR_mem (lastI_mem h)

/-- an else of the block that h opened stands at i -/
def elseAt (xs : List Ins) (h : Nat) (i : Nat) : Bool := decide (h < i ∧ (ix xs i).op = 5 ∧ 0 < (roundR xs i).length ∧ lastI (roundR xs i) = h)
def elsedR (xs : List Ins) (h at_ : Nat) : Bool := (List.range at_).any (elseAt xs h)

theorem elsedR_false {xs : List Ins} {h at_ : Nat} (hn : ∀ i, i < at_ → elseAt xs h i = false) : elsedR xs h at_ = false := by
  unfold elsedR
  rw [List.any_eq_false]
  intro i hi
  rw [hn i (List.mem_range.1 hi)]; simp
theorem elsedR_true {xs : List Ins} {h at_ i : Nat} (hi : i < at_) (hn : elseAt xs h i = true) : elsedR xs h at_ = true := by
  unfold elsedR
  rw [List.any_eq_true]
  exact ⟨i, List.mem_range.2 hi, hn⟩

/-- the error that the instruction at i gives -/
def checkAt (xs : List Ins) (i : Nat) : Option (Int × Int) :=
  let l := roundR xs i
  let h := lastI l
  if l.length = 0 then some (i, 16)
  else if (ix xs i).op = 5 ∧ (h < 0 ∨ (ix xs h.toNat).op ≠ 4 ∨ elsedR xs h.toNat i = true) then some (i, 16)
  else if opensB (ix xs i).op = true ∧ 32 ≤ l.length then some (i, 6)
  else none
def checkFrom (xs : List Ins) : Nat → Nat → Int × Int
  | 0, i => if 0 < (roundR xs i).length then (i, 3) else (0, 0)
  | f + 1, i => match checkAt xs i with
    | some r => r
    | none => checkFrom xs f (i + 1)
def checkR (xs : List Ins) : Int × Int := checkFrom xs xs.length 0

end Go.Proofs.YtmkgfccfnpmcjaaDoor
/- Walks of the reference of layer 9: none, Ends, Elses, Target. -/
namespace Go.Proofs.YtmkgfccfnpmcjaaDoor
open Go.RowKit

theorem checkAt_len {xs : List Ins} {i : Nat} (h : checkAt xs i = none) : 0 < (roundR xs i).length := by
  unfold checkAt at h
  dsimp only at h
  by_cases h0 : (roundR xs i).length = 0
  · rw [if_pos h0] at h; cases h
  · omega
theorem checkAt_else {xs : List Ins} {i : Nat} (h : checkAt xs i = none) (h5 : (ix xs i).op = 5) : 0 ≤ lastI (roundR xs i) ∧ (ix xs (lastI (roundR xs i)).toNat).op = 4 ∧ elsedR xs (lastI (roundR xs i)).toNat i = false := by
  unfold checkAt at h
  dsimp only at h
  by_cases h0 : (roundR xs i).length = 0
  · rw [if_pos h0] at h; cases h
  · rw [if_neg h0] at h
    by_cases hc : (ix xs i).op = 5 ∧ (lastI (roundR xs i) < 0 ∨ (ix xs (lastI (roundR xs i)).toNat).op ≠ 4 ∨ elsedR xs (lastI (roundR xs i)).toNat i = true)
    · rw [if_pos hc] at h; cases h
    · refine ⟨?_, ?_, ?_⟩
      · by_cases h1 : lastI (roundR xs i) < 0
        · exact absurd ⟨h5, .inl h1⟩ hc
        · omega
      · by_cases h1 : (ix xs (lastI (roundR xs i)).toNat).op = 4
        · exact h1
        · exact absurd ⟨h5, .inr (.inl h1)⟩ hc
      · cases h1 : elsedR xs (lastI (roundR xs i)).toNat i with
        | false => rfl
        | true => exact absurd ⟨h5, .inr (.inr h1)⟩ hc
theorem checkAt_code {xs : List Ins} {i : Nat} {r : Int × Int} (h : checkAt xs i = some r) : r.1 = i ∧ (r.2 = 16 ∨ r.2 = 6) := by
  unfold checkAt at h
  dsimp only at h
  split at h
  · cases h; exact ⟨rfl, .inl rfl⟩
  · split at h
    · cases h; exact ⟨rfl, .inl rfl⟩
    · split at h
      · cases h; exact ⟨rfl, .inr rfl⟩
      · cases h
theorem checkFrom_ok (xs : List Ins) : ∀ (f i : Nat), (checkFrom xs f i).2 = 0 → (∀ j, i ≤ j → j < i + f → checkAt xs j = none) ∧ (roundR xs (i + f)).length = 0
  | 0, i, h => by
    unfold checkFrom at h
    by_cases hz : 0 < (roundR xs i).length
    · rw [if_pos hz] at h; simp at h
    · exact ⟨fun j h1 h2 => by omega, by rw [Nat.add_zero]; omega⟩
  | f + 1, i, h => by
    unfold checkFrom at h
    cases hc : checkAt xs i with
    | some r => rw [hc] at h; have := checkAt_code hc; simp only at h; omega
    | none =>
      rw [hc] at h
      obtain ⟨h1, h2⟩ := checkFrom_ok xs f (i + 1) h
      refine ⟨fun j hj1 hj2 => ?_, by rw [show i + (f + 1) = i + 1 + f by omega]; exact h2⟩
      by_cases e : j = i
      · subst e; exact hc
      · exact h1 j (by omega) (by omega)
theorem check_ok {xs : List Ins} (h : (checkR xs).2 = 0) : (∀ j, j < xs.length → checkAt xs j = none) ∧ (roundR xs xs.length).length = 0 := by
  obtain ⟨h1, h2⟩ := checkFrom_ok xs xs.length 0 h
  exact ⟨fun j hj => h1 j (by omega) (by omega), by simpa using h2⟩

def endsTo (xs : List Ins) : Nat → List Int
  | 0 => List.replicate xs.length (-1)
  | k + 1 => if (ix xs k).op = 11 ∧ 0 ≤ lastI (roundR xs k) then (endsTo xs k).set (lastI (roundR xs k)).toNat k else endsTo xs k
def elsesTo (xs : List Ins) : Nat → List Int
  | 0 => List.replicate xs.length (-1)
  | k + 1 => if (ix xs k).op = 5 then (elsesTo xs k).set (lastI (roundR xs k)).toNat k else elsesTo xs k
theorem endsTo_len (xs : List Ins) (k : Nat) : (endsTo xs k).length = xs.length := by
  induction k with
  | zero => simp [endsTo]
  | succ k ih => simp only [endsTo]; split <;> simp [ih]
theorem elsesTo_len (xs : List Ins) (k : Nat) : (elsesTo xs k).length = xs.length := by
  induction k with
  | zero => simp [elsesTo]
  | succ k ih => simp only [elsesTo]; split <;> simp [ih]
def endsR (xs : List Ins) : List Int := endsTo xs xs.length
def elsesR (xs : List Ins) : List Int := elsesTo xs xs.length

/-- where a branch at place a with label l goes -/
def targetR (xs : List Ins) (a : Nat) (l : Int) : Option Int :=
  let r := roundR xs a
  if l < 0 ∨ (r.length : Int) ≤ l then none
  else
    let h := ix r (r.length - 1 - l.toNat)
    if h < 0 then some ((xs.length : Int) - 1)
    else if (ix xs h.toNat).op = 3 then some (h + 1)
    else some (ix (endsR xs) h.toNat)

end Go.Proofs.YtmkgfccfnpmcjaaDoor
