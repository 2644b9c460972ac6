/- Walks of the reference of layer 36: begins, to, done, after. -/
import Derived.Test.YtmkgfccfnpmcjaaDoorJR4
import Derived.Test.YtmkgfccfnpmcjaaDoorJS
namespace Go.Proofs.YtmkgfccfnpmcjaaDoor
open Go.RowKit

/-- a block begins at p -/
def startB (xs : List Ins) (p : Nat) : Bool := p == 0 || (ix xs p).op == 11 || endsB (ix xs (p - 1)).op

/-- where a branch goes, or -1 -/
def toR (xs : List Ins) (p : Nat) (l : Int) : Int := (targetR xs p l).getD (-1)

/-- the end of the if whose else stands at p -/
def doneFrom (xs : List Ins) (p : Int) : Nat → Nat → Int
  | 0, _ => -1
  | f + 1, i => if ix (elsesR xs) i = p then ix (endsR xs) i else doneFrom xs p f (i + 1)
def doneR (xs : List Ins) (p : Nat) : Int := doneFrom xs p xs.length 0

theorem elsesR_len (xs : List Ins) : (elsesR xs).length = xs.length := elsesTo_len xs _
theorem endsR_len (xs : List Ins) : (endsR xs).length = xs.length := endsTo_len xs _

/-- the cells of an instruction -/
def insC (x : Ins) (tv lv : Value) : List Value := [.int .i64 x.op, .int .i64 x.a, .int .i64 x.b, .int .u64 x.n, .int .i64 x.kind, .int .i64 x.val, .int .i64 x.index, tv, lv]
theorem InsR.cells {F : Nat → Prop} {w : World} {b o : Nat} {x : Ins} (h : InsR F w b o x) : ∃ pt ct pl cl, IntsR F w (.slice pt x.types.length ct) x.types ∧ IntsR F w (.slice pl x.labels.length cl) x.labels ∧
    ∀ j, j < 9 → w.cell? ⟨b, o + j, none⟩ = (insC x (.slice pt x.types.length ct) (.slice pl x.labels.length cl))[j]? := by
  obtain ⟨tv, h1, h2⟩ := h.types
  obtain ⟨lv, h3, h4⟩ := h.labels
  obtain ⟨pt, ct, rfl, _⟩ := h2.slice
  obtain ⟨pl, cl, rfl, _⟩ := h4.slice
  refine ⟨pt, ct, pl, cl, h2, h4, fun j hj => ?_⟩
  match j, hj with
  | 0, _ => exact h.op
  | 1, _ => exact h.a
  | 2, _ => exact h.b
  | 3, _ => exact h.n
  | 4, _ => exact h.kind
  | 5, _ => exact h.val
  | 6, _ => exact h.index
  | 7, _ => exact h1
  | 8, _ => exact h3

/-- the places at which the body goes on behind p -/
def afterR (xs : List Ins) (p : Nat) : List Int :=
  let x := ix xs p
  if x.op = 4 then (if 0 ≤ ix (elsesR xs) p then [(p : Int) + 1, ix (elsesR xs) p + 1] else [(p : Int) + 1, ix (endsR xs) p])
  else if x.op = 5 then [doneR xs p]
  else if x.op = 12 then [toR xs p x.a]
  else if x.op = 13 then [toR xs p x.a, (p : Int) + 1]
  else if x.op = 14 then x.labels.map (toR xs p) ++ [toR xs p x.a]
  else if x.op = 15 ∨ x.op = 0 then []
  else if xs.length ≤ p + 1 then [] else [(p : Int) + 1]

theorem elsesTo_rng (xs : List Ins) (k : Nat) (hk : k ≤ xs.length) : ∀ a ∈ elsesTo xs k, -1 ≤ a ∧ a < xs.length := by
  induction k with
  | zero => intro a ha; simp [elsesTo] at ha; omega
  | succ k ih =>
    intro a ha
    simp only [elsesTo] at ha
    split at ha
    · rcases List.mem_or_eq_of_mem_set ha with h | h
      · exact ih (by omega) a h
      · omega
    · exact ih (by omega) a ha
theorem endsTo_rng (xs : List Ins) (k : Nat) (hk : k ≤ xs.length) : ∀ a ∈ endsTo xs k, -1 ≤ a ∧ a < xs.length := by
  induction k with
  | zero => intro a ha; simp [endsTo] at ha; omega
  | succ k ih =>
    intro a ha
    simp only [endsTo] at ha
    split at ha
    · rcases List.mem_or_eq_of_mem_set ha with h | h
      · exact ih (by omega) a h
      · omega
    · exact ih (by omega) a ha
theorem elsesR_rng {xs : List Ins} {p : Nat} (hp : p < xs.length) : -1 ≤ ix (elsesR xs) p ∧ ix (elsesR xs) p < xs.length := by
  have : p < (elsesR xs).length := by rw [elsesR_len]; exact hp
  exact elsesTo_rng xs xs.length (Nat.le_refl _) _ (by rw [ix_eq this]; exact List.getElem_mem _)
theorem endsR_rng {xs : List Ins} {p : Nat} (hp : p < xs.length) : -1 ≤ ix (endsR xs) p ∧ ix (endsR xs) p < xs.length := by
  have : p < (endsR xs).length := by rw [endsR_len]; exact hp
  exact endsTo_rng xs xs.length (Nat.le_refl _) _ (by rw [ix_eq this]; exact List.getElem_mem _)

end Go.Proofs.YtmkgfccfnpmcjaaDoor
