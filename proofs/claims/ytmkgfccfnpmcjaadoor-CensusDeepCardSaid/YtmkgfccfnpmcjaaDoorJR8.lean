/- Walk of the reference of layer 36: Of. -/
import Derived.Test.YtmkgfccfnpmcjaaDoorJR5
import Derived.Test.YtmkgfccfnpmcjaaDoorJN1
namespace Go.Proofs.YtmkgfccfnpmcjaaDoor
open Go.RowKit

/-- the blocks of the first k instructions: where each begins and ends -/
def fbTo (xs : List Ins) : Nat → List (Nat × Nat)
  | 0 => []
  | k + 1 =>
    let l := if startB xs k then fbTo xs k ++ [(k, 0)] else fbTo xs k
    l.set (l.length - 1) ((ix l (l.length - 1)).1, k + 1)
theorem fbTo_yes {xs : List Ins} {k : Nat} (h : startB xs k = true) : fbTo xs (k + 1) = fbTo xs k ++ [(k, k + 1)] := by
  simp only [fbTo, h, if_true]
  have e : (fbTo xs k ++ [(k, (0 : Nat))]).length - 1 = (fbTo xs k).length := by simp
  rw [e, ix_append_last rfl]
  simp
theorem fbTo_no {xs : List Ins} {k : Nat} (h : startB xs k = false) : fbTo xs (k + 1) = (fbTo xs k).set ((fbTo xs k).length - 1) ((ix (fbTo xs k) ((fbTo xs k).length - 1)).1, k + 1) := by
  simp only [fbTo, h, Bool.false_eq_true, if_false]
theorem fbTo_len (xs : List Ins) (k : Nat) : (fbTo xs k).length ≤ k := by
  induction k with
  | zero => simp [fbTo]
  | succ k ih =>
    cases h : startB xs k with
    | true => rw [fbTo_yes h]; simp; omega
    | false => rw [fbTo_no h]; simp; omega
theorem fbTo_pos {xs : List Ins} {k : Nat} (h : 0 < k) : 0 < (fbTo xs k).length := by
  induction k with
  | zero => omega
  | succ k ih =>
    cases hs : startB xs k with
    | true => rw [fbTo_yes hs]; simp
    | false =>
      rw [fbTo_no hs, List.length_set]
      by_cases h0 : k = 0
      · subst h0; simp [startB] at hs
      · exact ih (by omega)
theorem fbTo_rng {xs : List Ins} {k j : Nat} (hj : j < (fbTo xs k).length) : (ix (fbTo xs k) j).1 < (ix (fbTo xs k) j).2 ∧ (ix (fbTo xs k) j).2 ≤ k := by
  induction k generalizing j with
  | zero => simp [fbTo] at hj
  | succ k ih =>
    cases hs : startB xs k with
    | true =>
      rw [fbTo_yes hs] at hj ⊢
      by_cases e : j = (fbTo xs k).length
      · rw [ix_append_last e]; dsimp only; omega
      · have h1 : j < (fbTo xs k).length := by simp at hj; omega
        rw [ix_append_left h1]; have := ih h1; omega
    | false =>
      rw [fbTo_no hs] at hj ⊢
      rw [List.length_set] at hj
      by_cases e : j = (fbTo xs k).length - 1
      · subst e; rw [ix_set_same hj]; have := ih hj; dsimp only; omega
      · rw [ix_set_other e]; have := ih hj; omega

/-- blocks out of their ranges, successors and marks -/
def mkB (fb : List (Nat × Nat)) (nx : Nat → List Int) (lv : Nat → Bool) : List Bk := (List.range fb.length).map (fun j => ⟨(ix fb j).1, (ix fb j).2, nx j, lv j⟩)
theorem mkB_len (fb : List (Nat × Nat)) (nx : Nat → List Int) (lv : Nat → Bool) : (mkB fb nx lv).length = fb.length := by simp [mkB]
theorem mkB_ix {fb : List (Nat × Nat)} {nx : Nat → List Int} {lv : Nat → Bool} {j : Nat} (h : j < fb.length) : ix (mkB fb nx lv) j = ⟨(ix fb j).1, (ix fb j).2, nx j, lv j⟩ := ix_map_range h
/-- the block that holds the place q -/
def atF (fb : List (Nat × Nat)) (q : Int) : Int := atB (mkB fb (fun _ => []) (fun _ => false)) q
theorem atFrom_congr {a b : List Bk} {q : Int} : ∀ (f k : Nat), (∀ j, j < k + f → (ix a j).fr = (ix b j).fr ∧ (ix a j).to = (ix b j).to) → atFrom a q f k = atFrom b q f k
  | 0, _, _ => rfl
  | f + 1, k, h => by
    have h1 := h k (by omega)
    unfold atFrom
    rw [h1.1, h1.2, atFrom_congr f (k + 1) (fun j hj => h j (by omega))]
theorem atB_mkB (fb : List (Nat × Nat)) (nx : Nat → List Int) (lv : Nat → Bool) (q : Int) : atB (mkB fb nx lv) q = atF fb q := by
  unfold atF atB
  rw [mkB_len, mkB_len]
  refine atFrom_congr _ _ (fun j hj => ?_)
  rw [mkB_ix (by omega), mkB_ix (by omega)]; exact ⟨rfl, rfl⟩

/-- the successors of block j, as places and as blocks -/
def goB (xs : List Ins) (j : Nat) : List Int := afterR xs ((ix (fbTo xs xs.length) j).2 - 1)
def nextB (xs : List Ins) (j : Nat) : List Int := (goB xs j).map (atF (fbTo xs xs.length))
/-- some block goes nowhere -/
def badB (xs : List Ins) : Prop := ∃ j, j < (fbTo xs xs.length).length ∧ ∃ a ∈ goB xs j, a < 0
/-- the blocks of a body -/
def blocksB (xs : List Ins) : List Bk :=
  let g := mkB (fbTo xs xs.length) (nextB xs) (fun _ => false)
  mkB (fbTo xs xs.length) (nextB xs) (fun j => (orderR g).contains (j : Int))

def c0 (p : Nat × Nat) (nv : Value) : List Value := [.int .i64 p.1, .int .i64 p.2, nv, .bool false]

/-- what a call of Of gives: nothing and false, or the blocks and true -/
def OfPost (w : World) (_xs : List Ins) (ok : Prop) (blocks : List Bk) (e : Ending) (w' : World) : Prop :=
  (¬ ok ∧ e = .returned (.tuple #[.slice none 0 0, .bool false]) ∧ Ext w w') ∨ (ok ∧ ∃ r nvs, e = .returned (.tuple #[r, .bool true]) ∧ BlocksN (fun k => w.heap.size ≤ k) w' r blocks nvs ∧ Ext w w')

end Go.Proofs.YtmkgfccfnpmcjaaDoor
