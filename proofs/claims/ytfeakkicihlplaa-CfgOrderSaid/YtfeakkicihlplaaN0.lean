/- Plain laws about the blocks round a place (no program in sight), and a rule for results of which the first is a struct in memory. -/
import Derived.Test.YtfeakkicihlplaaR4
import Derived.Test.YtfeakkicihlplaaR7
namespace Go.Proofs.Ytfeakkicihlplaa
open Go.RowKit

theorem round_sorted (xs : List Ins) (k : Nat) : (roundR xs k).Pairwise (· < ·) := by
  induction k with
  | zero => simp [roundR]
  | succ k ih =>
    have h1 : ∀ l : List Int, l = roundR xs k → ((if opensB (ix xs k).op then l ++ [(k : Int)] else l) : List Int).Pairwise (· < ·) := by
      rintro l rfl
      split
      · rw [List.pairwise_append]
        refine ⟨ih, by simp, fun a ha b hb => ?_⟩
        simp at hb; subst hb; exact (roundR_mem ha).2
      · exact ih
    have h2 : ∀ l : List Int, l.Pairwise (· < ·) → (if (ix xs k).op = 11 ∧ 0 < l.length then l.dropLast else l).Pairwise (· < ·) := by
      intro l hl
      split
      · exact hl.sublist (List.dropLast_sublist _)
      · exact hl
    exact h2 _ (h1 _ rfl)
theorem round_inj {xs : List Ins} {k i j : Nat} (hi : i < (roundR xs k).length) (hj : j < (roundR xs k).length) (h : ix (roundR xs k) i = ix (roundR xs k) j) : i = j := by
  rw [ix_eq hi, ix_eq hj] at h
  have hs := round_sorted xs k
  rw [List.pairwise_iff_getElem] at hs
  rcases Nat.lt_trichotomy i j with h1 | h1 | h1
  · have := hs i j hi hj h1; omega
  · exact h1
  · have := hs j i hj hi h1; omega

theorem elsedR_succ (xs : List Ins) (h i : Nat) : elsedR xs h (i + 1) = (elsedR xs h i || elseAt xs h i) := by
  unfold elsedR; rw [List.range_succ, List.any_append]; simp
/-- the block that a opened has its else before i -/
def hadOf (xs : List Ins) (a : Int) (i : Nat) : Bool := decide (0 ≤ a) && elsedR xs a.toNat i
theorem hadOf_other {xs : List Ins} {a : Int} {i : Nat} (h : (ix xs i).op ≠ 5) : hadOf xs a (i + 1) = hadOf xs a i := by
  unfold hadOf; rw [elsedR_succ]
  have : elseAt xs a.toNat i = false := by simp [elseAt, h]
  rw [this, Bool.or_false]
theorem hadOf_new {xs : List Ins} {i : Nat} : hadOf xs (i : Int) (i + 1) = false := by
  unfold hadOf
  rw [elsedR_false (fun j hj => by simp only [elseAt, decide_eq_false_iff_not, Int.toNat_natCast]; omega)]
  simp
theorem hadOf_last {xs : List Ins} {i h : Nat} (h5 : (ix xs i).op = 5) (hz : 0 < (roundR xs i).length) (hl : lastI (roundR xs i) = h) (hi : h < i) : hadOf xs (h : Int) (i + 1) = true := by
  unfold hadOf
  rw [elsedR_true (i := i) (by omega) (by simp [elseAt, h5, hz, hl, hi])]
  simp
theorem hadOf_not_last {xs : List Ins} {i : Nat} {a : Int} (hl : lastI (roundR xs i) ≠ a) : hadOf xs a (i + 1) = hadOf xs a i := by
  unfold hadOf
  by_cases h0 : 0 ≤ a
  · rw [elsedR_succ]
    have : elseAt xs a.toNat i = false := by
      simp only [elseAt, decide_eq_false_iff_not]
      rintro ⟨_, _, _, h⟩
      rw [Int.toNat_of_nonneg h0] at h; exact hl h
    rw [this, Bool.or_false]
  · simp [h0]

theorem round_open {xs : List Ins} {i : Nat} (h : opensB (ix xs i).op = true) : roundR xs (i + 1) = roundR xs i ++ [(i : Int)] := by
  have h11 : (ix xs i).op ≠ 11 := by simp [opensB] at h; omega
  show stepR _ _ _ = _
  unfold stepR; simp [h, h11]
theorem round_end {xs : List Ins} {i : Nat} (h : (ix xs i).op = 11) (hz : 0 < (roundR xs i).length) : roundR xs (i + 1) = (roundR xs i).dropLast := by
  show stepR _ _ _ = _
  unfold stepR; simp [h, opensB]
  intro h0; simp [h0] at hz
theorem round_plain {xs : List Ins} {i : Nat} (h : opensB (ix xs i).op = false) (h11 : (ix xs i).op ≠ 11) : roundR xs (i + 1) = roundR xs i := by
  show stepR _ _ _ = _
  unfold stepR; simp [h, h11]
theorem round_32 {xs : List Ins} : ∀ (i : Nat), (∀ j, j < i → checkAt xs j = none) → (roundR xs i).length ≤ 32
  | 0, _ => by simp [roundR]
  | i + 1, h => by
    have ih := round_32 i (fun j hj => h j (by omega))
    have hc := h i (by omega)
    cases ho : opensB (ix xs i).op with
    | true =>
      rw [round_open ho, List.length_append]
      unfold checkAt at hc
      dsimp only at hc
      split at hc
      · cases hc
      · split at hc
        · cases hc
        · split at hc
          · cases hc
          · rename_i h32; simp only [ho, true_and] at h32; simp; omega
    | false =>
      by_cases h11 : (ix xs i).op = 11
      · by_cases hz : 0 < (roundR xs i).length
        · rw [round_end h11 hz]; simp; omega
        · have : roundR xs (i + 1) = roundR xs i := by
            show stepR _ _ _ = _
            unfold stepR; simp [ho]; intro _ h; simp [h] at hz
          rw [this]; exact ih
      · rw [round_plain ho h11]; exact ih

/-- how deep each of the first k instructions lies, and what opened the block round it -/
def depthsTo (xs : List Ins) : Nat → List Int
  | 0 => List.replicate xs.length (-1)
  | k + 1 => (depthsTo xs k).set k (roundR xs k).length
def headsTo (xs : List Ins) : Nat → List Int
  | 0 => List.replicate xs.length (-1)
  | k + 1 => (headsTo xs k).set k (lastI (roundR xs k))
theorem depthsTo_len (xs : List Ins) (k : Nat) : (depthsTo xs k).length = xs.length := by induction k with
  | zero => simp [depthsTo]
  | succ k ih => simp [depthsTo, ih]
theorem headsTo_len (xs : List Ins) (k : Nat) : (headsTo xs k).length = xs.length := by induction k with
  | zero => simp [headsTo]
  | succ k ih => simp [headsTo, ih]
theorem depthsTo_ix {xs : List Ins} {k i : Nat} (hi : i < k) (hk : k ≤ xs.length) : ix (depthsTo xs k) i = (roundR xs i).length := by
  induction k with
  | zero => omega
  | succ k ih =>
    rw [depthsTo]
    by_cases e : i = k
    · subst e; rw [ix_set_same (by rw [depthsTo_len]; omega)]
    · rw [ix_set_other e]; exact ih (by omega) (by omega)
theorem headsTo_ix {xs : List Ins} {k i : Nat} (hi : i < k) (hk : k ≤ xs.length) : ix (headsTo xs k) i = lastI (roundR xs i) := by
  induction k with
  | zero => omega
  | succ k ih =>
    rw [headsTo]
    by_cases e : i = k
    · subst e; rw [ix_set_same (by rw [headsTo_len]; omega)]
    · rw [ix_set_other e]; exact ih (by omega) (by omega)
def depthsR (xs : List Ins) : List Int := depthsTo xs xs.length
def headsR (xs : List Ins) : List Int := headsTo xs xs.length

/-- a result that is a struct in memory, and two more -/
theorem Fin.ret3c {fn : Func} {R : Ending → World → Prop} {n : Nat} {E : Env} {w : World} {a T t u b Tb s : Nat} {ti : TI} {v x : Value} {cs : List Value} (hr : fn.results = #[.cell a T, .tmp t, .tmp u]) (ha : lk E a = some (.pointer (some ⟨b, 0, none⟩))) (hT : G.ty T = some ti) (hag : ti.agg = true) (hsz : ti.size = s) (hb : Blk w b cs Tb) (hl : cs.length = s)
    (hv : lk E t = some v) (hx : lk E u = some x) (hR : R (.returned (.tuple #[.agg cs.toArray, v, x])) w) : Fin (bodyPost G.P fn R) n .ret E w :=
  Fin.ofRun (.inl rfl) (fun ac hac => by
    have h1 := (G.tyOk T ti hT).agg w
    have h2 := (G.tyOk T ti hT).size w
    rw [hag] at h1
    subst hl
    have h3 := run_loadCells (P := G.P) (w := w) (bk := b) cs 0 0 #[] (fun j hj => by
      have := hb.cell (j := j) (List.getElem?_eq_getElem hj)
      rw [List.getElem?_eq_getElem hj, ← this]; simp)
    have g1 : ac.tmps[a]?.getD undef = .pointer (some ⟨b, 0, none⟩) := by have := (hac.eq a _ ha).2; simpa using this
    have g2 : ac.tmps[t]?.getD undef = v := by have := (hac.eq t _ hv).2; simpa using this
    have g3 : ac.tmps[u]?.getD undef = x := by have := (hac.eq u _ hx).2; simpa using this
    simp [results, hr, g1, g2, g3, asAddr, loadVar, h1, h2, hsz, loadCells, h3]) hR
end Go.Proofs.Ytfeakkicihlplaa
