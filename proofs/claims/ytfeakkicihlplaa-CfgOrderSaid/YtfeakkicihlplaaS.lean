/- Walks of the functions of package slices and cmp that the program calls at []int and at its blocks. -/
import Derived.Test.YtfeakkicihlplaaB
import Derived.Test.YtfeakkicihlplaaF2
namespace Go.Proofs.Ytfeakkicihlplaa
open Go.RowKit

theorem cmp_isNaN (a : Int) (w : World) : Calls G.P 61 #[.int .i64 a] w fun e w' => e = .returned (.bool false) ∧ w = w' := by
  refine enter (G := G) Try.func61 rfl Try.ntmps61 rfl ?_
  refine wgo ?_
  exact Fin.ret1 rfl rfl ⟨rfl, rfl⟩
theorem slices_isNaN (a : Int) (w : World) : Calls G.P 48 #[.int .i64 a] w fun e w' => e = .returned (.bool false) ∧ w = w' := by
  refine enter (G := G) Try.func48 rfl Try.ntmps48 rfl ?_
  refine wgo ?_
  exact Fin.ret1 rfl rfl ⟨rfl, rfl⟩
theorem cmp_Less (a b : Int) (w : World) : Calls G.P 47 #[.int .i64 a, .int .i64 b] w fun e w' => e = .returned (.bool (decide (a < b))) ∧ w = w' := by
  by_cases h : a < b
  all_goals
    refine enter (G := G) Try.func47 rfl Try.ntmps47 rfl ?_
    refine wgo ?_
    refine Ops.call rfl rfl rfl (cmp_isNaN _ _) ?_
    rintro _ _ ⟨rfl, rfl⟩
    refine ⟨_, rfl, ?_⟩
    refine wgo ?_
    exact Fin.ret1 rfl rfl ⟨by simp [h], rfl⟩

theorem slices_Index (xs : List Int) (v : Value) (m : Int) (w : World) (hb : IntsR (fun _ => True) w v xs) :
    Calls G.P 56 #[v, .int .i64 m] w fun e w' => ∃ i : Int, e = .returned (.int .i64 i) ∧ decide (0 ≤ i) = xs.contains m ∧ w = w' := by
  obtain ⟨p, cap, rfl, hl⟩ := hb.slice
  refine enter (G := G) Try.func56 rfl Try.ntmps56 rfl ?_
  refine wgo ?_
  refine Cd.loop (σ := Nat) (fun k => [(0, .slice p xs.length cap), (1, .int .i64 m), (7, .int .i64 xs.length), (8, .int .i64 k)]) (fun k wr => k ≤ xs.length ∧ (∀ j, j < k → ix xs j ≠ m) ∧ w = wr) (fun k => xs.length - k) 0 wsub ⟨Nat.zero_le _, by omega, rfl⟩ ?_
  rintro k wr ⟨hk, hn, rfl⟩
  by_cases hlt : k < xs.length
  · obtain ⟨b, off, rfl, -, hI⟩ := hb.at hlt
    have hc := hI k hlt
    by_cases he : m = ix xs k
    · refine wgo ?_
      refine Fin.ret1 rfl rfl ⟨_, rfl, ?_, rfl⟩
      rw [List.contains_iff_mem.2]
      · simp
      · rw [he, ix_eq hlt]; exact List.getElem_mem hlt
    · refine wgo ?_
      refine Fin.next (k + 1) wsub ⟨by omega, fun j hj => ?_, rfl⟩ (by omega)
      by_cases h : j = k
      · subst h; exact fun e => he e.symm
      · exact hn j (by omega)
  · refine wgo ?_
    refine Fin.ret1 rfl rfl ⟨_, rfl, ?_, rfl⟩
    have : xs.contains m = false := by
      rw [Bool.eq_false_iff, ne_eq, List.contains_iff_mem, List.mem_iff_getElem]
      rintro ⟨j, hj, e⟩
      exact hn j (by omega) (by rw [ix_eq hj]; exact e)
    rw [this]; rfl

theorem slices_Contains (xs : List Int) (v : Value) (m : Int) (w : World) (hb : IntsR (fun _ => True) w v xs) :
    Calls G.P 39 #[v, .int .i64 m] w fun e w' => e = .returned (.bool (xs.contains m)) ∧ w = w' := by
  refine enter (G := G) Try.func39 rfl Try.ntmps39 rfl ?_
  refine wgo ?_
  refine Ops.call rfl rfl rfl (slices_Index xs v m w hb) ?_
  rintro _ _ ⟨i, rfl, hi, rfl⟩
  refine ⟨_, rfl, ?_⟩
  by_cases h : 0 ≤ i
  all_goals
    refine wgo ?_
    exact Fin.ret1 rfl rfl ⟨by rw [← hi]; simp [h], rfl⟩

theorem slices_Clone (xs : List Int) (v : Value) (w : World) (hb : IntsR (fun _ => True) w v xs) :
    Calls G.P 46 #[v] w fun e w' => ∃ r, e = .returned r ∧ OwnI w.heap.size w' r xs ∧ Ext w w' := by
  obtain ⟨p, cap, rfl, hl⟩ := hb.slice
  refine enter (G := G) Try.func46 rfl Try.ntmps46 rfl ?_
  cases p with
  | none =>
    refine wgo ?_
    have : xs = [] := by
      cases xs with
      | nil => rfl
      | cons a r => obtain ⟨b, off, e, _⟩ := hb.at (i := 0) (by simp); cases e
    subst this
    exact Fin.ret1 rfl rfl ⟨_, rfl, OwnI.nil _ _, Chg.refl _ _⟩
  | some ad =>
    refine wgo ?_
    refine Ops.e (Eff.buildSlice (cs := []) (e := 3) rfl (by kernel_rfl)) rfl ?_
    rintro _ w2 ⟨rfl, hn2⟩
    refine wgo ?_
    refine Ops.e (Eff.appIs (base := w.heap.size) (xs := []) rfl rfl (OwnI.ofNew hn2 rfl (Nat.le_refl _) (by decide)) (hb.chg hn2.ext (fun _ _ _ h => h)) (by have := hn2.size; omega) (by simp; omega)) rfl ?_
    rintro v3 w3 ⟨hown3, hc3⟩
    refine wgo ?_
    refine Fin.ret1 rfl rfl ⟨_, rfl, hown3, hn2.ext.trans' hc3 (fun i hi h => ?_)⟩
    cases h
    exact (Nat.lt_irrefl _ hi).elim

theorem slices_BinarySearch (xs : List Int) (v : Value) (t : Int) (w : World) (hb : IntsR (fun _ => True) w v xs) (hs : ∀ a b, a ≤ b → b < xs.length → ix xs a ≤ ix xs b) :
    Calls G.P 31 #[v, .int .i64 t] w fun e w' => ∃ (i : Nat) (b : Bool), e = .returned (.tuple #[.int .i64 i, .bool b]) ∧ i ≤ xs.length ∧ (∀ k, k < i → ix xs k < t) ∧ (∀ k, i ≤ k → k < xs.length → t ≤ ix xs k) ∧ w = w' := by
  obtain ⟨p, cap, rfl, hl⟩ := hb.slice
  refine enter (G := G) Try.func31 rfl Try.ntmps31 rfl ?_
  refine wgo ?_
  refine Cd.loop (σ := Nat × Nat) (fun s => [(0, .slice p xs.length cap), (1, .int .i64 t), (6, .int .i64 xs.length), (7, .int .i64 s.1), (8, .int .i64 s.2)]) (fun s wr => s.1 ≤ s.2 ∧ s.2 ≤ xs.length ∧ (∀ k, k < s.1 → ix xs k < t) ∧ (∀ k, s.2 ≤ k → k < xs.length → t ≤ ix xs k) ∧ w = wr) (fun s => s.2 - s.1) (0, xs.length) wsub
    ⟨Nat.zero_le _, Nat.le_refl _, by omega, by omega, rfl⟩ ?_
  rintro ⟨i, j⟩ wr ⟨hij, hj, h1, h2, rfl⟩
  dsimp only at hij hj h1 h2 ⊢
  by_cases hlt : i < j
  · obtain ⟨b, off, rfl, -, hI⟩ := hb.at (i := i) (by omega)
    obtain ⟨m, hm⟩ : ∃ m : Nat, ((i : Int) + j) / 2 = m := ⟨(i + j) / 2, by omega⟩
    have hmi : i ≤ m ∧ m < j := by omega
    have hc := hI m (by omega)
    refine wgo ?_
    rw [hm]
    refine wgo ?_
    refine Ops.call rfl rfl rfl (cmp_Less _ _ _) ?_
    rintro _ _ ⟨rfl, rfl⟩
    refine ⟨_, rfl, ?_⟩
    by_cases hx : ix xs m < t
    · rw [decide_eq_true hx]
      refine wgo ?_
      refine Fin.next (m + 1, j) wsub ⟨by omega, hj, fun k hk => ?_, h2, rfl⟩ (by dsimp only; omega)
      have := hs k m (by omega) (by omega)
      omega
    · rw [decide_eq_false hx]
      refine wgo ?_
      refine Fin.next (i, m) wsub ⟨by omega, by omega, h1, fun k hk hk2 => ?_, rfl⟩ (by dsimp only; omega)
      have := hs m k hk hk2
      omega
  · obtain rfl : i = j := by omega
    by_cases hi : i < xs.length
    · obtain ⟨b, off, rfl, -, hI⟩ := hb.at hi
      have hc := hI i hi
      by_cases he : ix xs i = t
      · refine wgo ?_
        exact Fin.ret2 rfl rfl rfl ⟨i, _, rfl, hj, h1, h2, rfl⟩
      · refine wgo ?_
        refine Ops.callg rfl rfl rfl rfl (slices_isNaN _ _) ?_
        rintro _ _ ⟨rfl, rfl⟩
        refine ⟨_, rfl, ?_⟩
        refine wgo ?_
        exact Fin.ret2 rfl rfl rfl ⟨i, _, rfl, hj, h1, h2, rfl⟩
    · refine wgo ?_
      exact Fin.ret2 rfl rfl rfl ⟨i, _, rfl, hj, h1, h2, rfl⟩
end Go.Proofs.Ytfeakkicihlplaa
