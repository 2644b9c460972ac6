/- Walks of the small functions of the law and of the reference that only read: few, contains, has, Ints, ends, begins. -/
import Derived.Test.YtfeakkicihlplaaD
namespace Go.Proofs.Ytfeakkicihlplaa
open Go.RowKit

/-- after such an instruction a block begins -/
def endsB (op : Int) : Bool := op == 3 || op == 4 || op == 5 || op == 12 || op == 13 || op == 14 || op == 15 || op == 0

theorem cfg_ends (op : Int) (w : World) : Calls G.P 43 #[.int .i64 op] w fun e w' => e = .returned (.bool (endsB op)) ∧ w = w' := by
  rcases (show op = 3 ∨ op = 4 ∨ op = 5 ∨ op = 12 ∨ op = 13 ∨ op = 14 ∨ op = 15 ∨ op = 0 ∨ (op ≠ 3 ∧ op ≠ 4 ∧ op ≠ 5 ∧ op ≠ 12 ∧ op ≠ 13 ∧ op ≠ 14 ∧ op ≠ 15 ∧ op ≠ 0) from by omega) with hc_ | hc_ | hc_ | hc_ | hc_ | hc_ | hc_ | hc_ | ⟨hc3_, hc4_, hc5_, hc12_, hc13_, hc14_, hc15_, hc0_⟩
  all_goals
    refine enter (G := G) Try.func43 rfl Try.ntmps43 rfl ?_
    refine wgo ?_
    refine Fin.ret1 rfl rfl ⟨?_, rfl⟩
    simp [endsB, *]

theorem law_contains (xs : List Int) (v : Value) (m : Int) (w : World) (hb : IntsR (fun _ => True) w v xs) :
    Calls G.P 16 #[v, .int .i64 m] w fun e w' => e = .returned (.bool (xs.contains m)) ∧ w = w' := by
  obtain ⟨p, cap, rfl, hl⟩ := hb.slice
  refine enter (G := G) Try.func16 rfl Try.ntmps16 rfl ?_
  refine wgo ?_
  refine Cd.loop (σ := Nat) (fun k => [(0, .slice p xs.length cap), (1, .int .i64 m), (5, .int .i64 k)]) (fun k wr => k ≤ xs.length ∧ (∀ j, j < k → ix xs j ≠ m) ∧ w = wr) (fun k => xs.length - k) 0 wsub ⟨Nat.zero_le _, by omega, rfl⟩ ?_
  rintro k wr ⟨hk, hn, rfl⟩
  by_cases hlt : k < xs.length
  · obtain ⟨b, off, rfl, -, hI⟩ := hb.at hlt
    have hc := hI k hlt
    by_cases he : ix xs k = m
    · refine wgo ?_
      refine Fin.ret1 rfl rfl ⟨?_, rfl⟩
      rw [List.contains_iff_mem.2]
      rw [← he, ix_eq hlt]; exact List.getElem_mem hlt
    · refine wgo ?_
      refine Fin.next (k + 1) wsub ⟨by omega, fun j hj => ?_, rfl⟩ (by omega)
      by_cases h : j = k
      · subst h; exact he
      · exact hn j (by omega)
  · refine wgo ?_
    refine Fin.ret1 rfl rfl ⟨?_, rfl⟩
    have : xs.contains m = false := by
      rw [Bool.eq_false_iff, ne_eq, List.contains_iff_mem, List.mem_iff_getElem]
      rintro ⟨j, hj, e⟩
      exact hn j (by omega) (by rw [ix_eq hj]; exact e)
    rw [this]

theorem ref_Ints (xs ys : List Int) (v u : Value) (w : World) (hb : IntsR (fun _ => True) w v xs) (hc : IntsR (fun _ => True) w u ys) :
    Calls G.P 17 #[v, u] w fun e w' => e = .returned (.bool (decide (xs = ys))) ∧ ∃ q, w' = w.drewN q := by
  obtain ⟨p, cap, rfl, hl⟩ := hb.slice
  obtain ⟨p2, cap2, rfl, hl2⟩ := hc.slice
  refine enter (G := G) Try.func17 rfl Try.ntmps17 rfl ?_
  by_cases hlen : xs.length = ys.length
  · refine wgo ?_
    refine Cd.loop (σ := Nat) (fun k => [(0, .slice p xs.length cap), (1, .slice p2 ys.length cap2), (5, .int .i64 k)]) (fun k wr => k ≤ xs.length ∧ (∀ j, j < k → ix xs j = ix ys j) ∧ ∃ q, wr = w.drewN q) (fun k => xs.length - k) 0 wsub ⟨Nat.zero_le _, by omega, 0, rfl⟩ ?_
    rintro k wr ⟨hk, hn, q, rfl⟩
    by_cases hlt : k < xs.length
    · obtain ⟨b, off, rfl, -, hI⟩ := hb.at hlt
      obtain ⟨b2, off2, rfl, -, hI2⟩ := hc.at (i := k) (by omega)
      have hx := hI k hlt
      have hy := hI2 k (by omega)
      by_cases he : ix xs k = ix ys k
      · refine wgo ?_
        refine Ops.nilQ ?_
        rintro _ ⟨q2, rfl⟩
        refine wgo ?_
        refine Fin.next (k + 1) wsub ⟨by omega, fun j hj => ?_, _, rfl⟩ (by omega)
        by_cases h : j = k
        · subst h; exact he
        · exact hn j (by omega)
      · refine wgo ?_
        refine Ops.nilQ ?_
        rintro _ ⟨q2, rfl⟩
        refine wgo ?_
        refine Fin.ret1 rfl rfl ⟨?_, _, rfl⟩
        have : xs ≠ ys := fun e => he (by rw [e])
        simp [this]
    · refine wgo ?_
      refine Fin.ret1 rfl rfl ⟨?_, _, rfl⟩
      have : xs = ys := List.ext_getElem hlen (fun i h1 h2 => by rw [← ix_eq h1, ← ix_eq h2]; exact hn i (by omega))
      simp [this]
  · refine wgo ?_
    refine Fin.ret1 rfl rfl ⟨?_, 0, rfl⟩
    have : xs ≠ ys := fun e => hlen (by rw [e])
    simp [this]
end Go.Proofs.Ytfeakkicihlplaa
