/- Walk of the reference of layer 9: the blocks round a place. -/
import Derived.Test.YtfeakkicihlplaaD
import Derived.Test.YtfeakkicihlplaaR1
namespace Go.Proofs.Ytfeakkicihlplaa
open Go.RowKit

/-- one step of the stack of open blocks: instruction i with opcode op -/
def stepR (l : List Int) (i : Int) (op : Int) : List Int :=
  let l1 := if opensB op then l ++ [i] else l
  if op = 11 ∧ 0 < l1.length then l1.dropLast else l1

def roundR (xs : List Ins) : Nat → List Int
  | 0 => [-1]
  | k + 1 => stepR (roundR xs k) k (ix xs k).op

theorem stepR_len (l : List Int) (i op : Int) : (stepR l i op).length ≤ l.length + 1 := by
  unfold stepR
  dsimp only
  split <;> split <;> simp <;> omega
theorem roundR_len (xs : List Ins) (k : Nat) : (roundR xs k).length ≤ k + 1 := by
  induction k with
  | zero => simp [roundR]
  | succ k ih => have := stepR_len (roundR xs k) k (ix xs k).op; simp only [roundR]; omega

theorem ref09_round (xs : List Ins) (v : Value) (at_ : Nat) (w : World) (hat : at_ ≤ xs.length) (hb : Body w v xs) :
    Calls G.P 49 #[v, .int .i64 at_] w fun e w' => ∃ r, e = .returned r ∧ OwnI w.heap.size w' r (roundR xs at_) ∧ Ext w w' := by
  obtain ⟨p, cap, rfl, hl⟩ := hb.slice
  refine enter (G := G) Try.func49 rfl Try.ntmps49 rfl ?_
  refine wgo ?_
  refine Ops.e (Eff.buildSlice (cs := [.int .i64 (-1)]) (e := 3) rfl (by kernel_rfl)) rfl ?_
  rintro _ w1 ⟨rfl, hn1⟩
  refine wgo ?_
  refine Cd.loop (σ := Nat × Value) (fun s => [(0, .slice p xs.length cap), (1, .int .i64 at_), (5, s.2), (6, .int .i64 s.1)]) (fun s wr => s.1 ≤ at_ ∧ OwnI w.heap.size wr s.2 (roundR xs s.1) ∧ Ext w wr) (fun s => at_ - s.1) (0, _) wsub
    ⟨Nat.zero_le _, OwnI.ofNew hn1 (xs := [-1]) rfl (Nat.le_refl _) (by decide), hn1.ext⟩ ?_
  rintro ⟨k, l⟩ wr ⟨hk, hown, hext⟩
  dsimp only at hk hown hext ⊢
  have hlen := roundR_len xs k
  obtain ⟨pl, cl, rfl, hcl, hcm, hg⟩ := own_slice hown
  by_cases hlt : k < at_
  · obtain ⟨b, off, rfl, -, hI⟩ := hb.at (i := k) (by omega)
    have hop := hext.cell (hI k (by omega)).op
    refine wgo ?_
    refine Ops.call rfl rfl rfl (ref09_begins _ _) ?_
    rintro _ _ ⟨rfl, rfl⟩
    refine ⟨_, rfl, ?_⟩
    have hR : roundR xs (k + 1) = stepR (roundR xs k) k (ix xs k).op := rfl
    cases ho : opensB (ix xs k).op
    · by_cases h11 : (ix xs k).op = 11
      · by_cases hz : 0 < (roundR xs k).length
        · refine wgo ?_
          obtain ⟨g, rfl, hg1, hg2⟩ := hg hz
          refine Ops.y (Yl.sliceHi rfl rfl rfl rfl rfl (i := (roundR xs k).length - 1) (by omega) (by omega)) rfl ?_
          refine wgo ?_
          have hR' : roundR xs (k + 1) = (roundR xs k).dropLast := by rw [hR, stepR, ho]; simp [h11, hz]
          refine Fin.next (k + 1, _) wsub ⟨by omega, ?_, hext⟩ (by omega)
          dsimp only
          rw [hR']
          refine OwnI.pop ?_ (by omega)
          rw [show (roundR xs k).length - 1 + 1 = (roundR xs k).length by omega]
          exact hown
        · refine wgo ?_
          have hR' : roundR xs (k + 1) = roundR xs k := by rw [hR, stepR, ho]; simp; intro _ h; simp [h] at hz
          refine Fin.next (k + 1, _) wsub ⟨by omega, by rw [hR']; exact hown, hext⟩ (by omega)
      · refine wgo ?_
        have hR' : roundR xs (k + 1) = roundR xs k := by rw [hR, stepR, ho]; simp [h11]
        refine Fin.next (k + 1, _) wsub ⟨by omega, by rw [hR']; exact hown, hext⟩ (by omega)
    · refine wgo ?_
      refine Ops.e (Eff.buildSlice (cs := [.int .i64 k]) (e := 3) rfl (by kernel_rfl)) rfl ?_
      rintro _ w2 ⟨rfl, hn2⟩
      refine Ops.e (Eff.appI rfl rfl (hown.ext hn2.ext) (by have := hext.size; have := hn2.size; omega) (hn2.blk.cell rfl) (by omega)) rfl ?_
      rintro v3 w3 ⟨hown3, hc3⟩
      have hext3 : Ext w w3 := (hext.trans hn2.ext).trans' hc3 (fun i hi h => by have := (hown.lt i h).1; omega)
      obtain ⟨p3, cl3, rfl, hcl3, hcm3, hg3⟩ := own_slice hown3
      have hop3 := hext3.cell (hI k (by omega)).op
      have h11 : (ix xs k).op ≠ 11 := by simp [opensB] at ho; omega
      refine wgo ?_
      have hR' : roundR xs (k + 1) = roundR xs k ++ [(k : Int)] := by rw [hR, stepR, ho]; simp [h11]
      refine Fin.next (k + 1, _) wsub ⟨by omega, by rw [hR']; exact hown3, hext3⟩ (by omega)
  · refine wgo ?_
    obtain rfl : k = at_ := by omega
    exact Fin.ret1 rfl rfl ⟨_, rfl, hown, hext⟩
end Go.Proofs.Ytfeakkicihlplaa
