/- Walks of the reference of layer 9: elsed, Check, none, Ends, Elses, Target. -/
import Derived.Test.YtfeakkicihlplaaR2
namespace Go.Proofs.Ytfeakkicihlplaa
open Go.RowKit

/-- the last number -/
def lastI (l : List Int) : Int := ix l (l.length - 1)

theorem stepR_mem {l : List Int} {i op a : Int} (h : a ∈ stepR l i op) : a ∈ l ∨ a = i := by
  have h1 : a ∈ (if opensB op then l ++ [i] else l) := by
    unfold stepR at h
    dsimp only at h
    by_cases hc : op = 11 ∧ 0 < (if opensB op then l ++ [i] else l).length
    · rw [if_pos hc] at h; exact (List.dropLast_sublist _).subset h
    · rw [if_neg hc] at h; exact h
  split at h1
  · simpa using h1
  · exact .inl h1
theorem roundR_mem {xs : List Ins} {k : Nat} {a : Int} (h : a ∈ roundR xs k) : -1 ≤ a ∧ a < k := by
  induction k with
  | zero => simp [roundR] at h; omega
  | succ k ih =>
    rcases stepR_mem h with h | h
    · have := ih h; omega
    · omega
theorem lastI_mem {l : List Int} (h : 0 < l.length) : lastI l ∈ l := by
  unfold lastI; rw [ix_eq (by omega)]; exact List.getElem_mem _
theorem lastR {xs : List Ins} {k : Nat} (h : 0 < (roundR xs k).length) : -1 ≤ lastI (roundR xs k) ∧ lastI (roundR xs k) < k := roundR_mem (lastI_mem h)

/-- an else of the block that h opened stands at i -/
def elseAt (xs : List Ins) (h : Nat) (i : Nat) : Bool := decide (h < i ∧ (ix xs i).op = 5 ∧ 0 < (roundR xs i).length ∧ lastI (roundR xs i) = h)
def elsedR (xs : List Ins) (h at_ : Nat) : Bool := (List.range at_).any (elseAt xs h)

theorem elsedR_false {xs : List Ins} {h at_ : Nat} (hn : ∀ i, i < at_ → elseAt xs h i = false) : elsedR xs h at_ = false := by
  unfold elsedR
  rw [List.any_eq_false]
  intro i hi
  rw [hn i (List.mem_range.1 hi)]; simp
theorem elsedR_true {xs : List Ins} {h at_ i : Nat} (hi : i < at_) (hn : elseAt xs h i = true) : elsedR xs h at_ = true := by
  unfold elsedR
  rw [List.any_eq_true]
  exact ⟨i, List.mem_range.2 hi, hn⟩

theorem ref09_elsed (xs : List Ins) (v : Value) (h at_ : Nat) (w : World) (hh : h < xs.length) (hat : at_ ≤ xs.length) (hb : Body w v xs) :
    Calls G.P 50 #[v, .int .i64 h, .int .i64 at_] w fun e w' => e = .returned (.bool (elsedR xs h at_)) ∧ Ext w w' := by
  obtain ⟨p, cap, rfl, hl⟩ := hb.slice
  refine enter (G := G) Try.func50 rfl Try.ntmps50 rfl ?_
  refine wgo ?_
  refine Cd.loop (σ := Nat) (fun k => [(0, .slice p xs.length cap), (1, .int .i64 h), (2, .int .i64 at_), (7, .int .i64 k)]) (fun k wr => h < k ∧ k ≤ xs.length ∧ (∀ i, i < k → elseAt xs h i = false) ∧ Ext w wr) (fun k => at_ - k) (h + 1) wsub
    ⟨by omega, by omega, fun i hi => by simp [elseAt]; omega, Chg.refl _ _⟩ ?_
  rintro k wr ⟨hk, hk2, hn, hext⟩
  by_cases hlt : k < at_
  · refine wgo ?_
    refine Ops.call rfl rfl rfl (ref09_round xs _ k wr (by omega) (hb.ext hext)) ?_
    rintro _ w1 ⟨r, rfl, hown, hext1⟩
    refine ⟨_, rfl, ?_⟩
    have hx1 : Ext w w1 := hext.trans hext1
    obtain ⟨b, off, rfl, -, hI⟩ := hb.at (i := k) (by omega)
    have hop := hx1.cell (hI k (by omega)).op
    obtain ⟨pr, cr, rfl, hcr, hcm, hg⟩ := own_slice hown
    have hnext : elseAt xs h k = false → ∀ i, i < k + 1 → elseAt xs h i = false := fun hf i hi => by
      by_cases e : i = k
      · subst e; exact hf
      · exact hn i (by omega)
    have hlen := roundR_len xs k
    by_cases h5 : (ix xs k).op = 5
    · by_cases hz : 0 < (roundR xs k).length
      · obtain ⟨g, rfl, hg1, hg2⟩ := hg hz
        have hc := hown.get (i := (roundR xs k).length - 1) (by omega)
        refine wgo ?_
        refine Ops.yg rfl (Yl.idx1 rfl rfl rfl rfl rfl (i := (roundR xs k).length - 1) (by omega) (by omega)) rfl ?_
        by_cases he : ix (roundR xs k) ((roundR xs k).length - 1) = h
        · refine wgo ?_
          refine Fin.ret1 rfl rfl ⟨?_, hx1⟩
          rw [elsedR_true hlt (by simp [elseAt, hk, h5, hz, lastI, he])]
        · refine wgo ?_
          refine Fin.next (k + 1) wsub ⟨by omega, by omega, hnext ?_, hx1⟩ (by omega)
          simp [elseAt, lastI, he]
      · refine wgo ?_
        refine Fin.next (k + 1) wsub ⟨by omega, by omega, hnext ?_, hx1⟩ (by omega)
        simp only [elseAt, decide_eq_false_iff_not]; omega
    · refine wgo ?_
      refine Fin.next (k + 1) wsub ⟨by omega, by omega, hnext ?_, hx1⟩ (by omega)
      simp [elseAt, h5]
  · refine wgo ?_
    refine Fin.ret1 rfl rfl ⟨?_, hext⟩
    rw [elsedR_false (fun i hi => hn i (by omega))]

/-- the error that the instruction at i gives -/
def checkAt (xs : List Ins) (i : Nat) : Option (Int × Int) :=
  let l := roundR xs i
  let h := lastI l
  if l.length = 0 then some (i, 16)
  else if (ix xs i).op = 5 ∧ (h < 0 ∨ (ix xs h.toNat).op ≠ 4 ∨ elsedR xs h.toNat i = true) then some (i, 16)
  else if opensB (ix xs i).op = true ∧ 32 ≤ l.length then some (i, 6)
  else none
def checkFrom (xs : List Ins) : Nat → Nat → Int × Int
  | 0, i => if 0 < (roundR xs i).length then (i, 3) else (0, 0)
  | f + 1, i => match checkAt xs i with
    | some r => r
    | none => checkFrom xs f (i + 1)
def checkR (xs : List Ins) : Int × Int := checkFrom xs xs.length 0

theorem ref09_Check (xs : List Ins) (v : Value) (w : World) (hb : Body w v xs) :
    Calls G.P 32 #[v] w fun e w' => e = .returned (.tuple #[.int .i64 (checkR xs).1, .int .i64 (checkR xs).2]) ∧ Ext w w' := by
  obtain ⟨p, cap, rfl, hl⟩ := hb.slice
  refine enter (G := G) Try.func32 rfl Try.ntmps32 rfl ?_
  refine wgo ?_
  refine Cd.loop (σ := Nat) (fun k => [(0, .slice p xs.length cap), (4, .int .i64 k)]) (fun k wr => k ≤ xs.length ∧ checkR xs = checkFrom xs (xs.length - k) k ∧ Ext w wr) (fun k => xs.length - k) 0 wsub
    ⟨Nat.zero_le _, rfl, Chg.refl _ _⟩ ?_
  rintro k wr ⟨hk, hn, hext⟩
  by_cases hlt : k < xs.length
  · rw [show xs.length - k = (xs.length - (k + 1)) + 1 by omega, checkFrom] at hn
    refine wgo ?_
    refine Ops.call rfl rfl rfl (ref09_round xs _ k wr (by omega) (hb.ext hext)) ?_
    rintro _ w1 ⟨r, rfl, hown, hext1⟩
    refine ⟨_, rfl, ?_⟩
    have hx1 : Ext w w1 := hext.trans hext1
    obtain ⟨b, off, rfl, -, hI⟩ := hb.at hlt
    have hop := hx1.cell (hI k hlt).op
    obtain ⟨pr, cr, rfl, hcr, hcm, hg⟩ := own_slice hown
    have hlen := roundR_len xs k
    by_cases hz : 0 < (roundR xs k).length
    · obtain ⟨g, rfl, hg1, hg2⟩ := hg hz
      have hc := hown.get (i := (roundR xs k).length - 1) (by omega)
      have hlast := lastR hz
      unfold lastI at hlast
      refine wgo ?_
      refine Ops.y (Yl.idx1 rfl rfl rfl rfl rfl (i := (roundR xs k).length - 1) (by omega) (by omega)) rfl ?_
      have hz' : (roundR xs k).length ≠ 0 := by omega
      have hck : checkAt xs k = if (ix xs k).op = 5 ∧ (ix (roundR xs k) ((roundR xs k).length - 1) < 0 ∨ (ix xs (ix (roundR xs k) ((roundR xs k).length - 1)).toNat).op ≠ 4 ∨ elsedR xs (ix (roundR xs k) ((roundR xs k).length - 1)).toNat k = true) then some ((k : Int), 16)
          else if opensB (ix xs k).op = true ∧ 32 ≤ (roundR xs k).length then some ((k : Int), 6) else none := by
        unfold checkAt; dsimp only; rw [if_neg hz']; rfl
      generalize ix (roundR xs k) ((roundR xs k).length - 1) = hd at *
      by_cases h5 : (ix xs k).op = 5
      · have ho : opensB (ix xs k).op = false := by rw [h5]; rfl
        by_cases hneg : hd < 0
        · rw [if_pos ⟨h5, .inl hneg⟩] at hck
          rw [hck] at hn
          refine wgo ?_
          exact Fin.ret2 rfl rfl rfl ⟨by rw [hn], hx1⟩
        · obtain ⟨h, rfl⟩ := Int.eq_ofNat_of_zero_le (Int.not_lt.1 hneg)
          simp only [Int.toNat_natCast] at hck
          have hoph := hx1.cell (hI h (by omega)).op
          by_cases h4 : (ix xs h).op = 4
          · refine wgo ?_
            refine Ops.callg rfl rfl rfl rfl (ref09_elsed xs _ h k w1 (by omega) (by omega) (hb.ext hx1)) ?_
            rintro _ w2 ⟨rfl, hext2⟩
            refine ⟨_, rfl, ?_⟩
            have hx2 : Ext w w2 := hx1.trans hext2
            have hop2 := hx2.cell (hI k hlt).op
            cases hel : elsedR xs h k with
            | true =>
              rw [if_pos ⟨h5, .inr (.inr hel)⟩] at hck
              rw [hck] at hn
              refine wgo ?_
              exact Fin.ret2 rfl rfl rfl ⟨by rw [hn], hx2⟩
            | false =>
              rw [if_neg (by simp [h4, hel]), if_neg (by simp [ho])] at hck
              rw [hck] at hn
              refine wgo ?_
              refine Ops.call rfl rfl rfl (ref09_begins _ _) ?_
              rintro _ _ ⟨rfl, rfl⟩
              refine ⟨_, rfl, ?_⟩
              rw [ho]
              refine wgo ?_
              exact Fin.next (k + 1) wsub ⟨by omega, hn, hx2⟩ (by omega)
          · rw [if_pos ⟨h5, .inr (.inl h4)⟩] at hck
            rw [hck] at hn
            refine wgo ?_
            exact Fin.ret2 rfl rfl rfl ⟨by rw [hn], hx1⟩
      · rw [if_neg (by simp [h5])] at hck
        refine wgo ?_
        refine Ops.call rfl rfl rfl (ref09_begins _ _) ?_
        rintro _ _ ⟨rfl, rfl⟩
        refine ⟨_, rfl, ?_⟩
        cases ho : opensB (ix xs k).op with
        | true =>
          by_cases h32 : 32 ≤ (roundR xs k).length
          · rw [if_pos ⟨ho, h32⟩] at hck
            rw [hck] at hn
            refine wgo ?_
            exact Fin.ret2 rfl rfl rfl ⟨by rw [hn], hx1⟩
          · rw [if_neg (by simp [h32])] at hck
            rw [hck] at hn
            refine wgo ?_
            exact Fin.next (k + 1) wsub ⟨by omega, hn, hx1⟩ (by omega)
        | false =>
          rw [if_neg (by simp [ho])] at hck
          rw [hck] at hn
          refine wgo ?_
          exact Fin.next (k + 1) wsub ⟨by omega, hn, hx1⟩ (by omega)
    · have hz' : (roundR xs k).length = 0 := by omega
      have hck : checkAt xs k = some ((k : Int), 16) := by simp only [checkAt, hz', if_true]
      rw [hck] at hn
      refine wgo ?_
      exact Fin.ret2 rfl rfl rfl ⟨by rw [hn], hx1⟩
  · obtain rfl : k = xs.length := by omega
    rw [show xs.length - xs.length = 0 by omega, checkFrom] at hn
    refine wgo ?_
    refine Ops.call rfl rfl rfl (ref09_round xs _ xs.length wr (by omega) (hb.ext hext)) ?_
    rintro _ w1 ⟨r, rfl, hown, hext1⟩
    refine ⟨_, rfl, ?_⟩
    have hx1 : Ext w w1 := hext.trans hext1
    obtain ⟨pr, cr, rfl, hcr, hcm, hg⟩ := own_slice hown
    by_cases hz : 0 < (roundR xs xs.length).length
    · rw [if_pos hz] at hn
      refine wgo ?_
      exact Fin.ret2 rfl rfl rfl ⟨by rw [hn], hx1⟩
    · rw [if_neg hz] at hn
      refine wgo ?_
      exact Fin.ret2 rfl rfl rfl ⟨by rw [hn], hx1⟩
end Go.Proofs.Ytfeakkicihlplaa
