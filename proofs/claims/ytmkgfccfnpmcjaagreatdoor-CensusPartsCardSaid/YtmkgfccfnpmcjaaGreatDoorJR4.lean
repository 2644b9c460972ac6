/- Walk of the reference of layer 9: which opcodes open a block. -/
import Derived.Test.YtmkgfccfnpmcjaaGreatDoorJG
import Derived.Test.YtmkgfccfnpmcjaaGreatDoorJE
namespace Go.Proofs.YtmkgfccfnpmcjaaGreatDoor
open Go.RowKit

def opensB (op : Int) : Bool := op == 2 || op == 3 || op == 4

theorem ref09_begins (op : Int) (w : World) : Calls G.P 107 #[.int .i64 op] w fun e w' => e = .returned (.bool (opensB op)) ∧ w = w' := by
  by_cases h1 : op = 2
  · refine enter (G := G) Tryz.func107 rfl Tryz.ntmps107 rfl ?_
    refine wgo ?_
    refine Fin.ret1 rfl rfl ⟨?_, rfl⟩
    simp [opensB, h1]
  · by_cases h2 : op = 3
    · refine enter (G := G) Tryz.func107 rfl Tryz.ntmps107 rfl ?_
      refine wgo ?_
      refine Fin.ret1 rfl rfl ⟨?_, rfl⟩
      simp [opensB, h2]
    · by_cases h3 : op = 4
      all_goals
        refine enter (G := G) Tryz.func107 rfl Tryz.ntmps107 rfl ?_
        refine wgo ?_
        refine Fin.ret1 rfl rfl ⟨?_, rfl⟩
        simp [opensB, h1, h2, h3]
end Go.Proofs.YtmkgfccfnpmcjaaGreatDoor
/- Walk of the reference of layer 9: the blocks round a place. -/
namespace Go.Proofs.YtmkgfccfnpmcjaaGreatDoor
open Go.RowKit

/-- one step of the stack of open blocks: instruction i with opcode op -/
def stepR (l : List Int) (i : Int) (op : Int) : List Int :=
  let l1 := if opensB op then l ++ [i] else l
  if op = 11 ∧ 0 < l1.length then l1.dropLast else l1

def roundR (xs : List Ins) : Nat → List Int
  | 0 => [-1]
  | k + 1 => stepR (roundR xs k) k (ix xs k).op

theorem stepR_len (l : List Int) (i op : Int) : (stepR l i op).length ≤ l.length + 1 := by
  unfold stepR
  dsimp only
  split <;> split <;> simp <;> omega
theorem roundR_len (xs : List Ins) (k : Nat) : (roundR xs k).length ≤ k + 1 := by
  induction k with
  | zero => simp [roundR]
  | succ k ih => have := stepR_len (roundR xs k) k (ix xs k).op; simp only [roundR]; omega

theorem ref09_round (xs : List Ins) (v : Value) (at_ : Nat) (w : World) (hat : at_ ≤ xs.length) (hb : Body w v xs) :
    Calls G.P 105 #[v, .int .i64 at_] w fun e w' => ∃ r, e = .returned r ∧ OwnI w.heap.size w' r (roundR xs at_) ∧ Ext w w' := by
  obtain ⟨p, cap, rfl, hl⟩ := hb.slice
  refine enter (G := G) Tryz.func105 rfl Tryz.ntmps105 rfl ?_
  refine wgo ?_
  refine Ops.e (Eff.buildSlice (cs := [.int .i64 (-1)]) (e := 3) rfl (by kernel_rfl)) rfl ?_
  rintro _ w1 ⟨rfl, hn1⟩
  refine wgo ?_
  refine Cd.loop (σ := Nat × Value) (fun s => [(0, .slice p xs.length cap), (1, .int .i64 at_), (5, s.2), (6, .int .i64 s.1)]) (fun s wr => s.1 ≤ at_ ∧ OwnI w.heap.size wr s.2 (roundR xs s.1) ∧ Ext w wr) (fun s => at_ - s.1) (0, _) wsub
    ⟨Nat.zero_le _, OwnI.ofNew hn1 (xs := [-1]) rfl (Nat.le_refl _) (by decide), hn1.ext⟩ ?_
  rintro ⟨k, l⟩ wr ⟨hk, hown, hext⟩
  dsimp only at hk hown hext ⊢
  have hlen := roundR_len xs k
  obtain ⟨pl, cl, rfl, hcl, hcm, hg⟩ := own_slice hown
  by_cases hlt : k < at_
  · obtain ⟨b, off, rfl, -, hI⟩ := hb.at (i := k) (by omega)
    have hop := hext.cell (hI k (by omega)).op
    refine wgo ?_
    refine Ops.call rfl rfl rfl (ref09_begins _ _) ?_
    rintro _ _ ⟨rfl, rfl⟩
    refine ⟨_, rfl, ?_⟩
    have hR : roundR xs (k + 1) = stepR (roundR xs k) k (ix xs k).op := rfl
    cases ho : opensB (ix xs k).op
    · by_cases h11 : (ix xs k).op = 11
      · by_cases hz : 0 < (roundR xs k).length
        · refine wgo ?_
          obtain ⟨g, rfl, hg1, hg2⟩ := hg hz
          refine Ops.y (Yl.sliceHi rfl rfl rfl rfl rfl (i := (roundR xs k).length - 1) (by omega) (by omega)) rfl ?_
          refine wgo ?_
          have hR' : roundR xs (k + 1) = (roundR xs k).dropLast := by rw [hR, stepR, ho]; simp [h11, hz]
          refine Fin.next (k + 1, _) wsub ⟨by omega, ?_, hext⟩ (by omega)
          dsimp only
          rw [hR']
          refine OwnI.pop ?_ (by omega)
          rw [show (roundR xs k).length - 1 + 1 = (roundR xs k).length by omega]
          exact hown
        · refine wgo ?_
          have hR' : roundR xs (k + 1) = roundR xs k := by rw [hR, stepR, ho]; simp; intro _ h; simp [h] at hz
          refine Fin.next (k + 1, _) wsub ⟨by omega, by rw [hR']; exact hown, hext⟩ (by omega)
      · refine wgo ?_
        have hR' : roundR xs (k + 1) = roundR xs k := by rw [hR, stepR, ho]; simp [h11]
        refine Fin.next (k + 1, _) wsub ⟨by omega, by rw [hR']; exact hown, hext⟩ (by omega)
    · refine wgo ?_
      refine Ops.e (Eff.buildSlice (cs := [.int .i64 k]) (e := 3) rfl (by kernel_rfl)) rfl ?_
      rintro _ w2 ⟨rfl, hn2⟩
      refine Ops.e (Eff.appI rfl rfl (hown.ext hn2.ext) (by have := hext.size; have := hn2.size; omega) (hn2.blk.cell rfl) (by omega)) rfl ?_
      rintro v3 w3 ⟨hown3, hc3⟩
      have hext3 : Ext w w3 := (hext.trans hn2.ext).trans' hc3 (fun i hi h => by have := (hown.lt i h).1; omega)
      obtain ⟨p3, cl3, rfl, hcl3, hcm3, hg3⟩ := own_slice hown3
      have hop3 := hext3.cell (hI k (by omega)).op
      have h11 : (ix xs k).op ≠ 11 := by simp [opensB] at ho; omega
      refine wgo ?_
      have hR' : roundR xs (k + 1) = roundR xs k ++ [(k : Int)] := by rw [hR, stepR, ho]; simp [h11]
      refine Fin.next (k + 1, _) wsub ⟨by omega, by rw [hR']; exact hown3, hext3⟩ (by omega)
  · refine wgo ?_
    obtain rfl : k = at_ := by omega
    exact Fin.ret1 rfl rfl ⟨_, rfl, hown, hext⟩
end Go.Proofs.YtmkgfccfnpmcjaaGreatDoor
/- Walks of the reference of layer 9: elsed, Check, none, Ends, Elses, Target. -/
namespace Go.Proofs.YtmkgfccfnpmcjaaGreatDoor
open Go.RowKit

/-- the last number -/
def lastI (l : List Int) : Int := ix l (l.length - 1)

theorem stepR_mem {l : List Int} {i op a : Int} (h : a ∈ stepR l i op) : a ∈ l ∨ a = i := by
  have h1 : a ∈ (if opensB op then l ++ [i] else l) := by
    unfold stepR at h
    dsimp only at h
    by_cases hc : op = 11 ∧ 0 < (if opensB op then l ++ [i] else l).length
    · rw [if_pos hc] at h; exact (List.dropLast_sublist _).subset h
    · rw [if_neg hc] at h; exact h
  split at h1
  · simpa using h1
  · exact .inl h1
theorem roundR_mem {xs : List Ins} {k : Nat} {a : Int} (h : a ∈ roundR xs k) : -1 ≤ a ∧ a < k := by
  induction k with
  | zero => simp [roundR] at h; omega
  | succ k ih =>
    rcases stepR_mem h with h | h
    · have := ih h; omega
    · omega
theorem lastI_mem {l : List Int} (h : 0 < l.length) : lastI l ∈ l := by
  unfold lastI; rw [ix_eq (by omega)]; exact List.getElem_mem _
theorem lastR {xs : List Ins} {k : Nat} (h : 0 < (roundR xs k).length) : -1 ≤ lastI (roundR xs k) ∧ lastI (roundR xs k) < k := roundR_mem (lastI_mem h)

/-- an else of the block that h opened stands at i -/
def elseAt (xs : List Ins) (h : Nat) (i : Nat) : Bool := decide (h < i ∧ (ix xs i).op = 5 ∧ 0 < (roundR xs i).length ∧ lastI (roundR xs i) = h)
def elsedR (xs : List Ins) (h at_ : Nat) : Bool := (List.range at_).any (elseAt xs h)

theorem elsedR_false {xs : List Ins} {h at_ : Nat} (hn : ∀ i, i < at_ → elseAt xs h i = false) : elsedR xs h at_ = false := by
  unfold elsedR
  rw [List.any_eq_false]
  intro i hi
  rw [hn i (List.mem_range.1 hi)]; simp
theorem elsedR_true {xs : List Ins} {h at_ i : Nat} (hi : i < at_) (hn : elseAt xs h i = true) : elsedR xs h at_ = true := by
  unfold elsedR
  rw [List.any_eq_true]
  exact ⟨i, List.mem_range.2 hi, hn⟩

theorem ref09_elsed (xs : List Ins) (v : Value) (h at_ : Nat) (w : World) (hh : h < xs.length) (hat : at_ ≤ xs.length) (hb : Body w v xs) :
    Calls G.P 106 #[v, .int .i64 h, .int .i64 at_] w fun e w' => e = .returned (.bool (elsedR xs h at_)) ∧ Ext w w' := by
  obtain ⟨p, cap, rfl, hl⟩ := hb.slice
  refine enter (G := G) Tryz.func106 rfl Tryz.ntmps106 rfl ?_
  refine wgo ?_
  refine Cd.loop (σ := Nat) (fun k => [(0, .slice p xs.length cap), (1, .int .i64 h), (2, .int .i64 at_), (7, .int .i64 k)]) (fun k wr => h < k ∧ k ≤ xs.length ∧ (∀ i, i < k → elseAt xs h i = false) ∧ Ext w wr) (fun k => at_ - k) (h + 1) wsub
    ⟨by omega, by omega, fun i hi => by simp [elseAt]; omega, Chg.refl _ _⟩ ?_
  rintro k wr ⟨hk, hk2, hn, hext⟩
  by_cases hlt : k < at_
  · refine wgo ?_
    refine Ops.call rfl rfl rfl (ref09_round xs _ k wr (by omega) (hb.ext hext)) ?_
    rintro _ w1 ⟨r, rfl, hown, hext1⟩
    refine ⟨_, rfl, ?_⟩
    have hx1 : Ext w w1 := hext.trans hext1
    obtain ⟨b, off, rfl, -, hI⟩ := hb.at (i := k) (by omega)
    have hop := hx1.cell (hI k (by omega)).op
    obtain ⟨pr, cr, rfl, hcr, hcm, hg⟩ := own_slice hown
    have hnext : elseAt xs h k = false → ∀ i, i < k + 1 → elseAt xs h i = false := fun hf i hi => by
      by_cases e : i = k
      · subst e; exact hf
      · exact hn i (by omega)
    have hlen := roundR_len xs k
    by_cases h5 : (ix xs k).op = 5
    · by_cases hz : 0 < (roundR xs k).length
      · obtain ⟨g, rfl, hg1, hg2⟩ := hg hz
        have hc := hown.get (i := (roundR xs k).length - 1) (by omega)
        refine wgo ?_
        refine Ops.yg rfl (Yl.idx1 rfl rfl rfl rfl rfl (i := (roundR xs k).length - 1) (by omega) (by omega)) rfl ?_
        by_cases he : ix (roundR xs k) ((roundR xs k).length - 1) = h
        · refine wgo ?_
          refine Fin.ret1 rfl rfl ⟨?_, hx1⟩
          rw [elsedR_true hlt (by simp [elseAt, hk, h5, hz, lastI, he])]
        · refine wgo ?_
          refine Fin.next (k + 1) wsub ⟨by omega, by omega, hnext ?_, hx1⟩ (by omega)
          simp [elseAt, lastI, he]
      · refine wgo ?_
        refine Fin.next (k + 1) wsub ⟨by omega, by omega, hnext ?_, hx1⟩ (by omega)
        simp only [elseAt, decide_eq_false_iff_not]; omega
    · refine wgo ?_
      refine Fin.next (k + 1) wsub ⟨by omega, by omega, hnext ?_, hx1⟩ (by omega)
      simp [elseAt, h5]
  · refine wgo ?_
    refine Fin.ret1 rfl rfl ⟨?_, hext⟩
    rw [elsedR_false (fun i hi => hn i (by omega))]

/-- the error that the instruction at i gives -/
def checkAt (xs : List Ins) (i : Nat) : Option (Int × Int) :=
  let l := roundR xs i
  let h := lastI l
  if l.length = 0 then some (i, 16)
  else if (ix xs i).op = 5 ∧ (h < 0 ∨ (ix xs h.toNat).op ≠ 4 ∨ elsedR xs h.toNat i = true) then some (i, 16)
  else if opensB (ix xs i).op = true ∧ 32 ≤ l.length then some (i, 6)
  else none
def checkFrom (xs : List Ins) : Nat → Nat → Int × Int
  | 0, i => if 0 < (roundR xs i).length then (i, 3) else (0, 0)
  | f + 1, i => match checkAt xs i with
    | some r => r
    | none => checkFrom xs f (i + 1)
def checkR (xs : List Ins) : Int × Int := checkFrom xs xs.length 0

theorem ref09_Check (xs : List Ins) (v : Value) (w : World) (hb : Body w v xs) :
    Calls G.P 78 #[v] w fun e w' => e = .returned (.tuple #[.int .i64 (checkR xs).1, .int .i64 (checkR xs).2]) ∧ Ext w w' := by
  obtain ⟨p, cap, rfl, hl⟩ := hb.slice
  refine enter (G := G) Tryz.func78 rfl Tryz.ntmps78 rfl ?_
  refine wgo ?_
  refine Cd.loop (σ := Nat) (fun k => [(0, .slice p xs.length cap), (4, .int .i64 k)]) (fun k wr => k ≤ xs.length ∧ checkR xs = checkFrom xs (xs.length - k) k ∧ Ext w wr) (fun k => xs.length - k) 0 wsub
    ⟨Nat.zero_le _, rfl, Chg.refl _ _⟩ ?_
  rintro k wr ⟨hk, hn, hext⟩
  by_cases hlt : k < xs.length
  · rw [show xs.length - k = (xs.length - (k + 1)) + 1 by omega, checkFrom] at hn
    refine wgo ?_
    refine Ops.call rfl rfl rfl (ref09_round xs _ k wr (by omega) (hb.ext hext)) ?_
    rintro _ w1 ⟨r, rfl, hown, hext1⟩
    refine ⟨_, rfl, ?_⟩
    have hx1 : Ext w w1 := hext.trans hext1
    obtain ⟨b, off, rfl, -, hI⟩ := hb.at hlt
    have hop := hx1.cell (hI k hlt).op
    obtain ⟨pr, cr, rfl, hcr, hcm, hg⟩ := own_slice hown
    have hlen := roundR_len xs k
    by_cases hz : 0 < (roundR xs k).length
    · obtain ⟨g, rfl, hg1, hg2⟩ := hg hz
      have hc := hown.get (i := (roundR xs k).length - 1) (by omega)
      have hlast := lastR hz
      unfold lastI at hlast
      refine wgo ?_
      refine Ops.y (Yl.idx1 rfl rfl rfl rfl rfl (i := (roundR xs k).length - 1) (by omega) (by omega)) rfl ?_
      have hz' : (roundR xs k).length ≠ 0 := by omega
      have hck : checkAt xs k = if (ix xs k).op = 5 ∧ (ix (roundR xs k) ((roundR xs k).length - 1) < 0 ∨ (ix xs (ix (roundR xs k) ((roundR xs k).length - 1)).toNat).op ≠ 4 ∨ elsedR xs (ix (roundR xs k) ((roundR xs k).length - 1)).toNat k = true) then some ((k : Int), 16)
          else if opensB (ix xs k).op = true ∧ 32 ≤ (roundR xs k).length then some ((k : Int), 6) else none := by
        unfold checkAt; dsimp only; rw [if_neg hz']; rfl
      generalize ix (roundR xs k) ((roundR xs k).length - 1) = hd at *
      by_cases h5 : (ix xs k).op = 5
      · have ho : opensB (ix xs k).op = false := by rw [h5]; rfl
        by_cases hneg : hd < 0
        · rw [if_pos ⟨h5, .inl hneg⟩] at hck
          rw [hck] at hn
          refine wgo ?_
          exact Fin.ret2 rfl rfl rfl ⟨by rw [hn], hx1⟩
        · obtain ⟨h, rfl⟩ := Int.eq_ofNat_of_zero_le (Int.not_lt.1 hneg)
          simp only [Int.toNat_natCast] at hck
          have hoph := hx1.cell (hI h (by omega)).op
          by_cases h4 : (ix xs h).op = 4
          · refine wgo ?_
            refine Ops.callg rfl rfl rfl rfl (ref09_elsed xs _ h k w1 (by omega) (by omega) (hb.ext hx1)) ?_
            rintro _ w2 ⟨rfl, hext2⟩
            refine ⟨_, rfl, ?_⟩
            have hx2 : Ext w w2 := hx1.trans hext2
            have hop2 := hx2.cell (hI k hlt).op
            cases hel : elsedR xs h k with
            | true =>
              rw [if_pos ⟨h5, .inr (.inr hel)⟩] at hck
              rw [hck] at hn
              refine wgo ?_
              exact Fin.ret2 rfl rfl rfl ⟨by rw [hn], hx2⟩
            | false =>
              rw [if_neg (by simp [h4, hel]), if_neg (by simp [ho])] at hck
              rw [hck] at hn
              refine wgo ?_
              refine Ops.call rfl rfl rfl (ref09_begins _ _) ?_
              rintro _ _ ⟨rfl, rfl⟩
              refine ⟨_, rfl, ?_⟩
              rw [ho]
              refine wgo ?_
              exact Fin.next (k + 1) wsub ⟨by omega, hn, hx2⟩ (by omega)
          · rw [if_pos ⟨h5, .inr (.inl h4)⟩] at hck
            rw [hck] at hn
            refine wgo ?_
            exact Fin.ret2 rfl rfl rfl ⟨by rw [hn], hx1⟩
      · rw [if_neg (by simp [h5])] at hck
        refine wgo ?_
        refine Ops.call rfl rfl rfl (ref09_begins _ _) ?_
        rintro _ _ ⟨rfl, rfl⟩
        refine ⟨_, rfl, ?_⟩
        cases ho : opensB (ix xs k).op with
        | true =>
          by_cases h32 : 32 ≤ (roundR xs k).length
          · rw [if_pos ⟨ho, h32⟩] at hck
            rw [hck] at hn
            refine wgo ?_
            exact Fin.ret2 rfl rfl rfl ⟨by rw [hn], hx1⟩
          · rw [if_neg (by simp [h32])] at hck
            rw [hck] at hn
            refine wgo ?_
            exact Fin.next (k + 1) wsub ⟨by omega, hn, hx1⟩ (by omega)
        | false =>
          rw [if_neg (by simp [ho])] at hck
          rw [hck] at hn
          refine wgo ?_
          exact Fin.next (k + 1) wsub ⟨by omega, hn, hx1⟩ (by omega)
    · have hz' : (roundR xs k).length = 0 := by omega
      have hck : checkAt xs k = some ((k : Int), 16) := by simp only [checkAt, hz', if_true]
      rw [hck] at hn
      refine wgo ?_
      exact Fin.ret2 rfl rfl rfl ⟨by rw [hn], hx1⟩
  · obtain rfl : k = xs.length := by omega
    rw [show xs.length - xs.length = 0 by omega, checkFrom] at hn
    refine wgo ?_
    refine Ops.call rfl rfl rfl (ref09_round xs _ xs.length wr (by omega) (hb.ext hext)) ?_
    rintro _ w1 ⟨r, rfl, hown, hext1⟩
    refine ⟨_, rfl, ?_⟩
    have hx1 : Ext w w1 := hext.trans hext1
    obtain ⟨pr, cr, rfl, hcr, hcm, hg⟩ := own_slice hown
    by_cases hz : 0 < (roundR xs xs.length).length
    · rw [if_pos hz] at hn
      refine wgo ?_
      exact Fin.ret2 rfl rfl rfl ⟨by rw [hn], hx1⟩
    · rw [if_neg hz] at hn
      refine wgo ?_
      exact Fin.ret2 rfl rfl rfl ⟨by rw [hn], hx1⟩
end Go.Proofs.YtmkgfccfnpmcjaaGreatDoor
/- Walks of the reference of layer 9: none, Ends, Elses, Target. -/
namespace Go.Proofs.YtmkgfccfnpmcjaaGreatDoor
open Go.RowKit

theorem checkAt_len {xs : List Ins} {i : Nat} (h : checkAt xs i = none) : 0 < (roundR xs i).length := by
  unfold checkAt at h
  dsimp only at h
  by_cases h0 : (roundR xs i).length = 0
  · rw [if_pos h0] at h; cases h
  · omega
theorem checkAt_else {xs : List Ins} {i : Nat} (h : checkAt xs i = none) (h5 : (ix xs i).op = 5) : 0 ≤ lastI (roundR xs i) ∧ (ix xs (lastI (roundR xs i)).toNat).op = 4 ∧ elsedR xs (lastI (roundR xs i)).toNat i = false := by
  unfold checkAt at h
  dsimp only at h
  by_cases h0 : (roundR xs i).length = 0
  · rw [if_pos h0] at h; cases h
  · rw [if_neg h0] at h
    by_cases hc : (ix xs i).op = 5 ∧ (lastI (roundR xs i) < 0 ∨ (ix xs (lastI (roundR xs i)).toNat).op ≠ 4 ∨ elsedR xs (lastI (roundR xs i)).toNat i = true)
    · rw [if_pos hc] at h; cases h
    · refine ⟨?_, ?_, ?_⟩
      · by_cases h1 : lastI (roundR xs i) < 0
        · exact absurd ⟨h5, .inl h1⟩ hc
        · omega
      · by_cases h1 : (ix xs (lastI (roundR xs i)).toNat).op = 4
        · exact h1
        · exact absurd ⟨h5, .inr (.inl h1)⟩ hc
      · cases h1 : elsedR xs (lastI (roundR xs i)).toNat i with
        | false => rfl
        | true => exact absurd ⟨h5, .inr (.inr h1)⟩ hc
theorem checkAt_code {xs : List Ins} {i : Nat} {r : Int × Int} (h : checkAt xs i = some r) : r.1 = i ∧ (r.2 = 16 ∨ r.2 = 6) := by
  unfold checkAt at h
  dsimp only at h
  split at h
  · cases h; exact ⟨rfl, .inl rfl⟩
  · split at h
    · cases h; exact ⟨rfl, .inl rfl⟩
    · split at h
      · cases h; exact ⟨rfl, .inr rfl⟩
      · cases h
theorem checkFrom_ok (xs : List Ins) : ∀ (f i : Nat), (checkFrom xs f i).2 = 0 → (∀ j, i ≤ j → j < i + f → checkAt xs j = none) ∧ (roundR xs (i + f)).length = 0
  | 0, i, h => by
    unfold checkFrom at h
    by_cases hz : 0 < (roundR xs i).length
    · rw [if_pos hz] at h; simp at h
    · exact ⟨fun j h1 h2 => by omega, by rw [Nat.add_zero]; omega⟩
  | f + 1, i, h => by
    unfold checkFrom at h
    cases hc : checkAt xs i with
    | some r => rw [hc] at h; have := checkAt_code hc; simp only at h; omega
    | none =>
      rw [hc] at h
      obtain ⟨h1, h2⟩ := checkFrom_ok xs f (i + 1) h
      refine ⟨fun j hj1 hj2 => ?_, by rw [show i + (f + 1) = i + 1 + f by omega]; exact h2⟩
      by_cases e : j = i
      · subst e; exact hc
      · exact h1 j (by omega) (by omega)
theorem check_ok {xs : List Ins} (h : (checkR xs).2 = 0) : (∀ j, j < xs.length → checkAt xs j = none) ∧ (roundR xs xs.length).length = 0 := by
  obtain ⟨h1, h2⟩ := checkFrom_ok xs xs.length 0 h
  exact ⟨fun j hj => h1 j (by omega) (by omega), by simpa using h2⟩

theorem ref09_none (xs : List Ins) (v : Value) (w : World) (hb : Body w v xs) :
    Calls G.P 121 #[v] w fun e w' => ∃ r, e = .returned r ∧ OwnI w.heap.size w' r (List.replicate xs.length (-1)) ∧ Ext w w' := by
  obtain ⟨p, cap, rfl, hl⟩ := hb.slice
  refine enter (G := G) Tryz.func121 rfl Tryz.ntmps121 rfl ?_
  refine wgo ?_
  refine Cd.loop (σ := Nat × Value) (fun s => [(0, .slice p xs.length cap), (3, s.2), (4, .int .i64 s.1)]) (fun s wr => s.1 ≤ xs.length ∧ OwnI w.heap.size wr s.2 (List.replicate s.1 (-1)) ∧ Ext w wr) (fun s => xs.length - s.1) (0, _) wsub
    ⟨Nat.zero_le _, OwnI.nil _ _, Chg.refl _ _⟩ ?_
  rintro ⟨k, o⟩ wr ⟨hk, hown, hext⟩
  dsimp only at hk hown hext ⊢
  by_cases hlt : k < xs.length
  · refine wgo ?_
    refine Ops.e (Eff.buildSlice (cs := [.int .i64 (-1)]) (e := 3) rfl (by kernel_rfl)) rfl ?_
    rintro _ w2 ⟨rfl, hn2⟩
    refine Ops.e (Eff.appI rfl rfl (hown.ext hn2.ext) (by have := hext.size; have := hn2.size; omega) (hn2.blk.cell rfl) (by simp; omega)) rfl ?_
    rintro v3 w3 ⟨hown3, hc3⟩
    refine wgo ?_
    refine Fin.next (k + 1, _) wsub ⟨by omega, by rw [List.replicate_succ']; exact hown3, (hext.trans hn2.ext).trans' hc3 (fun i hi h => by have := (hown.lt i h).1; omega)⟩ (by dsimp only; omega)
  · refine wgo ?_
    obtain rfl : k = xs.length := by omega
    exact Fin.ret1 rfl rfl ⟨_, rfl, hown, hext⟩

def endsTo (xs : List Ins) : Nat → List Int
  | 0 => List.replicate xs.length (-1)
  | k + 1 => if (ix xs k).op = 11 ∧ 0 ≤ lastI (roundR xs k) then (endsTo xs k).set (lastI (roundR xs k)).toNat k else endsTo xs k
def elsesTo (xs : List Ins) : Nat → List Int
  | 0 => List.replicate xs.length (-1)
  | k + 1 => if (ix xs k).op = 5 then (elsesTo xs k).set (lastI (roundR xs k)).toNat k else elsesTo xs k
theorem endsTo_len (xs : List Ins) (k : Nat) : (endsTo xs k).length = xs.length := by
  induction k with
  | zero => simp [endsTo]
  | succ k ih => simp only [endsTo]; split <;> simp [ih]
theorem elsesTo_len (xs : List Ins) (k : Nat) : (elsesTo xs k).length = xs.length := by
  induction k with
  | zero => simp [elsesTo]
  | succ k ih => simp only [elsesTo]; split <;> simp [ih]
def endsR (xs : List Ins) : List Int := endsTo xs xs.length
def elsesR (xs : List Ins) : List Int := elsesTo xs xs.length

theorem ref09_Ends (xs : List Ins) (v : Value) (w : World) (hb : Body w v xs) (hok : (checkR xs).2 = 0) :
    Calls G.P 109 #[v] w fun e w' => ∃ r, e = .returned r ∧ OwnI w.heap.size w' r (endsR xs) ∧ Ext w w' := by
  obtain ⟨p, cap, rfl, hl⟩ := hb.slice
  obtain ⟨hall, -⟩ := check_ok hok
  refine enter (G := G) Tryz.func109 rfl Tryz.ntmps109 rfl ?_
  refine wgo ?_
  refine Ops.call rfl rfl rfl (ref09_Check xs _ w hb) ?_
  rintro _ w0 ⟨rfl, hx0⟩
  refine ⟨_, rfl, ?_⟩
  rw [hok]
  refine wgo ?_
  refine Ops.call rfl rfl rfl (ref09_none xs _ w0 (hb.ext hx0)) ?_
  rintro _ w1 ⟨o0, rfl, hown0, hx1⟩
  refine ⟨_, rfl, ?_⟩
  have hxw : Ext w w1 := hx0.trans hx1
  refine wgo ?_
  refine Cd.loop (σ := Nat × Value) (fun s => [(0, .slice p xs.length cap), (5, s.2), (6, .int .i64 s.1)]) (fun s wr => s.1 ≤ xs.length ∧ OwnI w.heap.size wr s.2 (endsTo xs s.1) ∧ Ext w wr) (fun s => xs.length - s.1) (0, _) wsub
    ⟨Nat.zero_le _, own_base hown0 (fun k hk => by have := (hown0.lt k hk).1; have := hx0.size; omega), hxw⟩ ?_
  rintro ⟨k, o⟩ wr ⟨hk, hown, hext⟩
  dsimp only at hk hown hext ⊢
  by_cases hlt : k < xs.length
  · have hck := hall k hlt
    have hz := checkAt_len hck
    have hlast := lastR hz
    have hlen := roundR_len xs k
    refine wgo ?_
    refine Ops.call rfl rfl rfl (ref09_round xs _ k wr (by omega) (hb.ext hext)) ?_
    rintro _ w2 ⟨r, rfl, hownr, hx2⟩
    refine ⟨_, rfl, ?_⟩
    have hext2 : Ext w w2 := hext.trans hx2
    have hown2 := hown.ext hx2
    obtain ⟨b, off, rfl, -, hI⟩ := hb.at hlt
    have hop := hext2.cell (hI k hlt).op
    obtain ⟨pr, cr, rfl, hcr, hcm, hg⟩ := own_slice hownr
    obtain ⟨g, rfl, hg1, hg2⟩ := hg hz
    have hc := hownr.get (i := (roundR xs k).length - 1) (by omega)
    refine wgo ?_
    refine Ops.y (Yl.idx1 rfl rfl rfl rfl rfl (i := (roundR xs k).length - 1) (by omega) (by omega)) rfl ?_
    have hE : endsTo xs (k + 1) = if (ix xs k).op = 11 ∧ 0 ≤ ix (roundR xs k) ((roundR xs k).length - 1) then (endsTo xs k).set (ix (roundR xs k) ((roundR xs k).length - 1)).toNat k else endsTo xs k := rfl
    unfold lastI at hlast
    generalize ix (roundR xs k) ((roundR xs k).length - 1) = hd at *
    by_cases h11 : (ix xs k).op = 11
    · by_cases hd0 : 0 ≤ hd
      · obtain ⟨h, rfl⟩ := Int.eq_ofNat_of_zero_le hd0
        rw [if_pos ⟨h11, hd0⟩, Int.toNat_natCast] at hE
        have hlo := endsTo_len xs k
        obtain ⟨po, co, rfl, hco, hcm2, hg3⟩ := own_slice hown2
        obtain ⟨g3, rfl, hg4, hg5⟩ := hg3 (by omega)
        refine wgo ?_
        refine Ops.e0 (Eff.store rfl rfl rfl rfl rfl (hown2.get (by omega)) (hown2.free _)) ?_
        rintro _ _ rfl
        obtain ⟨hs1, hs2⟩ := hown2.set h (k : Int)
        refine wgo ?_
        refine Fin.next (k + 1, _) wsub ⟨by omega, by rw [hE]; exact hs1, hext2.trans' hs2 (fun i hi e => by omega)⟩ (by dsimp only; omega)
      · rw [if_neg (by simp [hd0])] at hE
        refine wgo ?_
        exact Fin.next (k + 1, _) wsub ⟨by omega, by rw [hE]; exact hown2, hext2⟩ (by dsimp only; omega)
    · rw [if_neg (by simp [h11])] at hE
      refine wgo ?_
      exact Fin.next (k + 1, _) wsub ⟨by omega, by rw [hE]; exact hown2, hext2⟩ (by dsimp only; omega)
  · refine wgo ?_
    obtain rfl : k = xs.length := by omega
    exact Fin.ret1 rfl rfl ⟨_, rfl, hown, hext⟩

theorem ref09_Elses (xs : List Ins) (v : Value) (w : World) (hb : Body w v xs) (hok : (checkR xs).2 = 0) :
    Calls G.P 108 #[v] w fun e w' => ∃ r, e = .returned r ∧ OwnI w.heap.size w' r (elsesR xs) ∧ Ext w w' := by
  obtain ⟨p, cap, rfl, hl⟩ := hb.slice
  obtain ⟨hall, -⟩ := check_ok hok
  refine enter (G := G) Tryz.func108 rfl Tryz.ntmps108 rfl ?_
  refine wgo ?_
  refine Ops.call rfl rfl rfl (ref09_Check xs _ w hb) ?_
  rintro _ w0 ⟨rfl, hx0⟩
  refine ⟨_, rfl, ?_⟩
  rw [hok]
  refine wgo ?_
  refine Ops.call rfl rfl rfl (ref09_none xs _ w0 (hb.ext hx0)) ?_
  rintro _ w1 ⟨o0, rfl, hown0, hx1⟩
  refine ⟨_, rfl, ?_⟩
  have hxw : Ext w w1 := hx0.trans hx1
  refine wgo ?_
  refine Cd.loop (σ := Nat × Value) (fun s => [(0, .slice p xs.length cap), (5, s.2), (6, .int .i64 s.1)]) (fun s wr => s.1 ≤ xs.length ∧ OwnI w.heap.size wr s.2 (elsesTo xs s.1) ∧ Ext w wr) (fun s => xs.length - s.1) (0, _) wsub
    ⟨Nat.zero_le _, own_base hown0 (fun k hk => by have := (hown0.lt k hk).1; have := hx0.size; omega), hxw⟩ ?_
  rintro ⟨k, o⟩ wr ⟨hk, hown, hext⟩
  dsimp only at hk hown hext ⊢
  by_cases hlt : k < xs.length
  · have hck := hall k hlt
    have hz := checkAt_len hck
    have hlast := lastR hz
    have hlen := roundR_len xs k
    refine wgo ?_
    refine Ops.call rfl rfl rfl (ref09_round xs _ k wr (by omega) (hb.ext hext)) ?_
    rintro _ w2 ⟨r, rfl, hownr, hx2⟩
    refine ⟨_, rfl, ?_⟩
    have hext2 : Ext w w2 := hext.trans hx2
    have hown2 := hown.ext hx2
    obtain ⟨b, off, rfl, -, hI⟩ := hb.at hlt
    have hop := hext2.cell (hI k hlt).op
    obtain ⟨pr, cr, rfl, hcr, hcm, hg⟩ := own_slice hownr
    obtain ⟨g, rfl, hg1, hg2⟩ := hg hz
    have hc := hownr.get (i := (roundR xs k).length - 1) (by omega)
    have hE : elsesTo xs (k + 1) = if (ix xs k).op = 5 then (elsesTo xs k).set (ix (roundR xs k) ((roundR xs k).length - 1)).toNat k else elsesTo xs k := rfl
    by_cases h5 : (ix xs k).op = 5
    · have h0 := (checkAt_else hck h5).1
      unfold lastI at hlast h0
      refine wgo ?_
      refine Ops.y (Yl.idx1 rfl rfl rfl rfl rfl (i := (roundR xs k).length - 1) (by omega) (by omega)) rfl ?_
      generalize ix (roundR xs k) ((roundR xs k).length - 1) = hd at *
      obtain ⟨h, rfl⟩ := Int.eq_ofNat_of_zero_le h0
      rw [if_pos h5, Int.toNat_natCast] at hE
      have hlo := elsesTo_len xs k
      obtain ⟨po, co, rfl, hco, hcm2, hg3⟩ := own_slice hown2
      obtain ⟨g3, rfl, hg4, hg5⟩ := hg3 (by omega)
      refine wgo ?_
      refine Ops.e0 (Eff.store rfl rfl rfl rfl rfl (hown2.get (by omega)) (hown2.free _)) ?_
      rintro _ _ rfl
      obtain ⟨hs1, hs2⟩ := hown2.set h (k : Int)
      refine wgo ?_
      refine Fin.next (k + 1, _) wsub ⟨by omega, by rw [hE]; exact hs1, hext2.trans' hs2 (fun i hi e => by omega)⟩ (by dsimp only; omega)
    · rw [if_neg h5] at hE
      refine wgo ?_
      exact Fin.next (k + 1, _) wsub ⟨by omega, by rw [hE]; exact hown2, hext2⟩ (by dsimp only; omega)
  · refine wgo ?_
    obtain rfl : k = xs.length := by omega
    exact Fin.ret1 rfl rfl ⟨_, rfl, hown, hext⟩

/-- where a branch at place a with label l goes -/
def targetR (xs : List Ins) (a : Nat) (l : Int) : Option Int :=
  let r := roundR xs a
  if l < 0 ∨ (r.length : Int) ≤ l then none
  else
    let h := ix r (r.length - 1 - l.toNat)
    if h < 0 then some ((xs.length : Int) - 1)
    else if (ix xs h.toNat).op = 3 then some (h + 1)
    else some (ix (endsR xs) h.toNat)

theorem ref09_Target (xs : List Ins) (v : Value) (a : Nat) (l : Int) (w : World) (hb : Body w v xs) (hok : (checkR xs).2 = 0) (ha : a < xs.length) :
    Calls G.P 122 #[v, .int .i64 a, .int .i64 l] w fun e w' => e = .returned (.tuple #[.int .i64 ((targetR xs a l).getD 0), .bool (targetR xs a l).isSome]) ∧ Ext w w' := by
  obtain ⟨p, cap, rfl, hl⟩ := hb.slice
  refine enter (G := G) Tryz.func122 rfl Tryz.ntmps122 rfl ?_
  refine wgo ?_
  refine Ops.call rfl rfl rfl (ref09_Check xs _ w hb) ?_
  rintro _ w0 ⟨rfl, hx0⟩
  refine ⟨_, rfl, ?_⟩
  rw [hok]
  refine wgo ?_
  refine Ops.call rfl rfl rfl (ref09_round xs _ a w0 (by omega) (hb.ext hx0)) ?_
  rintro _ w2 ⟨r, rfl, hownr, hx2⟩
  refine ⟨_, rfl, ?_⟩
  have hx : Ext w w2 := hx0.trans hx2
  have hlen := roundR_len xs a
  obtain ⟨pr, cr, rfl, hcr, hcm, hg⟩ := own_slice hownr
  have hT : targetR xs a l = if l < 0 ∨ ((roundR xs a).length : Int) ≤ l then none else
      if ix (roundR xs a) ((roundR xs a).length - 1 - l.toNat) < 0 then some ((xs.length : Int) - 1)
      else if (ix xs (ix (roundR xs a) ((roundR xs a).length - 1 - l.toNat)).toNat).op = 3 then some (ix (roundR xs a) ((roundR xs a).length - 1 - l.toNat) + 1)
      else some (ix (endsR xs) (ix (roundR xs a) ((roundR xs a).length - 1 - l.toNat)).toNat) := rfl
  by_cases hneg : l < 0
  · rw [if_pos (.inl hneg)] at hT
    refine wgo ?_
    exact Fin.ret2 rfl rfl rfl ⟨by rw [hT]; rfl, hx⟩
  · by_cases hge : ((roundR xs a).length : Int) ≤ l
    · rw [if_pos (.inr hge)] at hT
      refine wgo ?_
      exact Fin.ret2 rfl rfl rfl ⟨by rw [hT]; rfl, hx⟩
    · rw [if_neg (by omega)] at hT
      obtain ⟨m, rfl⟩ := Int.eq_ofNat_of_zero_le (Int.not_lt.1 hneg)
      rw [Int.toNat_natCast] at hT
      obtain ⟨g, rfl, hg1, hg2⟩ := hg (by omega)
      have hc := hownr.get (i := (roundR xs a).length - 1 - m) (by omega)
      have hmem : ix (roundR xs a) ((roundR xs a).length - 1 - m) ∈ roundR xs a := by rw [ix_eq (by omega)]; exact List.getElem_mem _
      have hlast := roundR_mem hmem
      refine wgo ?_
      refine Ops.y (Yl.idx1 rfl rfl rfl rfl rfl (i := (roundR xs a).length - 1 - m) (by omega) (by omega)) rfl ?_
      generalize ix (roundR xs a) ((roundR xs a).length - 1 - m) = hd at *
      by_cases hd0 : hd < 0
      · rw [if_pos hd0] at hT
        refine wgo ?_
        exact Fin.ret2 rfl rfl rfl ⟨by rw [hT]; rfl, hx⟩
      · obtain ⟨h, rfl⟩ := Int.eq_ofNat_of_zero_le (Int.not_lt.1 hd0)
        rw [if_neg hd0, Int.toNat_natCast] at hT
        obtain ⟨b, off, rfl, -, hI⟩ := hb.at ha
        have hoph := hx.cell (hI h (by omega)).op
        by_cases h3 : (ix xs h).op = 3
        · rw [if_pos h3] at hT
          refine wgo ?_
          exact Fin.ret2 rfl rfl rfl ⟨by rw [hT]; rfl, hx⟩
        · rw [if_neg h3] at hT
          refine wgo ?_
          refine Ops.call rfl rfl rfl (ref09_Ends xs _ w2 (hb.ext hx) hok) ?_
          rintro _ w3 ⟨e, rfl, howne, hx3⟩
          refine ⟨_, rfl, ?_⟩
          have hle : (endsR xs).length = xs.length := endsTo_len xs _
          obtain ⟨pe, ce, rfl, hce, hcme, hge⟩ := own_slice howne
          obtain ⟨g2, rfl, hg3, hg4⟩ := hge (by omega)
          have hc2 := howne.get (i := h) (by omega)
          refine wgo ?_
          exact Fin.ret2 rfl rfl rfl ⟨by rw [hT]; rfl, hx.trans hx3⟩
end Go.Proofs.YtmkgfccfnpmcjaaGreatDoor
