/- Plain laws (no program in sight): every successor's place is where a block begins; the two searches agree; when a body has blocks. -/
import Derived.Test.YtmkgfccfnpmcjaaDoorJQ3
import Derived.Test.YtmkgfccfnpmcjaaDoorJC2
namespace Go.Proofs.YtmkgfccfnpmcjaaDoor
open Go.RowKit

theorem fbTo_chain (xs : List Ins) : ∀ (k j : Nat), j < (fbTo xs k).length → (ix (fbTo xs k) j).2 = if j + 1 < (fbTo xs k).length then (ix (fbTo xs k) (j + 1)).1 else k
  | 0, j, hj => by simp [fbTo] at hj
  | k + 1, j, hj => by
    cases hs : startB xs k with
    | true =>
      rw [fbTo_yes hs] at hj ⊢
      rw [List.length_append, List.length_singleton] at hj ⊢
      by_cases e : j = (fbTo xs k).length
      · rw [ix_append_last e, if_neg (by omega)]
      · have h1 : j < (fbTo xs k).length := by omega
        rw [ix_append_left h1, if_pos (by omega), fbTo_chain xs k j h1]
        by_cases e2 : j + 1 = (fbTo xs k).length
        · rw [if_neg (by omega), ix_append_last e2]
        · rw [if_pos (by omega), ix_append_left (by omega)]
    | false =>
      rw [fbTo_no hs] at hj ⊢
      rw [List.length_set] at hj ⊢
      by_cases e : j = (fbTo xs k).length - 1
      · subst e; rw [ix_set_same hj, if_neg (by omega)]
      · rw [ix_set_other e, if_pos (by omega), fbTo_chain xs k j hj, if_pos (by omega)]
        by_cases e2 : j + 1 = (fbTo xs k).length - 1
        · rw [e2, ix_set_same (by omega)]
        · rw [ix_set_other e2]

theorem ix_map {α β : Type} [Inhabited α] [Inhabited β] {l : List α} {f : α → β} {i : Nat} (h : i < l.length) : ix (l.map f) i = f (ix l i) := by
  rw [ix_eq (by simpa using h), ix_eq h, List.getElem_map]
theorem starts_ix {xs : List Ins} {j : Nat} (h : j < (fbTo xs xs.length).length) : ix (startsR xs) j = ((ix (fbTo xs xs.length) j).1 : Int) := by
  rw [startsR_eq, ix_map h]
theorem starts_len (xs : List Ins) : (startsR xs).length = (fbTo xs xs.length).length := by rw [startsR_eq, List.length_map]
theorem fb_start {xs : List Ins} {j : Nat} (h : j < (fbTo xs xs.length).length) : (ix (fbTo xs xs.length) j).1 < xs.length ∧ startB xs (ix (fbTo xs xs.length) j).1 = true := by
  have h1 : (ix (fbTo xs xs.length) j).1 ∈ (fbTo xs xs.length).map (·.1) := by
    rw [ix_eq h]; exact List.mem_map.2 ⟨_, List.getElem_mem h, rfl⟩
  rw [fbTo_firsts] at h1
  obtain ⟨h2, h3⟩ := List.mem_filter.1 h1
  exact ⟨List.mem_range.1 h2, h3⟩
theorem fb_has {xs : List Ins} {p : Nat} (hp : p < xs.length) (hs : startB xs p = true) : ∃ j, j < (fbTo xs xs.length).length ∧ (ix (fbTo xs xs.length) j).1 = p := by
  have h1 : p ∈ (fbTo xs xs.length).map (·.1) := by rw [fbTo_firsts]; exact List.mem_filter.2 ⟨List.mem_range.2 hp, hs⟩
  obtain ⟨q, hq, e⟩ := List.mem_map.1 h1
  obtain ⟨j, hj, e2⟩ := List.getElem_of_mem hq
  exact ⟨j, hj, by rw [ix_eq hj, e2]; exact e⟩
theorem fb_lt {xs : List Ins} {i j : Nat} (hij : i < j) (hj : j < (fbTo xs xs.length).length) : (ix (fbTo xs xs.length) i).1 < (ix (fbTo xs xs.length) j).1 := by
  have hs := startsR_sorted xs
  rw [List.pairwise_iff_getElem] at hs
  have hl := starts_len xs
  have := hs i j (by omega) (by omega) hij
  rw [← ix_eq, ← ix_eq, starts_ix (by omega), starts_ix hj] at this
  omega
theorem fb_le {xs : List Ins} {i j : Nat} (hij : i ≤ j) (hj : j < (fbTo xs xs.length).length) : (ix (fbTo xs xs.length) i).1 ≤ (ix (fbTo xs xs.length) j).1 := by
  rcases Nat.lt_or_eq_of_le hij with h | h
  · have := fb_lt h hj; omega
  · subst h; omega
theorem fb_to_le {xs : List Ins} {i j : Nat} (hij : i < j) (hj : j < (fbTo xs xs.length).length) : (ix (fbTo xs xs.length) i).2 ≤ (ix (fbTo xs xs.length) j).1 := by
  rw [fbTo_chain xs xs.length i (by omega), if_pos (by omega)]
  exact fb_le (by omega) hj

theorem atFrom_first {bs : List Bk} {q : Int} {j : Nat} (hj : (ix bs j).fr ≤ q ∧ q < (ix bs j).to) (hn : ∀ i, i < j → ¬ ((ix bs i).fr ≤ q ∧ q < (ix bs i).to)) : ∀ (f k : Nat), k ≤ j → j < k + f → atFrom bs q f k = j
  | 0, k, h1, h2 => by omega
  | f + 1, k, h1, h2 => by
    rw [atFrom]
    by_cases e : k = j
    · subst e; rw [if_pos hj]
    · rw [if_neg (hn k (by omega))]; exact atFrom_first hj hn f (k + 1) (by omega) (by omega)
theorem atF_in {xs : List Ins} {j : Nat} {q : Int} (hj : j < (fbTo xs xs.length).length) (h1 : ((ix (fbTo xs xs.length) j).1 : Int) ≤ q) (h2 : q < (ix (fbTo xs xs.length) j).2) : atF (fbTo xs xs.length) q = j := by
  unfold atF atB
  refine atFrom_first ?_ (fun i hi h => ?_) _ 0 (Nat.zero_le _) (by rw [mkB_len]; omega)
  · rw [mkB_ix hj]; exact ⟨h1, h2⟩
  · rw [mkB_ix (by omega)] at h
    have := fb_to_le hi hj
    have h4 := h.2
    dsimp only at h4
    omega
theorem atF_start {xs : List Ins} {j : Nat} (hj : j < (fbTo xs xs.length).length) : atF (fbTo xs xs.length) (ix (fbTo xs xs.length) j).1 = j :=
  atF_in hj (by omega) (by have := (fbTo_rng hj).1; omega)
/-- the library's search finds the block that begins at q -/
theorem search_start {xs : List Ins} {q : Nat} (hq : q < xs.length) (hs : startB xs q = true) {i : Nat} (hi : i ≤ (startsR xs).length) (h1 : ∀ k, k < i → ix (startsR xs) k < q) (h2 : ∀ k, i ≤ k → k < (startsR xs).length → (q : Int) ≤ ix (startsR xs) k) : (i : Int) = atF (fbTo xs xs.length) q := by
  obtain ⟨j, hj, e⟩ := fb_has hq hs
  have hl := starts_len xs
  have hat := atF_start hj
  rw [e] at hat
  rw [hat]
  by_cases hij : i < j
  · have h3 := h2 i (Nat.le_refl _) (by omega)
    rw [starts_ix (by omega)] at h3
    have := fb_lt hij hj; omega
  · by_cases hji : j < i
    · have h3 := h1 j hji
      rw [starts_ix hj] at h3; omega
    · omega

theorem last_end {xs : List Ins} (hok : (checkR xs).2 = 0) : (ix xs (xs.length - 1)).op = 11 := by
  obtain ⟨hall, hz⟩ := check_ok hok
  have h0 := nonempty_of_ok hok
  obtain ⟨m, hm⟩ : ∃ m, xs.length = m + 1 := ⟨xs.length - 1, by omega⟩
  have h1 := checkAt_len (hall m (by omega))
  rw [hm] at hz ⊢
  rw [Nat.add_sub_cancel]
  cases ho : opensB (ix xs m).op with
  | true => rw [round_open ho] at hz; simp at hz
  | false =>
    by_cases h11 : (ix xs m).op = 11
    · exact h11
    · rw [round_plain ho h11] at hz; omega
theorem round_opens {xs : List Ins} : ∀ (k : Nat) (a : Int), a ∈ roundR xs k → 0 ≤ a → opensB (ix xs a.toNat).op = true
  | 0, a, h, h0 => by simp [roundR] at h; omega
  | k + 1, a, h, h0 => by
    cases ho : opensB (ix xs k).op with
    | true =>
      rw [round_open ho] at h
      rcases List.mem_append.1 h with h | h
      · exact round_opens k a h h0
      · simp at h; subst h; simpa using ho
    | false =>
      by_cases h11 : (ix xs k).op = 11
      · by_cases hz : 0 < (roundR xs k).length
        · rw [round_end h11 hz] at h; exact round_opens k a (List.dropLast_subset _ h) h0
        · have : roundR xs (k + 1) = roundR xs k := by
            show stepR _ _ _ = _
            unfold stepR; simp [ho]; intro _ h; simp [h] at hz
          rw [this] at h; exact round_opens k a h h0
      · rw [round_plain ho h11] at h; exact round_opens k a h h0
theorem mem_dropLast {l : List Int} (hz : 0 < l.length) {a : Int} (h : a ∈ l) (hne : a ≠ lastI l) : a ∈ l.dropLast := by
  obtain ⟨i, hi, rfl⟩ := List.getElem_of_mem h
  have hil : i < l.length - 1 := by
    rcases Nat.lt_or_ge i (l.length - 1) with h | h
    · exact h
    · exfalso
      have : i = l.length - 1 := by omega
      subst this
      exact hne (by unfold lastI; rw [ix_eq hi])
  exact List.mem_iff_getElem.2 ⟨i, by simpa using hil, by rw [List.getElem_dropLast]⟩
theorem closedTo {xs : List Ins} (hall : ∀ j, j < xs.length → checkAt xs j = none) : ∀ (k h : Nat), k ≤ xs.length → h < k → opensB (ix xs h).op = true → (h : Int) ∈ roundR xs k ∨ ∃ e : Nat, h < e ∧ e < k ∧ (ix xs e).op = 11 ∧ ix (endsTo xs k) h = e
  | 0, h, _, hk, _ => by omega
  | k + 1, h, hkn, hk, ho => by
    have hz := checkAt_len (hall k (by omega))
    by_cases e : h = k
    · subst e; left; rw [round_open ho]; simp
    · have hlt : h < k := by omega
      have hlh : h < xs.length := by omega
      have hE : endsTo xs (k + 1) = if (ix xs k).op = 11 ∧ 0 ≤ lastI (roundR xs k) then (endsTo xs k).set (lastI (roundR xs k)).toNat k else endsTo xs k := rfl
      by_cases h11 : (ix xs k).op = 11
      · by_cases hla : lastI (roundR xs k) = h
        · right
          refine ⟨k, hlt, by omega, h11, ?_⟩
          rw [hE, if_pos ⟨h11, by omega⟩, hla, Int.toNat_natCast, ix_set_same (by rw [endsTo_len]; omega)]
        · rcases closedTo hall k h (by omega) hlt ho with h1 | ⟨e, h1, h2, h3, h4⟩
          · left; rw [round_end h11 hz]; exact mem_dropLast hz h1 (fun e => hla e.symm)
          · right
            refine ⟨e, h1, by omega, h3, ?_⟩
            rw [hE]
            split
            · rename_i hc
              rw [ix_set_other (fun e2 => hla (by rw [e2, Int.toNat_of_nonneg hc.2]))]; exact h4
            · exact h4
      · rw [if_neg (by simp [h11])] at hE
        rcases closedTo hall k h (by omega) hlt ho with h1 | ⟨e, h1, h2, h3, h4⟩
        · left
          cases hok : opensB (ix xs k).op with
          | true => rw [round_open hok]; exact List.mem_append_left _ h1
          | false => rw [round_plain hok h11]; exact h1
        · right; exact ⟨e, h1, by omega, h3, by rw [hE]; exact h4⟩
theorem ends_ok {xs : List Ins} (hok : (checkR xs).2 = 0) {h : Nat} (hh : h < xs.length) (ho : opensB (ix xs h).op = true) : ∃ e : Nat, h < e ∧ e < xs.length ∧ (ix xs e).op = 11 ∧ ix (endsR xs) h = e := by
  obtain ⟨hall, hz⟩ := check_ok hok
  rcases closedTo hall xs.length h (Nat.le_refl _) hh ho with h1 | h1
  · rw [List.length_eq_zero_iff.1 hz] at h1; cases h1
  · exact h1
theorem elsesTo_op {xs : List Ins} {i : Nat} (hi : i < xs.length) : ∀ k, 0 ≤ ix (elsesTo xs k) i → ∃ e : Nat, ix (elsesTo xs k) i = e ∧ e < k ∧ (ix xs e).op = 5
  | 0, h => by rw [elsesTo, ix_eq (by simpa using hi)] at h; simp at h
  | k + 1, h => by
    rw [elsesTo] at h ⊢
    split at h
    · rename_i h5
      rw [if_pos h5]
      by_cases e : i = (lastI (roundR xs k)).toNat
      · rw [← e, ix_set_same (by rw [elsesTo_len]; exact hi)]; exact ⟨k, rfl, by omega, h5⟩
      · rw [ix_set_other e] at h ⊢
        obtain ⟨e, h1, h2, h3⟩ := elsesTo_op hi k h
        exact ⟨e, h1, by omega, h3⟩
    · rename_i h5
      rw [if_neg h5]
      obtain ⟨e, h1, h2, h3⟩ := elsesTo_op hi k h
      exact ⟨e, h1, by omega, h3⟩

theorem startB_end {xs : List Ins} {p : Nat} (h : (ix xs p).op = 11) : startB xs p = true := by simp [startB, h]
theorem startB_next {xs : List Ins} {p : Nat} (h : endsB (ix xs p).op = true) : startB xs (p + 1) = true := by simp [startB, h]
/-- q is where a block begins -/
def isStart (xs : List Ins) (q : Int) : Prop := ∃ j : Nat, q = j ∧ j < xs.length ∧ startB xs j = true
theorem not_last {xs : List Ins} (hok : (checkR xs).2 = 0) {p : Nat} (hp : p < xs.length) (h : (ix xs p).op ≠ 11) : p + 1 < xs.length := by
  rcases Nat.lt_or_ge (p + 1) xs.length with h1 | h1
  · exact h1
  · exfalso
    have : p = xs.length - 1 := by omega
    subst this; exact h (last_end hok)
theorem target_start {xs : List Ins} (hok : (checkR xs).2 = 0) {p : Nat} (hp : p < xs.length) {l t : Int} (h : targetR xs p l = some t) : isStart xs t := by
  have h0 := nonempty_of_ok hok
  unfold targetR at h
  dsimp only at h
  split at h
  · cases h
  · rename_i hc
    split at h
    · cases h; exact ⟨xs.length - 1, by omega, by omega, startB_end (last_end hok)⟩
    · rename_i hd
      have hmem : ix (roundR xs p) ((roundR xs p).length - 1 - l.toNat) ∈ roundR xs p := by rw [ix_eq (by omega)]; exact List.getElem_mem _
      have hr := roundR_mem hmem
      have ho := round_opens p _ hmem (by omega)
      generalize ix (roundR xs p) ((roundR xs p).length - 1 - l.toNat) = hd at *
      obtain ⟨h', rfl⟩ := Int.eq_ofNat_of_zero_le (Int.not_lt.1 hd)
      rw [Int.toNat_natCast] at h ho
      split at h
      · rename_i h3
        cases h; exact ⟨h' + 1, by omega, by omega, startB_next (by rw [h3]; rfl)⟩
      · cases h
        obtain ⟨e, h1, h2, h3, h4⟩ := ends_ok hok (by omega) ho
        exact ⟨e, h4, h2, startB_end h3⟩
theorem toR_start {xs : List Ins} (hok : (checkR xs).2 = 0) {p : Nat} (hp : p < xs.length) {l : Int} (h : (targetR xs p l).isSome = true) : isStart xs (toR xs p l) := by
  unfold toR
  obtain ⟨t, ht⟩ := Option.isSome_iff_exists.1 h
  rw [ht]; exact target_start hok hp ht

/-- every successor of the last instruction of block i is where a block begins -/
theorem succ_start {xs : List Ins} (hok : (checkR xs).2 = 0) {i : Nat} (hi : i < (fbTo xs xs.length).length) (hN : okN xs ((ix (fbTo xs xs.length) i).2 - 1) = true) : ∀ q ∈ goB xs i, isStart xs q := by
  have hr := fbTo_rng hi
  have hch := fbTo_chain xs xs.length i hi
  unfold goB
  have hfst := fun (h : i + 1 < (fbTo xs xs.length).length) => fb_start h
  generalize (ix (fbTo xs xs.length) i).2 = t at *
  obtain ⟨p, rfl⟩ : ∃ p, t = p + 1 := ⟨t - 1, by omega⟩
  rw [Nat.add_sub_cancel] at hN ⊢
  have hp : p < xs.length := by omega
  unfold okN at hN
  intro q hq
  unfold afterR at hq
  dsimp only at hq
  by_cases h4 : (ix xs p).op = 4
  · rw [if_pos h4] at hq
    have hnl := not_last hok hp (by omega)
    have hn1 : isStart xs ((p : Int) + 1) := ⟨p + 1, by omega, hnl, startB_next (by rw [h4]; rfl)⟩
    split at hq
    · rename_i he
      simp only [List.mem_cons, List.not_mem_nil, or_false] at hq
      rcases hq with rfl | rfl
      · exact hn1
      · obtain ⟨e, h1, h2, h3⟩ := elsesTo_op hp xs.length he
        have h1' : ix (elsesR xs) p = e := h1
        rw [h1']
        exact ⟨e + 1, by omega, not_last hok h2 (by omega), startB_next (by rw [h3]; rfl)⟩
    · simp only [List.mem_cons, List.not_mem_nil, or_false] at hq
      rcases hq with rfl | rfl
      · exact hn1
      · obtain ⟨e, h1, h2, h3, h5⟩ := ends_ok hok hp (by rw [h4]; rfl)
        exact ⟨e, h5, h2, startB_end h3⟩
  rw [if_neg h4] at hq
  by_cases h5 : (ix xs p).op = 5
  · rw [if_pos h5] at hq
    simp only [List.mem_cons, List.not_mem_nil, or_false] at hq
    obtain ⟨d0, d1, d2⟩ := doneR_eq hok hp h5
    obtain ⟨hall, -⟩ := check_ok hok
    have hmem := lastI_mem (checkAt_len (hall p hp))
    have ho := round_opens p _ hmem d0
    obtain ⟨h, eh⟩ := Int.eq_ofNat_of_zero_le d0
    rw [eh, Int.toNat_natCast] at ho d2
    rw [eh] at d1
    obtain ⟨e, h1, h2, h3, h6⟩ := ends_ok hok (by omega) ho
    rw [hq, d2, h6]
    exact ⟨e, rfl, h2, startB_end h3⟩
  rw [if_neg h5] at hq
  by_cases h12 : (ix xs p).op = 12
  · rw [if_pos h12] at hq
    rw [if_pos (.inl h12)] at hN
    simp only [List.mem_cons, List.not_mem_nil, or_false] at hq
    rw [hq]; exact toR_start hok hp hN
  rw [if_neg h12] at hq
  by_cases h13 : (ix xs p).op = 13
  · rw [if_pos h13] at hq
    rw [if_pos (.inr h13)] at hN
    simp only [List.mem_cons, List.not_mem_nil, or_false] at hq
    rcases hq with rfl | rfl
    · exact toR_start hok hp hN
    · exact ⟨p + 1, by omega, not_last hok hp (by omega), startB_next (by rw [h13]; rfl)⟩
  rw [if_neg h13] at hq
  by_cases h14 : (ix xs p).op = 14
  · rw [if_pos h14] at hq
    rw [if_neg (by omega), if_pos h14, List.all_eq_true] at hN
    rcases List.mem_append.1 hq with hq | hq
    · obtain ⟨l, hl, rfl⟩ := List.mem_map.1 hq
      exact toR_start hok hp (hN l (List.mem_append_left _ hl))
    · simp only [List.mem_cons, List.not_mem_nil, or_false] at hq
      rw [hq]; exact toR_start hok hp (hN _ (List.mem_append_right _ (by simp)))
  rw [if_neg h14] at hq
  split at hq
  · cases hq
  · split at hq
    · cases hq
    · rename_i hlast
      simp only [List.mem_cons, List.not_mem_nil, or_false] at hq
      by_cases hi1 : i + 1 < (fbTo xs xs.length).length
      · rw [if_pos hi1] at hch
        have := hfst hi1
        rw [← hch] at this
        exact ⟨p + 1, by omega, this.1, this.2⟩
      · rw [if_neg hi1] at hch; omega

/-- an instruction behind which a block begins is the last of its block -/
theorem last_of {xs : List Ins} (hok : (checkR xs).2 = 0) {p : Nat} (hp : p < xs.length) (he : endsB (ix xs p).op = true) : ∃ j, j < (fbTo xs xs.length).length ∧ (ix (fbTo xs xs.length) j).2 = p + 1 := by
  have h11 : (ix xs p).op ≠ 11 := fun h => by rw [h] at he; cases he
  have hnl := not_last hok hp h11
  obtain ⟨j, hj, e⟩ := fb_has hnl (startB_next he)
  have hj0 : 0 < j := by
    rcases Nat.eq_zero_or_pos j with h | h
    · subst h
      obtain ⟨i, hi, e2⟩ := fb_has (xs := xs) (p := 0) (by omega) (by simp [startB])
      have := fb_le (Nat.zero_le i) hi
      omega
    · exact h
  refine ⟨j - 1, by omega, ?_⟩
  rw [fbTo_chain xs xs.length (j - 1) (by omega), if_pos (by omega), show j - 1 + 1 = j by omega, e]

theorem okN_other {xs : List Ins} {p : Nat} (h : ¬ ((ix xs p).op = 12 ∨ (ix xs p).op = 13 ∨ (ix xs p).op = 14)) : okN xs p = true := by
  unfold okN; rw [if_neg (by omega), if_neg (by omega)]
theorem bad_iff {xs : List Ins} (hok : (checkR xs).2 = 0) : badB xs ↔ ∃ p, p < xs.length ∧ okN xs p = false := by
  constructor
  · rintro ⟨j, hj, a, ha, hneg⟩
    refine ⟨(ix (fbTo xs xs.length) j).2 - 1, by have := fbTo_rng hj; omega, ?_⟩
    cases hN : okN xs ((ix (fbTo xs xs.length) j).2 - 1) with
    | false => rfl
    | true =>
      obtain ⟨q, rfl, _⟩ := succ_start hok hj hN a ha
      omega
  · rintro ⟨p, hp, hN⟩
    have hops : (ix xs p).op = 12 ∨ (ix xs p).op = 13 ∨ (ix xs p).op = 14 := by
      by_cases h : (ix xs p).op = 12 ∨ (ix xs p).op = 13 ∨ (ix xs p).op = 14
      · exact h
      · rw [okN_other h] at hN; cases hN
    have he : endsB (ix xs p).op = true := by
      rcases hops with h | h | h <;> rw [h] <;> rfl
    obtain ⟨j, hj, e⟩ := last_of hok hp he
    refine ⟨j, hj, -1, ?_, by omega⟩
    unfold goB
    rw [e, Nat.add_sub_cancel]
    have hto : ∀ l, (targetR xs p l).isSome = false → toR xs p l = -1 := fun l h => by
      unfold toR
      cases ht : targetR xs p l with
      | none => rfl
      | some t => rw [ht] at h; cases h
    unfold okN at hN
    unfold afterR
    dsimp only
    by_cases h12 : (ix xs p).op = 12
    · rw [if_pos (.inl h12)] at hN
      rw [if_neg (by omega), if_neg (by omega), if_pos h12, hto _ hN]; simp
    · by_cases h13 : (ix xs p).op = 13
      · rw [if_pos (.inr h13)] at hN
        rw [if_neg (by omega), if_neg (by omega), if_neg h12, if_pos h13, hto _ hN]; simp
      · have h14 : (ix xs p).op = 14 := by omega
        rw [if_neg (by omega), if_pos h14, List.all_eq_false] at hN
        rw [if_neg (by omega), if_neg (by omega), if_neg h12, if_neg h13, if_pos h14]
        obtain ⟨l, hl, h⟩ := hN
        have h' : (targetR xs p l).isSome = false := by simpa using h
        rcases List.mem_append.1 hl with hl | hl
        · exact List.mem_append_left _ (List.mem_map.2 ⟨l, hl, hto l h'⟩)
        · simp only [List.mem_cons, List.not_mem_nil, or_false] at hl
          subst hl
          exact List.mem_append_right _ (by rw [hto _ h']; simp)
end Go.Proofs.YtmkgfccfnpmcjaaDoor
