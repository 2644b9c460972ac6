/- cfg.begins: where blocks begin, in order. -/
import Derived.Test.YtfeakkicihlplaaT1
import Derived.Test.YtfeakkicihlplaaSo
import Derived.Test.YtfeakkicihlplaaR8
namespace Go.Proofs.Ytfeakkicihlplaa
open Go.RowKit

theorem sorted_ext : ∀ {l m : List Int}, l.Pairwise (· < ·) → m.Pairwise (· < ·) → (∀ a, a ∈ l ↔ a ∈ m) → l = m
  | [], [], _, _, _ => rfl
  | [], b :: m, _, _, h => by have := (h b).2 (by simp); cases this
  | a :: l, [], _, _, h => by have := (h a).1 (by simp); cases this
  | a :: l, b :: m, hl, hm, h => by
    rw [List.pairwise_cons] at hl hm
    have e : a = b := by
      have h1 := (h a).1 (by simp)
      have h2 := (h b).2 (by simp)
      rcases List.mem_cons.1 h1 with e | h1
      · exact e
      · rcases List.mem_cons.1 h2 with e | h2
        · exact e.symm
        · have := hl.1 b h2; have := hm.1 a h1; omega
    subst e
    rw [sorted_ext hl.2 hm.2 (fun c => ?_)]
    have hc := h c
    simp only [List.mem_cons] at hc
    constructor
    · intro hcl
      have hlt := hl.1 c hcl
      rcases hc.1 (.inr hcl) with e | h
      · omega
      · exact h
    · intro hcm
      have hlt := hm.1 c hcm
      rcases hc.2 (.inr hcm) with e | h
      · omega
      · exact h

/-- the places at which blocks begin -/
def startsR (xs : List Ins) : List Int := ((List.range xs.length).filter (startB xs)).map (fun j : Nat => (j : Int))
theorem fbTo_firsts (xs : List Ins) (k : Nat) : (fbTo xs k).map (·.1) = (List.range k).filter (startB xs) := by
  induction k with
  | zero => rfl
  | succ k ih =>
    rw [List.range_succ, List.filter_append]
    cases hs : startB xs k with
    | true => rw [fbTo_yes hs, List.map_append, ih]; simp [hs]
    | false =>
      rw [fbTo_no hs, List.map_set, ← ih]
      simp only [List.filter_cons, hs, List.filter_nil, Bool.false_eq_true, if_false, List.append_nil]
      by_cases h0 : (fbTo xs k).length = 0
      · rw [List.length_eq_zero_iff.1 h0]; rfl
      · rw [ix_eq (by omega)]
        apply List.ext_getElem
        · simp
        · intro i h1 h2
          rw [List.getElem_set]
          split
          · rename_i e; subst e; simp
          · rfl
theorem startsR_eq (xs : List Ins) : startsR xs = (fbTo xs xs.length).map (fun p => (p.1 : Int)) := by
  unfold startsR; rw [← fbTo_firsts, List.map_map]; rfl
theorem startsR_sorted (xs : List Ins) : (startsR xs).Pairwise (· < ·) := by
  unfold startsR
  rw [List.pairwise_map]
  have h : ((List.range xs.length).filter (startB xs)).Pairwise (· < ·) := (List.pairwise_lt_range).filter _
  exact h.imp (fun h => by omega)

def ins (l : List Int) (a : Int) : List Int := if a ∈ l then l else l ++ [a]
theorem mem_ins {l : List Int} {a b : Int} : b ∈ ins l a ↔ b ∈ l ∨ b = a := by
  unfold ins; split
  · rename_i h; constructor
    · exact .inl
    · rintro (h1 | rfl)
      · exact h1
      · exact h
  · simp
theorem ins_len (l : List Int) (a : Int) : (ins l a).length ≤ l.length + 1 := by unfold ins; split <;> simp
/-- the map's keys after i instructions -/
def keysTo (xs : List Ins) : Nat → List Int
  | 0 => [0]
  | i + 1 =>
    let l := if (ix xs i).op = 11 then ins (keysTo xs i) i else keysTo xs i
    if endsB (ix xs i).op = true ∧ i + 1 < xs.length then ins l ((i : Int) + 1) else l
theorem keysTo_len (xs : List Ins) : ∀ i, (keysTo xs i).length ≤ 2 * i + 1
  | 0 => by simp [keysTo]
  | i + 1 => by
    have h := keysTo_len xs i
    have h1 : (if (ix xs i).op = 11 then ins (keysTo xs i) i else keysTo xs i).length ≤ (keysTo xs i).length + 1 := by split; exact ins_len _ _; omega
    have h2 := ins_len (if (ix xs i).op = 11 then ins (keysTo xs i) i else keysTo xs i) ((i : Int) + 1)
    simp only [keysTo]
    split <;> omega
theorem mem_keysTo (xs : List Ins) : ∀ (i : Nat) (a : Int), a ∈ keysTo xs i ↔ ∃ j : Nat, a = j ∧ (j = 0 ∨ (j < i ∧ (ix xs j).op = 11) ∨ (1 ≤ j ∧ j ≤ i ∧ j < xs.length ∧ endsB (ix xs (j - 1)).op = true))
  | 0, a => by
    simp only [keysTo, List.mem_singleton]
    constructor
    · rintro rfl; exact ⟨0, rfl, .inl rfl⟩
    · rintro ⟨j, rfl, h | h | h⟩ <;> omega
  | i + 1, a => by
    have ih := mem_keysTo xs i a
    have h1 : a ∈ (if (ix xs i).op = 11 then ins (keysTo xs i) i else keysTo xs i) ↔ a ∈ keysTo xs i ∨ ((ix xs i).op = 11 ∧ a = i) := by
      split
      · rename_i h; rw [mem_ins]; simp [h]
      · rename_i h; simp [h]
    have h2 : a ∈ keysTo xs (i + 1) ↔ (a ∈ keysTo xs i ∨ ((ix xs i).op = 11 ∧ a = i)) ∨ ((endsB (ix xs i).op = true ∧ i + 1 < xs.length) ∧ a = (i : Int) + 1) := by
      simp only [keysTo]
      split
      · rename_i h; rw [mem_ins, h1]; simp [h]
      · rename_i h; rw [h1]; simp only [h, false_and, or_false]
    rw [h2, ih]
    constructor
    · rintro ((⟨j, rfl, h⟩ | ⟨h, rfl⟩) | ⟨⟨h, h'⟩, rfl⟩)
      · refine ⟨j, rfl, ?_⟩
        rcases h with h | ⟨h, h'⟩ | ⟨h, h', h3⟩
        · exact .inl h
        · exact .inr (.inl ⟨by omega, h'⟩)
        · exact .inr (.inr ⟨h, by omega, h3⟩)
      · exact ⟨i, rfl, .inr (.inl ⟨by omega, h⟩)⟩
      · exact ⟨i + 1, by omega, .inr (.inr ⟨by omega, by omega, h', by simpa using h⟩)⟩
    · rintro ⟨j, rfl, h⟩
      rcases h with h | ⟨h, h'⟩ | ⟨h, h', h3, h4⟩
      · exact .inl (.inl ⟨j, rfl, .inl h⟩)
      · by_cases e : j = i
        · subst e; exact .inl (.inr ⟨h', rfl⟩)
        · exact .inl (.inl ⟨j, rfl, .inr (.inl ⟨by omega, h'⟩)⟩)
      · by_cases e : j = i + 1
        · subst e; exact .inr ⟨⟨by simpa using h4, h3⟩, by omega⟩
        · exact .inl (.inl ⟨j, rfl, .inr (.inr ⟨h, by omega, h3, h4⟩)⟩)
theorem keysTo_rng {xs : List Ins} {i : Nat} (hi : i ≤ xs.length) {a : Int} (h : a ∈ keysTo xs i) : 0 ≤ a ∧ a ≤ xs.length := by
  obtain ⟨j, rfl, h | ⟨h, _⟩ | ⟨_, h, _⟩⟩ := (mem_keysTo xs i a).1 h <;> omega
theorem mem_starts {xs : List Ins} (h0 : 0 < xs.length) (a : Int) : a ∈ keysTo xs xs.length ↔ a ∈ startsR xs := by
  rw [mem_keysTo]
  unfold startsR
  rw [List.mem_map]
  constructor
  · rintro ⟨j, rfl, h⟩
    have hj : j < xs.length ∧ startB xs j = true := by
      unfold startB
      rcases h with h | ⟨h, h'⟩ | ⟨h, h', h3, h4⟩
      · subst h; exact ⟨h0, by simp⟩
      · exact ⟨h, by simp [h']⟩
      · exact ⟨h3, by simp [h4]⟩
    exact ⟨j, List.mem_filter.2 ⟨List.mem_range.2 hj.1, hj.2⟩, rfl⟩
  · rintro ⟨j, hj, rfl⟩
    obtain ⟨h1, h2⟩ := List.mem_filter.1 hj
    have h1 := List.mem_range.1 h1
    refine ⟨j, rfl, ?_⟩
    by_cases e : j = 0
    · exact .inl e
    · unfold startB at h2
      simp only [Bool.or_eq_true, beq_iff_eq] at h2
      rcases h2 with (h2 | h2) | h2
      · exact absurd h2 e
      · exact .inr (.inl ⟨h1, h2⟩)
      · exact .inr (.inr ⟨by omega, by omega, h1, h2⟩)
theorem sort_starts {xs : List Ins} (h0 : 0 < xs.length) {L : List Int} (hn : L.Nodup) (hm : ∀ a, a ∈ L ↔ a ∈ keysTo xs xs.length) : (L.mergeSort fun x y => decide (x ≤ y)) = startsR xs := by
  have hp : (L.mergeSort fun x y => decide (x ≤ y)).Perm L := List.mergeSort_perm _ _
  refine sorted_ext ?_ (startsR_sorted xs) (fun a => ?_)
  · have h1 : (L.mergeSort fun x y => decide (x ≤ y)).Pairwise (fun a b => decide (a ≤ b) = true) := List.pairwise_mergeSort (by intro a b c h1 h2; simp only [decide_eq_true_eq] at *; omega) (by intro a b; simp only [Bool.or_eq_true, decide_eq_true_eq]; omega) L
    have h2 : (L.mergeSort fun x y => decide (x ≤ y)).Pairwise (fun a b => a ≠ b) := hp.nodup_iff.2 hn
    refine (h1.and h2).imp (fun h => ?_)
    have := h.1; have := h.2
    simp only [decide_eq_true_eq] at *; omega
  · rw [hp.mem_iff, hm, mem_starts h0]
theorem wf64 {a : Int} (h0 : 0 ≤ a) (h1 : a ≤ 10000000000) : (Lit.int .i64 a).wf = true := by
  have e1 : IntKind.i64.min = -9223372036854775808 := by decide
  have e2 : IntKind.i64.max = 9223372036854775807 := by decide
  simp only [Lit.wf, e1, e2, Bool.and_eq_true, decide_eq_true_eq]
  omega
end Go.Proofs.Ytfeakkicihlplaa
