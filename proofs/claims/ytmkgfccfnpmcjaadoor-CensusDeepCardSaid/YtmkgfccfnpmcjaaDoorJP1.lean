/- Plain laws (no program in sight): the blocks partition the body; how many successors a block has; the search's order. -/
import Derived.Test.YtmkgfccfnpmcjaaDoorJC6
namespace Go.Proofs.YtmkgfccfnpmcjaaDoor
open Go.RowKit

section parts
variable {xs : List Ins}

theorem bl_len (xs : List Ins) : (blocksB xs).length = (fbTo xs xs.length).length := by unfold blocksB; dsimp only; rw [mkB_len]
theorem bl_ix {i : Nat} (hi : i < (fbTo xs xs.length).length) : (ix (blocksB xs) i).fr = ((ix (fbTo xs xs.length) i).1 : Int) ∧ (ix (blocksB xs) i).to = ((ix (fbTo xs xs.length) i).2 : Int) ∧ (ix (blocksB xs) i).next = nextB xs i := by
  unfold blocksB; dsimp only; rw [mkB_ix hi]; exact ⟨rfl, rfl, rfl⟩
theorem bl_at (q : Int) : atB (blocksB xs) q = atF (fbTo xs xs.length) q := by unfold blocksB; dsimp only; rw [atB_mkB]
theorem fb_zero (h0 : 0 < xs.length) : (ix (fbTo xs xs.length) 0).1 = 0 := by
  obtain ⟨j, hj, e⟩ := fb_has (xs := xs) (p := 0) h0 (by simp [startB])
  rcases Nat.eq_zero_or_pos j with h | h
  · rw [h] at e; exact e
  · have := fb_lt h hj; omega
theorem fb_next {i : Nat} (hi : i + 1 < (fbTo xs xs.length).length) : (ix (fbTo xs xs.length) (i + 1)).1 = (ix (fbTo xs xs.length) i).2 := by
  rw [fbTo_chain xs xs.length i (by omega), if_pos hi]
theorem fb_last {i : Nat} (hi : i + 1 = (fbTo xs xs.length).length) : (ix (fbTo xs xs.length) i).2 = xs.length := by
  rw [fbTo_chain xs xs.length i (by omega), if_neg (by omega)]
/-- where block i begins; one behind the last: the body's length -/
def cutAt (xs : List Ins) (i : Nat) : Nat := if i < (fbTo xs xs.length).length then (ix (fbTo xs xs.length) i).1 else xs.length
theorem cut_zero (h0 : 0 < xs.length) : cutAt xs 0 = 0 := by
  have := fbTo_pos (xs := xs) h0
  rw [cutAt, if_pos this, fb_zero h0]
theorem cut_lt {i : Nat} (hi : i < (fbTo xs xs.length).length) : cutAt xs i = (ix (fbTo xs xs.length) i).1 := by rw [cutAt, if_pos hi]
theorem cut_succ {i : Nat} (hi : i < (fbTo xs xs.length).length) : cutAt xs (i + 1) = (ix (fbTo xs xs.length) i).2 := by
  unfold cutAt
  split
  · rename_i h; exact fb_next h
  · exact (fb_last (by omega)).symm
theorem cut_end {i : Nat} (hi : ¬ i < (fbTo xs xs.length).length) : cutAt xs i = xs.length := by rw [cutAt, if_neg hi]
/-- inside a block no other block begins -/
theorem in_block {i p : Nat} (hi : i < (fbTo xs xs.length).length) (h1 : (ix (fbTo xs xs.length) i).1 < p) (h2 : p < (ix (fbTo xs xs.length) i).2) : startB xs p = false := by
  cases hs : startB xs p with
  | false => rfl
  | true =>
    exfalso
    have hr := fbTo_rng hi
    obtain ⟨j, hj, e⟩ := fb_has (xs := xs) (p := p) (by omega) hs
    have hij : i < j := by
      rcases Nat.lt_or_ge i j with h | h
      · exact h
      · have := fb_le h hi; omega
    have := fb_to_le hij hj
    omega
theorem in_end {i p : Nat} (hi : i < (fbTo xs xs.length).length) (h1 : (ix (fbTo xs xs.length) i).1 < p) (h2 : p < (ix (fbTo xs xs.length) i).2) : (ix xs p).op ≠ 11 := by
  intro h; have := in_block hi h1 h2; rw [startB_end h] at this; cases this
theorem in_last {i p : Nat} (hi : i < (fbTo xs xs.length).length) (h1 : (ix (fbTo xs xs.length) i).1 ≤ p) (h2 : p < (ix (fbTo xs xs.length) i).2) (he : endsB (ix xs p).op = true) : p + 1 = (ix (fbTo xs xs.length) i).2 := by
  rcases Nat.lt_or_ge (p + 1) (ix (fbTo xs xs.length) i).2 with h | h
  · have := in_block hi (p := p + 1) (by omega) h; rw [startB_next he] at this; cases this
  · omega
theorem atFrom_none {bs : List Bk} {q : Int} : ∀ (f k : Nat), (∀ i, i < k + f → ¬ ((ix bs i).fr ≤ q ∧ q < (ix bs i).to)) → atFrom bs q f k = -1
  | 0, _, _ => rfl
  | f + 1, k, h => by
    rw [atFrom, if_neg (h k (by omega))]
    exact atFrom_none f (k + 1) (fun i hi => h i (by omega))
theorem bl_at_len : atB (blocksB xs) (xs.length : Int) = -1 := by
  unfold atB
  refine atFrom_none _ 0 (fun i hi h => ?_)
  rw [bl_len] at hi
  obtain ⟨-, e2, -⟩ := bl_ix (xs := xs) (i := i) (by omega)
  have := fbTo_rng (xs := xs) (k := xs.length) (j := i) (by omega)
  rw [e2] at h; omega
theorem bl_at_neg : atB (blocksB xs) (-1) = -1 := by
  unfold atB
  refine atFrom_none _ 0 (fun i hi h => ?_)
  rw [bl_len] at hi
  obtain ⟨e1, -, -⟩ := bl_ix (xs := xs) (i := i) (by omega)
  rw [e1] at h; omega

theorem foldl_congr {α β : Type} {f g : α → β → α} (h : ∀ a b, f a b = g a b) : ∀ (l : List β) (a : α), l.foldl f a = l.foldl g a
  | [], _ => rfl
  | b :: r, a => by rw [List.foldl_cons, List.foldl_cons, h, foldl_congr h r]
theorem deepR_congr {bs cs : List Bk} (hl : bs.length = cs.length) (hn : ∀ i, i < bs.length → (ix bs i).next = (ix cs i).next) : ∀ (f : Nat) (a : Int) (s : List Bool × List Int), deepR bs f a s = deepR cs f a s
  | 0, _, _ => rfl
  | f + 1, a, s => by
    unfold deepR
    rw [hl]
    split
    · rfl
    · rename_i hc
      dsimp only
      rw [hn a.toNat (by rw [hl]; omega), foldl_congr (fun s b => deepR_congr hl hn f b s)]
theorem orderR_congr {bs cs : List Bk} (hl : bs.length = cs.length) (hn : ∀ i, i < bs.length → (ix bs i).next = (ix cs i).next) : orderR bs = orderR cs := by
  unfold orderR; rw [deepR_congr hl hn, hl]
theorem bl_live {i : Nat} (hi : i < (fbTo xs xs.length).length) : (ix (blocksB xs) i).live = (orderR (blocksB xs)).contains (i : Int) := by
  have e : orderR (blocksB xs) = orderR (mkB (fbTo xs xs.length) (nextB xs) (fun _ => false)) := by
    refine orderR_congr (by rw [bl_len, mkB_len]) (fun i h => ?_)
    rw [bl_len] at h
    rw [(bl_ix h).2.2, mkB_ix h]
  rw [e]
  unfold blocksB; dsimp only; rw [mkB_ix hi]
theorem order_zero {bs : List Bk} (h : 0 < bs.length) : (orderR bs).contains 0 = true := by
  unfold orderR deepR
  have h1 : ix (List.replicate bs.length false) 0 = false := by rw [ix_eq (by simpa using h)]; simp
  have hz : ¬ (bs.length : Int) ≤ 0 := by omega
  rw [if_neg (by rintro (h | h | h); · omega
                 · exact hz h
                 · rw [show (0 : Int).toNat = 0 from rfl, h1] at h; cases h)]
  simp

/-- the successors of a block, by its last instruction -/
theorem bl_next {i : Nat} (hi : i < (fbTo xs xs.length).length) : (ix (blocksB xs) i).next = (afterR xs ((ix (fbTo xs xs.length) i).2 - 1)).map (atF (fbTo xs xs.length)) := by
  rw [(bl_ix hi).2.2]; rfl
theorem bl_plain {i : Nat} (hi : i < (fbTo xs xs.length).length) (h : ∀ c : Int, c = 4 ∨ c = 5 ∨ c = 12 ∨ c = 13 ∨ c = 14 ∨ c = 15 ∨ c = 0 → (ix xs ((ix (fbTo xs xs.length) i).2 - 1)).op ≠ c) :
    (ix (blocksB xs) i).next = if i + 1 < (fbTo xs xs.length).length then [(i : Int) + 1] else [] := by
  have hr := fbTo_rng hi
  rw [bl_next hi]
  unfold afterR
  dsimp only
  rw [if_neg (h 4 (by omega)), if_neg (h 5 (by omega)), if_neg (h 12 (by omega)), if_neg (h 13 (by omega)), if_neg (h 14 (by omega)), if_neg (fun e => e.elim (h 15 (by omega)) (h 0 (by omega)))]
  by_cases hl : i + 1 < (fbTo xs xs.length).length
  · rw [if_pos hl, ← fb_next hl]
    have := fb_start hl
    have h0 : 0 < (ix (fbTo xs xs.length) (i + 1)).1 := by rw [fb_next hl]; omega
    rw [if_neg (by omega)]
    have e : ((((ix (fbTo xs xs.length) (i + 1)).1 - 1 : Nat) : Int) + 1) = ((ix (fbTo xs xs.length) (i + 1)).1 : Int) := by omega
    rw [e, List.map_singleton, atF_start hl]; simp
  · rw [if_neg hl, fb_last (by omega), if_pos (by omega)]; rfl
theorem after_count (xs : List Ins) (q : Nat) : ((ix xs q).op = 15 ∨ (ix xs q).op = 0 → (afterR xs q).length = 0) ∧ ((ix xs q).op = 4 ∨ (ix xs q).op = 13 → (afterR xs q).length = 2) ∧ ((ix xs q).op = 14 → (afterR xs q).length = (ix xs q).labels.length + 1) ∧ ((ix xs q).op = 12 ∨ (ix xs q).op = 5 → (afterR xs q).length = 1) := by
  unfold afterR
  dsimp only
  refine ⟨?_, ?_, ?_, ?_⟩
  · rintro (h | h) <;> simp [h]
  · rintro (h | h)
    · simp only [h, if_true]; split <;> rfl
    · simp [h]
  · intro h; simp [h]
  · rintro (h | h) <;> simp [h]
theorem after_len (xs : List Ins) (q : Nat) : (afterR xs q).length ≤ (ix xs q).labels.length + 2 := by
  unfold afterR
  dsimp only
  repeat' split
  all_goals simp
end parts

/-- from the state s the search went to the state t; new: what it has put out -/
structure DS (bs : List Bk) (roots : List Int) (s t : List Bool × List Int) (new : List Int) : Prop where
  out : t.2 = s.2 ++ new
  len : t.1.length = bs.length
  cn : cnt t.1 ≤ cnt s.1
  seen : ∀ k : Nat, k < bs.length → (ix t.1 k = true ↔ ix s.1 k = true ∨ (k : Int) ∈ new)
  fresh : ∀ b ∈ new, 0 ≤ b ∧ b < bs.length ∧ ix s.1 b.toNat = false
  nodup : new.Nodup
  closed : ∀ b ∈ new, ∀ n ∈ (ix bs b.toNat).next, 0 ≤ n → n < bs.length → ix t.1 n.toNat = true
  rts : ∀ r ∈ roots, 0 ≤ r → r < bs.length → ix t.1 r.toNat = true
  up : ∀ k, k < new.length → ix new k ∈ roots ∨ ∃ k', k < k' ∧ k' < new.length ∧ ix new k ∈ (ix bs (ix new k').toNat).next

theorem ix_app_right {α : Type} [Inhabited α] {l m : List α} {i : Nat} (h : l.length ≤ i) : ix (l ++ m) i = ix m (i - l.length) := by
  simp only [ix, List.getD_eq_getElem?_getD, List.getElem?_append_right h]

theorem DS.none {bs : List Bk} {s : List Bool × List Int} (hl : s.1.length = bs.length) : DS bs [] s s [] :=
  ⟨by simp, hl, Nat.le_refl _, by simp, by simp, by simp, by simp, by simp, by simp⟩
theorem DS.trans {bs : List Bk} {r1 r2 : List Int} {s t u : List Bool × List Int} {n1 n2 : List Int} (h1 : DS bs r1 s t n1) (h2 : DS bs r2 t u n2) : DS bs (r1 ++ r2) s u (n1 ++ n2) := by
  have up : ∀ k, k < bs.length → ix t.1 k = true → ix u.1 k = true := fun k hk h => (h2.seen k hk).2 (.inl h)
  refine ⟨by rw [h2.out, h1.out, List.append_assoc], h2.len, Nat.le_trans h2.cn h1.cn, fun k hk => ?_, fun b hb => ?_, ?_, fun b hb n hn h0 h1' => ?_, fun r hr h0 h1' => ?_, fun k hk => ?_⟩
  · rw [h2.seen k hk, h1.seen k hk, List.mem_append, or_assoc]
  · rcases List.mem_append.1 hb with h | h
    · exact h1.fresh b h
    · obtain ⟨a1, a2, a3⟩ := h2.fresh b h
      refine ⟨a1, a2, ?_⟩
      cases hs : ix s.1 b.toNat with
      | false => rfl
      | true => have := (h1.seen b.toNat (by omega)).2 (.inl hs); rw [this] at a3; cases a3
  · rw [List.nodup_append]
    refine ⟨h1.nodup, h2.nodup, fun a ha b hb e => ?_⟩
    subst e
    obtain ⟨a1, a2, a3⟩ := h2.fresh a hb
    have := (h1.seen a.toNat (by omega)).2 (.inr (by rw [Int.toNat_of_nonneg a1]; exact ha))
    rw [this] at a3; cases a3
  · rcases List.mem_append.1 hb with h | h
    · exact up _ (by omega) (h1.closed b h n hn h0 h1')
    · exact h2.closed b h n hn h0 h1'
  · rcases List.mem_append.1 hr with h | h
    · exact up _ (by omega) (h1.rts r h h0 h1')
    · exact h2.rts r h h0 h1'
  · rw [List.length_append] at hk ⊢
    by_cases hlt : k < n1.length
    · rw [ix_append_left hlt]
      rcases h1.up k hlt with h | ⟨k', a1, a2, a3⟩
      · exact .inl (List.mem_append_left _ h)
      · exact .inr ⟨k', a1, by omega, by rw [ix_append_left a2]; exact a3⟩
    · rw [ix_app_right (by omega)]
      rcases h2.up (k - n1.length) (by omega) with h | ⟨k', a1, a2, a3⟩
      · exact .inl (List.mem_append_right _ h)
      · refine .inr ⟨k' + n1.length, by omega, by omega, ?_⟩
        rw [ix_app_right (l := n1) (i := k' + n1.length) (by omega), Nat.add_sub_cancel]; exact a3
theorem DS.all {bs : List Bk} {f : Nat} (hd : ∀ (a : Int) (s : List Bool × List Int), s.1.length = bs.length → cnt s.1 < f → ∃ new, DS bs [a] s (deepR bs f a s) new) : ∀ (l : List Int) (s : List Bool × List Int), s.1.length = bs.length → cnt s.1 < f → ∃ new, DS bs l s (l.foldl (fun s b => deepR bs f b s) s) new
  | [], s, hl, _ => ⟨[], DS.none hl⟩
  | a :: r, s, hl, hc => by
    obtain ⟨n1, h1⟩ := hd a s hl hc
    obtain ⟨n2, h2⟩ := DS.all hd r (deepR bs f a s) h1.len (Nat.lt_of_le_of_lt h1.cn hc)
    exact ⟨n1 ++ n2, h1.trans h2⟩
/-- the search at a block that has not been seen -/
theorem DS.at {bs : List Bk} {s t : List Bool × List Int} {a : Int} {new : List Int} (h0 : 0 ≤ a) (h1 : a < bs.length) (hs : ix s.1 a.toNat = false) (hl : s.1.length = bs.length)
    (h : DS bs (ix bs a.toNat).next (s.1.set a.toNat true, s.2) t new) : DS bs [a] s (t.1, t.2 ++ [a]) (new ++ [a]) := by
  have hset : ∀ k : Nat, k < bs.length → (ix (s.1.set a.toNat true) k = true ↔ ix s.1 k = true ∨ (k : Int) = a) := fun k hk => by
    by_cases e : k = a.toNat
    · subst e; rw [ix_set_same (by omega)]; simp; omega
    · rw [ix_set_other e]
      constructor
      · exact .inl
      · rintro (h | h)
        · exact h
        · omega
  have hnew : ∀ b ∈ new, 0 ≤ b ∧ b < bs.length ∧ ix s.1 b.toNat = false ∧ b ≠ a := fun b hb => by
    obtain ⟨a1, a2, a3⟩ := h.fresh b hb
    refine ⟨a1, a2, ?_, ?_⟩
    · cases hs' : ix s.1 b.toNat with
      | false => rfl
      | true => have := (hset b.toNat (by omega)).2 (.inl hs'); rw [this] at a3; cases a3
    · intro e
      have := (hset b.toNat (by omega)).2 (.inr (by omega)); rw [this] at a3; cases a3
  have ha : ix t.1 a.toNat = true := (h.seen a.toNat (by omega)).2 (.inl ((hset _ (by omega)).2 (.inr (by omega))))
  refine ⟨by rw [h.out, List.append_assoc], h.len, ?_, fun k hk => ?_, fun b hb => ?_, ?_, fun b hb n hn h2 h3 => ?_, fun r hr _ _ => ?_, fun k hk => ?_⟩
  · have := h.cn; have := cnt_set (seen := s.1) (i := a.toNat) (by omega) hs; dsimp only at *; omega
  · rw [h.seen k hk, hset k hk, List.mem_append, List.mem_singleton]
    constructor
    · rintro ((h | h) | h)
      · exact .inl h
      · exact .inr (.inr h)
      · exact .inr (.inl h)
    · rintro (h | h | h)
      · exact .inl (.inl h)
      · exact .inr h
      · exact .inl (.inr h)
  · rcases List.mem_append.1 hb with h | h
    · obtain ⟨a1, a2, a3, -⟩ := hnew b h; exact ⟨a1, a2, a3⟩
    · rw [List.mem_singleton] at h; subst h; exact ⟨h0, h1, hs⟩
  · rw [List.nodup_append]
    refine ⟨h.nodup, by simp, fun b hb c hc e => ?_⟩
    rw [List.mem_singleton] at hc
    exact (hnew b hb).2.2.2 (e.trans hc)
  · rcases List.mem_append.1 hb with h' | h'
    · exact h.closed b h' n hn h2 h3
    · rw [List.mem_singleton] at h'; subst h'; exact h.rts n hn h2 h3
  · rw [List.mem_singleton] at hr; subst hr; exact ha
  · rw [List.length_append, List.length_singleton] at hk ⊢
    by_cases e : k = new.length
    · rw [ix_append_last e]; exact .inl (by simp)
    · have hk' : k < new.length := by omega
      rw [ix_append_left hk']
      right
      rcases h.up k hk' with h' | ⟨k', a1, a2, a3⟩
      · exact ⟨new.length, hk', by omega, by rw [ix_append_last rfl]; exact h'⟩
      · exact ⟨k', a1, by omega, by rw [ix_append_left a2]; exact a3⟩
theorem deep_spec (bs : List Bk) : ∀ (f : Nat) (a : Int) (s : List Bool × List Int), s.1.length = bs.length → cnt s.1 < f → ∃ new, DS bs [a] s (deepR bs f a s) new
  | 0, _, _, _, h => by omega
  | f + 1, a, s, hl, hc => by
    unfold deepR
    split
    · rename_i h
      refine ⟨[], by simp, hl, Nat.le_refl _, by simp, by simp, by simp, by simp, fun r hr h0 h1 => ?_, by simp⟩
      rw [List.mem_singleton] at hr; subst hr
      rcases h with h | h | h
      · omega
      · omega
      · exact h
    · rename_i h
      have h0 : 0 ≤ a := by omega
      have h1 : a < bs.length := by omega
      have hs : ix s.1 a.toNat = false := by cases e : ix s.1 a.toNat with
        | false => rfl
        | true => exact absurd (.inr (.inr e)) h
      have := cnt_set (seen := s.1) (i := a.toNat) (by omega) hs
      obtain ⟨new, hn⟩ := DS.all (fun a s => deep_spec bs f a s) (ix bs a.toNat).next (s.1.set a.toNat true, s.2) (by simpa using hl) (by dsimp only; omega)
      exact ⟨new ++ [a], DS.at h0 h1 hs hl hn⟩

/-- what is true of the order of a graph that has a block -/
structure OrderOk (bs : List Bk) (o : List Int) : Prop where
  pos : 0 < o.length
  zero : ix o 0 = 0
  len : o.length ≤ bs.length
  rng : ∀ i, i < o.length → 0 ≤ ix o i ∧ ix o i < bs.length
  inj : ∀ i j, i < j → j < o.length → ix o i ≠ ix o j
  led : ∀ i, 0 < i → i < o.length → ∃ j, j < i ∧ ix o i ∈ (ix bs (ix o j).toNat).next
  closed : ∀ i, i < o.length → ∀ n ∈ (ix bs (ix o i).toNat).next, 0 ≤ n → n < bs.length → n ∈ o
theorem ix_reverse {l : List Int} {i : Nat} (h : i < l.length) : ix l.reverse i = ix l (l.length - 1 - i) := by
  rw [ix_eq (by simpa using h), ix_eq (by omega), List.getElem_reverse]
theorem ix_mem {α : Type} [Inhabited α] {l : List α} {i : Nat} (h : i < l.length) : ix l i ∈ l := by rw [ix_eq h]; exact List.getElem_mem h
theorem nodup_sub_len : ∀ {l m : List Nat}, l.Nodup → l ⊆ m → l.length ≤ m.length
  | [], _, _, _ => Nat.zero_le _
  | a :: r, m, hn, hs => by
    obtain ⟨h1, h2⟩ := List.nodup_cons.1 hn
    have ha : a ∈ m := hs (by simp)
    have hr : r ⊆ m.erase a := fun b hb => (List.mem_erase_of_ne (fun (e : b = a) => h1 (by rw [← e]; exact hb))).2 (hs (List.mem_cons_of_mem _ hb))
    have h3 := nodup_sub_len h2 hr
    rw [List.length_erase_of_mem ha] at h3
    have := List.length_pos_of_mem ha
    rw [List.length_cons]; omega
theorem nodup_lt {n : Nat} : ∀ {l : List Int}, l.Nodup → (∀ a ∈ l, 0 ≤ a ∧ a < (n : Int)) → l.length ≤ n := fun {l} hn hr => by
  have h : (l.map Int.toNat).Nodup := by
    rw [List.nodup_iff_pairwise_ne, List.pairwise_map]
    refine (List.nodup_iff_pairwise_ne.1 hn).imp_of_mem ?_
    intro a b ha hb hne e
    have := hr a ha; have := hr b hb; omega
  have h2 : (l.map Int.toNat) ⊆ List.range n := by
    intro a ha
    obtain ⟨b, hb, rfl⟩ := List.mem_map.1 ha
    have := hr b hb
    rw [List.mem_range]; omega
  have := nodup_sub_len h h2
  simpa using this
theorem nodup_at {l : List Int} (h : l.Nodup) {i j : Nat} {hi : i < l.length} {hj : j < l.length} (e : l[i] = l[j]) : i = j := by
  have hp := List.pairwise_iff_getElem.1 (List.nodup_iff_pairwise_ne.1 h)
  rcases Nat.lt_trichotomy i j with h1 | h1 | h1
  · exact absurd e (hp i j hi hj h1)
  · exact h1
  · exact absurd e.symm (hp j i hj hi h1)
theorem order_ok {bs : List Bk} (hb : 0 < bs.length) : OrderOk bs (orderR bs) := by
  have hl : (List.replicate bs.length false).length = bs.length := by simp
  obtain ⟨new, h⟩ := deep_spec bs (bs.length + 1) 0 (List.replicate bs.length false, []) hl (by rw [cnt_replicate]; omega)
  have e : ∃ r, (deepR bs (bs.length + 1) 0 (List.replicate bs.length false, [])).2 = r ++ [0] := by
    unfold deepR
    have h1 : ix (List.replicate bs.length false) 0 = false := by rw [ix_eq (by simpa using hb)]; simp
    have hz : ¬ (bs.length : Int) ≤ 0 := by omega
    rw [if_neg (by rintro (h | h | h); · omega
                   · exact hz h
                   · rw [show (0 : Int).toNat = 0 from rfl, h1] at h; cases h)]
    exact ⟨_, rfl⟩
  obtain ⟨r, e⟩ := e
  have ho : orderR bs = new.reverse := by
    have := h.out
    simp only [List.nil_append] at this
    unfold orderR; rw [this]
  have hne : new = r ++ [0] := by have := h.out; rw [e] at this; simpa using this.symm
  have hlen : new.length = r.length + 1 := by rw [hne]; simp
  have hrng : ∀ b ∈ new, 0 ≤ b ∧ b < (bs.length : Int) := fun b hb => ⟨(h.fresh b hb).1, (h.fresh b hb).2.1⟩
  have hat : ∀ i, i < new.length → ix new.reverse i = ix new (new.length - 1 - i) := fun i hi => ix_reverse hi
  rw [ho]
  refine ⟨by simp; omega, ?_, by simpa using nodup_lt h.nodup hrng, fun i hi => ?_, fun i j hij hj e => ?_, fun i h0 hi => ?_, fun i hi n hn h0 h1 => ?_⟩
  · rw [hat 0 (by omega), hne, ix_append_last (by simp)]
  · rw [List.length_reverse] at hi; rw [hat i hi]; exact hrng _ (ix_mem (by omega))
  · rw [List.length_reverse] at hj
    rw [hat i (by omega), hat j hj, ix_eq (by omega), ix_eq (by omega)] at e
    have := nodup_at h.nodup e
    omega
  · rw [List.length_reverse] at hi
    rw [hat i hi]
    rcases h.up (new.length - 1 - i) (by omega) with h' | ⟨k', a1, a2, a3⟩
    · exfalso
      rw [List.mem_singleton] at h'
      have e0 : ix new (new.length - 1) = 0 := by rw [hne, ix_append_last (by simp)]
      rw [← e0, ix_eq (by omega), ix_eq (by omega)] at h'
      have := nodup_at h.nodup h'
      omega
    · refine ⟨new.length - 1 - k', by omega, ?_⟩
      rw [hat _ (by omega), show new.length - 1 - (new.length - 1 - k') = k' by omega]; exact a3
  · rw [List.length_reverse] at hi
    rw [hat i hi] at hn
    have := h.closed _ (ix_mem (by omega)) n hn h0 h1
    rw [h.seen n.toNat (by omega)] at this
    rcases this with h' | h'
    · rw [ix_eq (by simp; omega)] at h'; simp at h'
    · rw [List.mem_reverse]; rwa [Int.toNat_of_nonneg h0] at h'
end Go.Proofs.YtmkgfccfnpmcjaaDoor
