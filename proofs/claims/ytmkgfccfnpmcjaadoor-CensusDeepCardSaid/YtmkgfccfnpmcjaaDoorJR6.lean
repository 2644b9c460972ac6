/- Walks of the reference of layer 36: deep, Order, Preds. -/
import Derived.Test.YtmkgfccfnpmcjaaDoorJS
namespace Go.Proofs.YtmkgfccfnpmcjaaDoor
open Go.RowKit

/-- v is a slice of bools of the call's own -/
def OwnBl (base : Nat) (w : World) (v : Value) (xs : List Bool) : Prop := w.ownsRow base 4 1 v xs.length (xs.map Value.bool)
theorem OwnBl.get {base : Nat} {w : World} {g n cap : Nat} {xs : List Bool} (h : OwnBl base w (.slice (some ⟨g, 0, none⟩) n cap) xs) {i : Nat} (hi : i < xs.length) : w.cell? ⟨g, 0 + i, none⟩ = some (.bool (ix xs i)) := by
  have h1 : n = xs.length := by obtain ⟨p, c, e, _⟩ := own_slice h; cases e; rfl
  subst h1
  rw [Nat.zero_add, World.ownsRow.cellAt h i (by omega), List.getElem?_map, ix_some hi]; rfl
theorem OwnBl.free {base : Nat} {w : World} {g n cap : Nat} {xs : List Bool} (h : OwnBl base w (.slice (some ⟨g, 0, none⟩) n cap) xs) (j : Nat) : w.frozen? ⟨g, j, none⟩ = false := by
  have h1 : n = xs.length := by obtain ⟨p, c, e, _⟩ := own_slice h; cases e; rfl
  subst h1
  exact World.ownsRow.frozenAt h j
theorem OwnBl.set {base : Nat} {w : World} {g n cap : Nat} {xs : List Bool} (h : OwnBl base w (.slice (some ⟨g, 0, none⟩) n cap) xs) (i : Nat) (a : Bool) :
    OwnBl base (w.setCell ⟨g, 0 + i, none⟩ (.bool a)) (.slice (some ⟨g, 0, none⟩) n cap) (xs.set i a) ∧ Chg (fun k => k = g) w (w.setCell ⟨g, 0 + i, none⟩ (.bool a)) := by
  have h1 : n = xs.length := by obtain ⟨p, c, e, _⟩ := own_slice h; cases e; rfl
  subst h1
  obtain ⟨h2, h3⟩ := World.ownsRow.stored h i (.bool a)
  rw [Nat.zero_add]
  refine ⟨?_, (Chg.ofGrown h3).mono (fun k _ e => by cases e; rfl)⟩
  unfold OwnBl
  rw [List.length_set, List.map_set]; exact h2

/-- how many are not yet seen -/
def cnt (seen : List Bool) : Nat := seen.countP (fun b => !b)
theorem cnt_set {seen : List Bool} {i : Nat} (hi : i < seen.length) (h : ix seen i = false) : cnt (seen.set i true) + 1 = cnt seen := by
  unfold cnt
  rw [ix_eq hi] at h
  have := List.countP_set (p := fun b => !b) (l := seen) (i := i) (a := true) hi
  rw [this]
  have hm : seen[i] ∈ seen := List.getElem_mem hi
  have hp : 0 < seen.countP (fun b => !b) := List.countP_pos_iff.2 ⟨seen[i], hm, by simp [h]⟩
  simp [h]; omega

/-- the search: what has been seen, and the blocks in postorder -/
def deepR (bs : List Bk) : Nat → Int → List Bool × List Int → List Bool × List Int
  | 0, _, s => s
  | f + 1, a, s =>
    if a < 0 ∨ (bs.length : Int) ≤ a ∨ ix s.1 a.toNat = true then s
    else
      let t := (ix bs a.toNat).next.foldl (fun s b => deepR bs f b s) (s.1.set a.toNat true, s.2)
      (t.1, t.2 ++ [a])

theorem deepR_inv (bs : List Bk) : ∀ (f : Nat) (a : Int) (s : List Bool × List Int), s.1.length = bs.length →
    (deepR bs f a s).1.length = bs.length ∧ cnt (deepR bs f a s).1 ≤ cnt s.1 ∧ (deepR bs f a s).2.length + cnt (deepR bs f a s).1 ≤ s.2.length + cnt s.1
  | 0, _, s, hs => ⟨hs, Nat.le_refl _, Nat.le_refl _⟩
  | f + 1, a, s, hs => by
    unfold deepR
    split
    · exact ⟨hs, Nat.le_refl _, Nat.le_refl _⟩
    · rename_i hc
      have hc1 : ¬ a < 0 := fun h => hc (.inl h)
      have hc2 : ¬ (bs.length : Int) ≤ a := fun h => hc (.inr (.inl h))
      have hc3 : ix s.1 a.toNat = false := by cases h : ix s.1 a.toNat <;> simp_all
      have hset := cnt_set (seen := s.1) (i := a.toNat) (by omega) hc3
      have key : ∀ (l : List Int) (t : List Bool × List Int), t.1.length = bs.length → (l.foldl (fun s b => deepR bs f b s) t).1.length = bs.length ∧ cnt (l.foldl (fun s b => deepR bs f b s) t).1 ≤ cnt t.1 ∧ (l.foldl (fun s b => deepR bs f b s) t).2.length + cnt (l.foldl (fun s b => deepR bs f b s) t).1 ≤ t.2.length + cnt t.1 := by
        intro l
        induction l with
        | nil => intro t ht; exact ⟨ht, Nat.le_refl _, Nat.le_refl _⟩
        | cons b r ih =>
          intro t ht
          obtain ⟨h1, h2, h3⟩ := deepR_inv bs f b t ht
          obtain ⟨h4, h5, h6⟩ := ih _ h1
          simp only [List.foldl_cons]
          exact ⟨h4, by omega, by omega⟩
      obtain ⟨h1, h2, h3⟩ := key (ix bs a.toNat).next (s.1.set a.toNat true, s.2) (by simpa using hs)
      dsimp only at h1 h2 h3 ⊢
      refine ⟨h1, by omega, ?_⟩
      rw [List.length_append]; simp only [List.length_singleton]; omega

theorem foldDeep_inv (bs : List Bk) (f : Nat) : ∀ (l : List Int) (t : List Bool × List Int), t.1.length = bs.length → (l.foldl (fun s b => deepR bs f b s) t).1.length = bs.length ∧ cnt (l.foldl (fun s b => deepR bs f b s) t).1 ≤ cnt t.1 ∧ (l.foldl (fun s b => deepR bs f b s) t).2.length + cnt (l.foldl (fun s b => deepR bs f b s) t).1 ≤ t.2.length + cnt t.1
  | [], t, ht => ⟨ht, Nat.le_refl _, Nat.le_refl _⟩
  | b :: r, t, ht => by
    obtain ⟨h1, h2, h3⟩ := deepR_inv bs f b t ht
    obtain ⟨h4, h5, h6⟩ := foldDeep_inv bs f r _ h1
    simp only [List.foldl_cons]
    exact ⟨h4, by omega, by omega⟩

/-- the blocks that are reached, in reverse postorder -/
def orderR (bs : List Bk) : List Int := (deepR bs (bs.length + 1) 0 (List.replicate bs.length false, [])).2.reverse
theorem cnt_replicate (n : Nat) : cnt (List.replicate n false) = n := by unfold cnt; rw [List.countP_replicate]; simp

theorem deepR_rng (bs : List Bk) : ∀ (f : Nat) (a : Int) (s : List Bool × List Int), (∀ b ∈ s.2, 0 ≤ b ∧ b < bs.length) → ∀ b ∈ (deepR bs f a s).2, 0 ≤ b ∧ b < bs.length
  | 0, _, s, hs => hs
  | f + 1, a, s, hs => by
    unfold deepR
    split
    · exact hs
    · rename_i hc
      have hc1 : ¬ a < 0 := fun h => hc (.inl h)
      have hc2 : ¬ (bs.length : Int) ≤ a := fun h => hc (.inr (.inl h))
      have key : ∀ (l : List Int) (t : List Bool × List Int), (∀ b ∈ t.2, 0 ≤ b ∧ b < bs.length) → ∀ b ∈ (l.foldl (fun s b => deepR bs f b s) t).2, 0 ≤ b ∧ b < bs.length := by
        intro l
        induction l with
        | nil => intro t ht; exact ht
        | cons x r ih => intro t ht; exact ih _ (deepR_rng bs f x t ht)
      intro b hb
      rcases List.mem_append.1 hb with h | h
      · exact key (ix bs a.toNat).next (s.1.set a.toNat true, s.2) hs b h
      · simp at h; omega
theorem orderR_rng {bs : List Bk} {n : Nat} (hn : bs.length = n) {a : Int} (ha : a ∈ orderR bs) : 0 ≤ a ∧ a < n := by
  subst hn
  unfold orderR at ha
  exact deepR_rng bs _ 0 _ (by simp) a (List.mem_reverse.1 ha)
theorem orderR_len {bs : List Bk} (h : bs.length ≤ 1000000) : (orderR bs).length ≤ 2000000 := by
  have hinv := deepR_inv bs (bs.length + 1) 0 (List.replicate bs.length false, []) (by simp)
  rw [cnt_replicate] at hinv
  unfold orderR
  rw [List.length_reverse]
  simp at hinv
  omega

theorem OwnBl.ofMade {w : World} {base n : Nat} {v : Value} (h : w.ownsRow base 4 1 v n (madeCells #[.bool false] (n * 1)).toList) : OwnBl base w v (List.replicate n false) := by
  unfold OwnBl
  rw [Nat.mul_one, toList_madeCells_one] at h
  simpa using h

end Go.Proofs.YtmkgfccfnpmcjaaDoor
