/- Walks of the reference of layer 36: deep, Order, Preds. -/
import Derived.Test.YtmkgfccfnpmcjaaGreatDoorJS
namespace Go.Proofs.YtmkgfccfnpmcjaaGreatDoor
open Go.RowKit

/-- v is a slice of bools of the call's own -/
def OwnBl (base : Nat) (w : World) (v : Value) (xs : List Bool) : Prop := w.ownsRow base 4 1 v xs.length (xs.map Value.bool)
theorem OwnBl.get {base : Nat} {w : World} {g n cap : Nat} {xs : List Bool} (h : OwnBl base w (.slice (some ⟨g, 0, none⟩) n cap) xs) {i : Nat} (hi : i < xs.length) : w.cell? ⟨g, 0 + i, none⟩ = some (.bool (ix xs i)) := by
  have h1 : n = xs.length := by obtain ⟨p, c, e, _⟩ := own_slice h; cases e; rfl
  subst h1
  rw [Nat.zero_add, World.ownsRow.cellAt h i (by omega), List.getElem?_map, ix_some hi]; rfl
theorem OwnBl.free {base : Nat} {w : World} {g n cap : Nat} {xs : List Bool} (h : OwnBl base w (.slice (some ⟨g, 0, none⟩) n cap) xs) (j : Nat) : w.frozen? ⟨g, j, none⟩ = false := by
  have h1 : n = xs.length := by obtain ⟨p, c, e, _⟩ := own_slice h; cases e; rfl
  subst h1
  exact World.ownsRow.frozenAt h j
theorem OwnBl.set {base : Nat} {w : World} {g n cap : Nat} {xs : List Bool} (h : OwnBl base w (.slice (some ⟨g, 0, none⟩) n cap) xs) (i : Nat) (a : Bool) :
    OwnBl base (w.setCell ⟨g, 0 + i, none⟩ (.bool a)) (.slice (some ⟨g, 0, none⟩) n cap) (xs.set i a) ∧ Chg (fun k => k = g) w (w.setCell ⟨g, 0 + i, none⟩ (.bool a)) := by
  have h1 : n = xs.length := by obtain ⟨p, c, e, _⟩ := own_slice h; cases e; rfl
  subst h1
  obtain ⟨h2, h3⟩ := World.ownsRow.stored h i (.bool a)
  rw [Nat.zero_add]
  refine ⟨?_, (Chg.ofGrown h3).mono (fun k _ e => by cases e; rfl)⟩
  unfold OwnBl
  rw [List.length_set, List.map_set]; exact h2

/-- how many are not yet seen -/
def cnt (seen : List Bool) : Nat := seen.countP (fun b => !b)
theorem cnt_set {seen : List Bool} {i : Nat} (hi : i < seen.length) (h : ix seen i = false) : cnt (seen.set i true) + 1 = cnt seen := by
  unfold cnt
  rw [ix_eq hi] at h
  have := List.countP_set (p := fun b => !b) (l := seen) (i := i) (a := true) hi
  rw [this]
  have hm : seen[i] ∈ seen := List.getElem_mem hi
  have hp : 0 < seen.countP (fun b => !b) := List.countP_pos_iff.2 ⟨seen[i], hm, by simp [h]⟩
  simp [h]; omega

/-- the search: what has been seen, and the blocks in postorder -/
def deepR (bs : List Bk) : Nat → Int → List Bool × List Int → List Bool × List Int
  | 0, _, s => s
  | f + 1, a, s =>
    if a < 0 ∨ (bs.length : Int) ≤ a ∨ ix s.1 a.toNat = true then s
    else
      let t := (ix bs a.toNat).next.foldl (fun s b => deepR bs f b s) (s.1.set a.toNat true, s.2)
      (t.1, t.2 ++ [a])

theorem deepR_inv (bs : List Bk) : ∀ (f : Nat) (a : Int) (s : List Bool × List Int), s.1.length = bs.length →
    (deepR bs f a s).1.length = bs.length ∧ cnt (deepR bs f a s).1 ≤ cnt s.1 ∧ (deepR bs f a s).2.length + cnt (deepR bs f a s).1 ≤ s.2.length + cnt s.1
  | 0, _, s, hs => ⟨hs, Nat.le_refl _, Nat.le_refl _⟩
  | f + 1, a, s, hs => by
    unfold deepR
    split
    · exact ⟨hs, Nat.le_refl _, Nat.le_refl _⟩
    · rename_i hc
      have hc1 : ¬ a < 0 := fun h => hc (.inl h)
      have hc2 : ¬ (bs.length : Int) ≤ a := fun h => hc (.inr (.inl h))
      have hc3 : ix s.1 a.toNat = false := by cases h : ix s.1 a.toNat <;> simp_all
      have hset := cnt_set (seen := s.1) (i := a.toNat) (by omega) hc3
      have key : ∀ (l : List Int) (t : List Bool × List Int), t.1.length = bs.length → (l.foldl (fun s b => deepR bs f b s) t).1.length = bs.length ∧ cnt (l.foldl (fun s b => deepR bs f b s) t).1 ≤ cnt t.1 ∧ (l.foldl (fun s b => deepR bs f b s) t).2.length + cnt (l.foldl (fun s b => deepR bs f b s) t).1 ≤ t.2.length + cnt t.1 := by
        intro l
        induction l with
        | nil => intro t ht; exact ⟨ht, Nat.le_refl _, Nat.le_refl _⟩
        | cons b r ih =>
          intro t ht
          obtain ⟨h1, h2, h3⟩ := deepR_inv bs f b t ht
          obtain ⟨h4, h5, h6⟩ := ih _ h1
          simp only [List.foldl_cons]
          exact ⟨h4, by omega, by omega⟩
      obtain ⟨h1, h2, h3⟩ := key (ix bs a.toNat).next (s.1.set a.toNat true, s.2) (by simpa using hs)
      dsimp only at h1 h2 h3 ⊢
      refine ⟨h1, by omega, ?_⟩
      rw [List.length_append]; simp only [List.length_singleton]; omega

theorem foldDeep_inv (bs : List Bk) (f : Nat) : ∀ (l : List Int) (t : List Bool × List Int), t.1.length = bs.length → (l.foldl (fun s b => deepR bs f b s) t).1.length = bs.length ∧ cnt (l.foldl (fun s b => deepR bs f b s) t).1 ≤ cnt t.1 ∧ (l.foldl (fun s b => deepR bs f b s) t).2.length + cnt (l.foldl (fun s b => deepR bs f b s) t).1 ≤ t.2.length + cnt t.1
  | [], t, ht => ⟨ht, Nat.le_refl _, Nat.le_refl _⟩
  | b :: r, t, ht => by
    obtain ⟨h1, h2, h3⟩ := deepR_inv bs f b t ht
    obtain ⟨h4, h5, h6⟩ := foldDeep_inv bs f r _ h1
    simp only [List.foldl_cons]
    exact ⟨h4, by omega, by omega⟩

set_option maxRecDepth 100000 in
theorem ref36_deep (bs : List Bk) (nvs : List Value) (lv : Value) (B gs cs : Nat) : ∀ (f : Nat) (a : Int) (seen : List Bool) (out : List Int) (ov : Value) (w : World),
    BlocksN (fun k => k < B) w lv bs nvs → (∀ i, i < bs.length → (ix bs i).next.length ≤ 1000000000) → seen.length = bs.length → OwnBl B w (.slice (some ⟨gs, 0, none⟩) bs.length cs) seen → OwnI B w ov out → ov.ownBlock ≠ some gs → B ≤ w.heap.size → cnt seen < f → out.length + cnt seen ≤ 10000000 →
    Calls G.P 112 #[lv, .int .i64 a, .slice (some ⟨gs, 0, none⟩) bs.length cs, ov] w fun e w' => ∃ r, e = .returned r ∧ OwnBl B w' (.slice (some ⟨gs, 0, none⟩) bs.length cs) (deepR bs f a (seen, out)).1 ∧ OwnI B w' r (deepR bs f a (seen, out)).2 ∧
      (r.ownBlock = ov.ownBlock ∨ ∃ g, r.ownBlock = some g ∧ w.heap.size ≤ g) ∧ Chg (fun k => k = gs ∨ ov.ownBlock = some k) w w' := by
  intro f
  induction f with
  | zero => intro a seen out ov w _ _ _ _ _ _ _ h; omega
  | succ f ih =>
    intro a seen out ov w hb hnl hsl hs ho hne hB hcnt htot
    obtain ⟨p, cap, rfl, hl⟩ := hb.slice
    obtain ⟨po, co, rfl, hco, hcmo, hgo⟩ := own_slice ho
    have hgs := (hs.lt gs rfl)
    refine enter (G := G) Tryz.func112 rfl Tryz.ntmps112 rfl ?_
    by_cases h1 : a < 0
    · have hd : deepR bs (f + 1) a (seen, out) = (seen, out) := by unfold deepR; rw [if_pos (.inl h1)]
      refine wgo ?_
      exact Fin.ret1 rfl rfl ⟨_, rfl, by rw [hd]; exact hs, by rw [hd]; exact ho, .inl rfl, Chg.refl _ _⟩
    · by_cases h2 : (bs.length : Int) ≤ a
      · have hd : deepR bs (f + 1) a (seen, out) = (seen, out) := by unfold deepR; rw [if_pos (.inr (.inl h2))]
        refine wgo ?_
        exact Fin.ret1 rfl rfl ⟨_, rfl, by rw [hd]; exact hs, by rw [hd]; exact ho, .inl rfl, Chg.refl _ _⟩
      · obtain ⟨q, rfl⟩ := Int.eq_ofNat_of_zero_le (Int.not_lt.1 h1)
        have hq : q < bs.length := by omega
        have hcs := hs.get (i := q) (by omega)
        cases h3 : ix seen q with
        | true =>
          rw [h3] at hcs
          have hd : deepR bs (f + 1) (q : Int) (seen, out) = (seen, out) := by unfold deepR; rw [if_pos (.inr (.inr (by simpa using h3)))]
          refine wgo ?_
          exact Fin.ret1 rfl rfl ⟨_, rfl, by rw [hd]; exact hs, by rw [hd]; exact ho, .inl rfl, Chg.refl _ _⟩
        | false =>
          rw [h3] at hcs
          have hd : deepR bs (f + 1) (q : Int) (seen, out) = (((ix bs q).next.foldl (fun s b => deepR bs f b s) (seen.set q true, out)).1, ((ix bs q).next.foldl (fun s b => deepR bs f b s) (seen.set q true, out)).2 ++ [(q : Int)]) := by
            rw [deepR, if_neg (by simp [h3]; omega)]; rfl
          obtain ⟨b, off, rfl, hFb, hI⟩ := hb.at hq
          have hq4 := hI q hq
          obtain ⟨pn, cn, hnv, hnl2⟩ := hq4.next.slice
          have hset := cnt_set (seen := seen) (i := q) (by omega) h3
          refine wgo ?_
          refine Ops.e0 (Eff.store rfl rfl rfl rfl rfl hcs (hs.free _)) ?_
          rintro _ w1 rfl
          obtain ⟨hs1, hc1⟩ := hs.set q true
          generalize w.setCell ⟨gs, 0 + q, none⟩ (.bool true) = w1 at *
          refine wgo ?_
          have hnl3 := hnl q hq
          refine Cd.loop (σ := Nat × Value) (fun s => [(0, .slice (some ⟨b, off, none⟩) bs.length cap), (1, .int .i64 q), (2, .slice (some ⟨gs, 0, none⟩) bs.length cs), (3, s.2), (9, .int .i64 s.1)])
            (fun s wr => s.1 ≤ (ix bs q).next.length ∧ OwnBl B wr (.slice (some ⟨gs, 0, none⟩) bs.length cs) (((ix bs q).next.take s.1).foldl (fun s b => deepR bs f b s) (seen.set q true, out)).1 ∧ OwnI B wr s.2 (((ix bs q).next.take s.1).foldl (fun s b => deepR bs f b s) (seen.set q true, out)).2 ∧
              (s.2.ownBlock = (Value.slice po out.length co).ownBlock ∨ ∃ g, s.2.ownBlock = some g ∧ w.heap.size ≤ g) ∧ Chg (fun k => k = gs ∨ (Value.slice po out.length co).ownBlock = some k) w wr) (fun s => (ix bs q).next.length - s.1) (0, _) wsub
            ⟨Nat.zero_le _, hs1, own_chg ho hc1 (fun k hk e => by subst e; exact hne hk), .inl rfl, hc1.mono (fun k _ e => .inl e)⟩ ?_
          rintro ⟨k, o⟩ wr ⟨hk, hsr, hor, hblk, hcr⟩
          dsimp only at hk hsr hor hblk hcr ⊢
          have hbr : BlocksN (fun k => k < B) wr (.slice (some ⟨b, off, none⟩) bs.length cap) bs nvs := hb.chg hcr (fun i hi hF h => by
            rcases h with h | h
            · subst h; omega
            · have := (ho.lt i h).1; omega)
          obtain ⟨b', off', e', -, hI'⟩ := hbr.at hq
          cases e'
          have hnx := (hI' q hq).nx
          rw [hnv] at hnx
          have hnr := (hI' q hq).next
          rw [hnv] at hnr
          have hinv := foldDeep_inv bs f ((ix bs q).next.take k) (seen.set q true, out) (by simpa using hsl)
          dsimp only at hinv
          have hneo : o.ownBlock ≠ some gs := by
            rcases hblk with h | ⟨g, h, hg⟩
            · rw [h]; exact hne
            · rw [h]; intro e; cases e; omega
          by_cases hlt : k < (ix bs q).next.length
          · obtain ⟨bn, on_, rfl, -, hN⟩ := hnr.at hlt
            have hNk := hN k hlt
            refine wgo ?_
            refine Ops.call rfl rfl rfl (ih _ _ _ _ wr hbr hnl hinv.1 hsr hor hneo (by have := hcr.size; omega) (by omega) (by omega)) ?_
            rintro _ w2 ⟨r, rfl, hs2, ho2, hblk2, hc2⟩
            refine ⟨_, rfl, ?_⟩
            refine wgo ?_
            refine Fin.next (k + 1, r) wsub ⟨by omega, ?_, ?_, ?_, ?_⟩ (by dsimp only; omega)
            · dsimp only; rw [take_succ_ix hlt, List.foldl_append]; exact hs2
            · dsimp only; rw [take_succ_ix hlt, List.foldl_append]; exact ho2
            · dsimp only
              rcases hblk2 with h | ⟨g, h, hg⟩
              · rw [h]; exact hblk
              · exact .inr ⟨g, h, by have := hcr.size; omega⟩
            · refine hcr.trans' hc2 (fun i hi h => ?_)
              rcases h with h | h
              · exact .inl h
              · rcases hblk with h' | ⟨g, h', hg⟩
                · rw [h'] at h; exact .inr h
                · rw [h'] at h; cases h; omega
          · obtain rfl : k = (ix bs q).next.length := by omega
            rw [List.take_length] at hsr hor hinv
            refine wgo ?_
            refine Ops.e (Eff.buildSlice (cs := [.int .i64 q]) (e := 3) rfl (by kernel_rfl)) rfl ?_
            rintro _ w4 ⟨rfl, hn4⟩
            refine Ops.e (Eff.appIB rfl rfl (hor.ext hn4.ext) (by have := hcr.size; have := hn4.size; omega) (hn4.blk.cell rfl) (by omega)) rfl ?_
            rintro v5 w5 ⟨hown5, hc5, hb5⟩
            refine wgo ?_
            refine Fin.ret1 rfl rfl ⟨_, rfl, ?_, ?_, ?_, ?_⟩
            · rw [hd]; exact own_chg (own_chg hsr hn4.ext (fun _ _ h => h)) hc5 (fun k hk h => by cases hk; exact hneo h)
            · rw [hd]; exact hown5
            · rcases hb5 with h | h
              · rw [h]; exact hblk
              · exact .inr ⟨_, h, by have := hcr.size; have := hn4.size; omega⟩
            · refine (hcr.trans' hn4.ext (fun _ _ h => h.elim)).trans' hc5 (fun i hi h => ?_)
              rcases hblk with h' | ⟨g, h', hg⟩
              · rw [h'] at h; exact .inr h
              · rw [h'] at h; cases h; omega

/-- the blocks that are reached, in reverse postorder -/
def orderR (bs : List Bk) : List Int := (deepR bs (bs.length + 1) 0 (List.replicate bs.length false, [])).2.reverse
theorem cnt_replicate (n : Nat) : cnt (List.replicate n false) = n := by unfold cnt; rw [List.countP_replicate]; simp

theorem deepR_rng (bs : List Bk) : ∀ (f : Nat) (a : Int) (s : List Bool × List Int), (∀ b ∈ s.2, 0 ≤ b ∧ b < bs.length) → ∀ b ∈ (deepR bs f a s).2, 0 ≤ b ∧ b < bs.length
  | 0, _, s, hs => hs
  | f + 1, a, s, hs => by
    unfold deepR
    split
    · exact hs
    · rename_i hc
      have hc1 : ¬ a < 0 := fun h => hc (.inl h)
      have hc2 : ¬ (bs.length : Int) ≤ a := fun h => hc (.inr (.inl h))
      have key : ∀ (l : List Int) (t : List Bool × List Int), (∀ b ∈ t.2, 0 ≤ b ∧ b < bs.length) → ∀ b ∈ (l.foldl (fun s b => deepR bs f b s) t).2, 0 ≤ b ∧ b < bs.length := by
        intro l
        induction l with
        | nil => intro t ht; exact ht
        | cons x r ih => intro t ht; exact ih _ (deepR_rng bs f x t ht)
      intro b hb
      rcases List.mem_append.1 hb with h | h
      · exact key (ix bs a.toNat).next (s.1.set a.toNat true, s.2) hs b h
      · simp at h; omega
theorem orderR_rng {bs : List Bk} {n : Nat} (hn : bs.length = n) {a : Int} (ha : a ∈ orderR bs) : 0 ≤ a ∧ a < n := by
  subst hn
  unfold orderR at ha
  exact deepR_rng bs _ 0 _ (by simp) a (List.mem_reverse.1 ha)
theorem orderR_len {bs : List Bk} (h : bs.length ≤ 1000000) : (orderR bs).length ≤ 2000000 := by
  have hinv := deepR_inv bs (bs.length + 1) 0 (List.replicate bs.length false, []) (by simp)
  rw [cnt_replicate] at hinv
  unfold orderR
  rw [List.length_reverse]
  simp at hinv
  omega

theorem OwnBl.ofMade {w : World} {base n : Nat} {v : Value} (h : w.ownsRow base 4 1 v n (madeCells #[.bool false] (n * 1)).toList) : OwnBl base w v (List.replicate n false) := by
  unfold OwnBl
  rw [Nat.mul_one, toList_madeCells_one] at h
  simpa using h

set_option maxRecDepth 100000 in
theorem ref36_Order (bs : List Bk) (nvs : List Value) (lv : Value) (w : World) (hb : BlocksN (fun _ => True) w lv bs nvs) (hnl : ∀ i, i < bs.length → (ix bs i).next.length ≤ 1000000000) (hsm : bs.length ≤ 1000000) :
    Calls G.P 82 #[lv] w fun e w' => ∃ r, e = .returned r ∧ OwnI w.heap.size w' r (orderR bs) ∧ Ext w w' := by
  obtain ⟨p, cap, rfl, hl⟩ := hb.slice
  refine enter (G := G) Tryz.func82 rfl Tryz.ntmps82 rfl ?_
  refine wgo ?_
  refine Ops.e (Eff.make (base := w.heap.size) rfl rfl rfl rfl (by show 1 * bs.length ≤ _; omega) (by unfold maxLen; omega) (Nat.le_refl _)) rfl ?_
  rintro _ w1 ⟨rfl, hm1, hx1, hsz1⟩
  have hs1 := OwnBl.ofMade hm1
  have hb1 : BlocksN (fun k => k < w.heap.size) w1 (.slice p bs.length cap) bs nvs := by
    refine BlocksN.chg ?_ hx1 (fun _ _ _ h => h)
    obtain ⟨p', c', e, h1, h2, h3, h4⟩ := hb
    refine ⟨p', c', e, h1, h2, fun i hi => (h3 i hi).mono (fun k hk _ => hk), ?_⟩
    by_cases h0 : bs = []
    · exact .inl h0
    · rcases h4 with h4 | ⟨b, off, e2, _, h5⟩
      · exact .inl h4
      · refine .inr ⟨b, off, e2, ?_, h5⟩
        exact cell_lt (p := ⟨b, off + 0 * 4 + 0, none⟩) (v := .int .i64 (ix bs 0).fr) (h5 0 (List.length_pos_iff.2 h0) 0 (by omega))
  refine Ops.call rfl rfl rfl (ref36_deep bs nvs _ w.heap.size w.heap.size bs.length (bs.length + 1) 0 _ [] (.slice none 0 0) w1 hb1 hnl (by simp) hs1 (OwnI.nil _ _) (by simp [Value.ownBlock]) (by omega) (by rw [cnt_replicate]; omega) (by rw [cnt_replicate]; simp; omega)) ?_
  rintro _ w2 ⟨r, rfl, hs2, ho2, hblk2, hc2⟩
  refine ⟨_, rfl, ?_⟩
  have hx2 : Ext w w2 := hx1.trans' hc2 (fun i hi h => by
    rcases h with h | h
    · omega
    · cases h)
  have hinv := deepR_inv bs (bs.length + 1) 0 (List.replicate bs.length false, []) (by simp)
  rw [cnt_replicate] at hinv
  generalize hD : (deepR bs (bs.length + 1) 0 (List.replicate bs.length false, [])).2 = D at *
  have hO : orderR bs = D.reverse := by unfold orderR; rw [hD]
  obtain ⟨pd, cd, rfl, hcd, hcmd, hgd⟩ := own_slice ho2
  have hDl : D.length ≤ 2000000 := by simp at hinv; omega
  refine wgo ?_
  refine Cd.loop (σ := Nat × Value) (fun s => [(3, .slice pd D.length cd), (4, s.2), (5, .int .i64 ((D.length : Int) - 1 - s.1))]) (fun s wr => s.1 ≤ D.length ∧ OwnI w2.heap.size wr s.2 (D.reverse.take s.1) ∧ Ext w2 wr) (fun s => D.length - s.1) (0, _) wsub
    ⟨Nat.zero_le _, OwnI.nil _ _, Chg.refl _ _⟩ ?_
  rintro ⟨k, o⟩ wr ⟨hk, hown, hext⟩
  dsimp only at hk hown hext ⊢
  by_cases hlt : k < D.length
  · obtain ⟨g, rfl, hg1, hg2⟩ := hgd (by omega)
    have hc := hext.cell (ho2.get (i := D.length - 1 - k) (by omega))
    refine wgo ?_
    refine Ops.y (Yl.idx1 rfl rfl rfl rfl rfl (i := D.length - 1 - k) (by omega) (by omega)) rfl ?_
    refine wgo ?_
    refine Ops.e (Eff.buildSlice (cs := [.int .i64 (ix D (D.length - 1 - k))]) (e := 3) rfl (by kernel_rfl)) rfl ?_
    rintro _ w4 ⟨rfl, hn4⟩
    refine Ops.e (Eff.appI rfl rfl (hown.ext hn4.ext) (by have := hext.size; have := hn4.size; omega) (hn4.blk.cell rfl) (by simp; omega)) rfl ?_
    rintro v5 w5 ⟨hown5, hc5⟩
    refine wgo ?_
    refine Fin.next (k + 1, v5) wsub ⟨by omega, ?_, (hext.trans hn4.ext).trans' hc5 (fun i hi h => by have := (hown.lt i h).1; omega)⟩ (by dsimp only; omega)
    dsimp only
    rw [take_succ_ix (by simpa using hlt)]
    rw [show ix D.reverse k = ix D (D.length - 1 - k) by rw [ix_eq (by simpa using hlt), ix_eq (by omega), List.getElem_reverse]]
    exact hown5
  · obtain rfl : k = D.length := by omega
    rw [show D.reverse.take D.length = D.reverse from List.take_of_length_le (by simp)] at hown
    refine wgo ?_
    refine Fin.ret1 rfl rfl ⟨_, rfl, ?_, hx2.trans hext⟩
    rw [hO]; exact own_base hown (fun k hk => by have := (hown.lt k hk).1; have := hx2.size; omega)
end Go.Proofs.YtmkgfccfnpmcjaaGreatDoor
