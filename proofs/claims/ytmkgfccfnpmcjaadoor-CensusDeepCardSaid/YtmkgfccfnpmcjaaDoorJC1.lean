/- Walks of nest.Check, Elses, Ends, Heads, Target. -/
import Derived.Test.YtmkgfccfnpmcjaaDoorJN2
namespace Go.Proofs.YtmkgfccfnpmcjaaDoor
open Go.RowKit

theorem nest_look_ok (xs : List Ins) (v : Value) (w : World) (hb : Body w v xs) (hsm : xs.length ≤ 1000000000) (hok : (checkR xs).2 = 0) :
    Calls G.P 34 #[v] w fun e w' => ∃ p1 c1 p2 c2 p3 c3 p4 c4, e = .returned (.tuple #[.agg #[.slice p1 xs.length c1, .slice p2 xs.length c2, .slice p3 xs.length c3, .slice p4 xs.length c4], .int .i64 (checkR xs).1, .int .i64 0]) ∧ Ext w w' ∧
      OwnI w.heap.size w' (.slice p1 xs.length c1) (endsR xs) ∧ OwnI w.heap.size w' (.slice p2 xs.length c2) (elsesR xs) ∧ OwnI w.heap.size w' (.slice p3 xs.length c3) (depthsR xs) ∧ OwnI w.heap.size w' (.slice p4 xs.length c4) (headsR xs) := by
  refine (nest_look xs v w hb hsm).mono ?_
  rintro e w' ⟨hx, ⟨h, _⟩ | ⟨h, v1, v2, v3, v4, rfl, o1, o2, o3, o4⟩⟩
  · exact absurd hok h
  · obtain ⟨p1, c1, rfl, _⟩ := own_slice o1
    obtain ⟨p2, c2, rfl, _⟩ := own_slice o2
    obtain ⟨p3, c3, rfl, _⟩ := own_slice o3
    obtain ⟨p4, c4, rfl, _⟩ := own_slice o4
    have q1 : (endsR xs).length = xs.length := endsTo_len xs _
    have q2 : (elsesR xs).length = xs.length := elsesTo_len xs _
    have q3 : (depthsR xs).length = xs.length := depthsTo_len xs _
    have q4 : (headsR xs).length = xs.length := headsTo_len xs _
    rw [q1] at o1 ⊢; rw [q2] at o2 ⊢; rw [q3] at o3 ⊢; rw [q4] at o4 ⊢
    exact ⟨p1, c1, p2, c2, p3, c3, p4, c4, by rw [h], hx, o1, o2, o3, o4⟩

theorem nest_Check (xs : List Ins) (v : Value) (w : World) (hb : Body w v xs) (hsm : xs.length ≤ 1000000000) :
    Calls G.P 17 #[v] w fun e w' => e = .returned (.tuple #[.int .i64 (checkR xs).1, .int .i64 (checkR xs).2]) ∧ Ext w w' := by
  obtain ⟨p, cap, rfl, hl⟩ := hb.slice
  have hR : Calls G.P 34 #[.slice p xs.length cap] w fun e w' => ∃ p1 l1 c1 p2 l2 c2 p3 l3 c3 p4 l4 c4, e = .returned (.tuple #[.agg #[.slice p1 l1 c1, .slice p2 l2 c2, .slice p3 l3 c3, .slice p4 l4 c4], .int .i64 (checkR xs).1, .int .i64 (checkR xs).2]) ∧ Ext w w' := by
    refine (nest_look xs _ w hb hsm).mono ?_
    rintro e w' ⟨hx, ⟨h, rfl⟩ | ⟨h, v1, v2, v3, v4, rfl, o1, o2, o3, o4⟩⟩
    · exact ⟨none, 0, 0, none, 0, 0, none, 0, 0, none, 0, 0, rfl, hx⟩
    · obtain ⟨p1, c1, rfl, _⟩ := own_slice o1
      obtain ⟨p2, c2, rfl, _⟩ := own_slice o2
      obtain ⟨p3, c3, rfl, _⟩ := own_slice o3
      obtain ⟨p4, c4, rfl, _⟩ := own_slice o4
      exact ⟨_, _, _, _, _, _, _, _, _, _, _, _, rfl, hx⟩
  refine enter (G := G) Tryd.func17 rfl Tryd.ntmps17 rfl ?_
  refine wgo ?_
  refine Ops.call rfl rfl rfl hR ?_
  rintro _ w1 ⟨p1, l1, c1, p2, l2, c2, p3, l3, c3, p4, l4, c4, rfl, hx1⟩
  refine ⟨_, rfl, ?_⟩
  refine wgo ?_
  refine Ops.e (Eff.alloc rfl) rfl ?_
  rintro _ w2 ⟨rfl, hn2⟩
  refine Ops.e0 (Eff.storeB rfl rfl rfl rfl rfl (by simp [Value.oneCell']) hn2.blk rfl) ?_
  rintro _ w3 ⟨hb3, hc3, hs3⟩
  have hx3 : Ext w1 w3 := hn2.ext.trans' hc3 (fun i hi e => by omega)
  refine wgo ?_
  exact Fin.ret2 rfl rfl rfl ⟨rfl, hx1.trans hx3⟩


theorem nest_Elses (xs : List Ins) (v : Value) (w : World) (hb : Body w v xs) (hsm : xs.length ≤ 1000000000) (hok : (checkR xs).2 = 0) :
    Calls G.P 18 #[v] w fun e w' => ∃ r, e = .returned r ∧ OwnI w.heap.size w' r (elsesR xs) ∧ Ext w w' := by
  obtain ⟨p, cap, rfl, hl⟩ := hb.slice
  refine enter (G := G) Tryd.func18 rfl Tryd.ntmps18 rfl ?_
  refine wgo ?_
  refine Ops.call rfl rfl rfl (nest_look_ok xs _ w hb hsm hok) ?_
  rintro _ w1 ⟨p1, c1, p2, c2, p3, c3, p4, c4, rfl, hx1, o1, o2, o3, o4⟩
  refine ⟨_, rfl, ?_⟩
  refine wgo ?_
  refine Ops.e (Eff.alloc rfl) rfl ?_
  rintro _ w2 ⟨rfl, hn2⟩
  refine Ops.e0 (Eff.storeB rfl rfl rfl rfl rfl (by simp [Value.oneCell']) hn2.blk rfl) ?_
  rintro _ w3 ⟨hb3, hc3, hs3⟩
  have hx3 : Ext w1 w3 := hn2.ext.trans' hc3 (fun i hi e => by omega)
  have hc := hb3.cell (j := 1) rfl
  refine wgo ?_
  exact Fin.ret1 rfl rfl ⟨_, rfl, o2.ext hx3, hx1.trans hx3⟩


theorem nest_Ends (xs : List Ins) (v : Value) (w : World) (hb : Body w v xs) (hsm : xs.length ≤ 1000000000) (hok : (checkR xs).2 = 0) :
    Calls G.P 19 #[v] w fun e w' => ∃ r, e = .returned r ∧ OwnI w.heap.size w' r (endsR xs) ∧ Ext w w' := by
  obtain ⟨p, cap, rfl, hl⟩ := hb.slice
  refine enter (G := G) Tryd.func19 rfl Tryd.ntmps19 rfl ?_
  refine wgo ?_
  refine Ops.call rfl rfl rfl (nest_look_ok xs _ w hb hsm hok) ?_
  rintro _ w1 ⟨p1, c1, p2, c2, p3, c3, p4, c4, rfl, hx1, o1, o2, o3, o4⟩
  refine ⟨_, rfl, ?_⟩
  refine wgo ?_
  refine Ops.e (Eff.alloc rfl) rfl ?_
  rintro _ w2 ⟨rfl, hn2⟩
  refine Ops.e0 (Eff.storeB rfl rfl rfl rfl rfl (by simp [Value.oneCell']) hn2.blk rfl) ?_
  rintro _ w3 ⟨hb3, hc3, hs3⟩
  have hx3 : Ext w1 w3 := hn2.ext.trans' hc3 (fun i hi e => by omega)
  have hc := hb3.cell (j := 0) rfl
  refine wgo ?_
  exact Fin.ret1 rfl rfl ⟨_, rfl, o1.ext hx3, hx1.trans hx3⟩


theorem nest_Heads (xs : List Ins) (v : Value) (w : World) (hb : Body w v xs) (hsm : xs.length ≤ 1000000000) (hok : (checkR xs).2 = 0) :
    Calls G.P 20 #[v] w fun e w' => ∃ r, e = .returned r ∧ OwnI w.heap.size w' r (headsR xs) ∧ Ext w w' := by
  obtain ⟨p, cap, rfl, hl⟩ := hb.slice
  refine enter (G := G) Tryd.func20 rfl Tryd.ntmps20 rfl ?_
  refine wgo ?_
  refine Ops.call rfl rfl rfl (nest_look_ok xs _ w hb hsm hok) ?_
  rintro _ w1 ⟨p1, c1, p2, c2, p3, c3, p4, c4, rfl, hx1, o1, o2, o3, o4⟩
  refine ⟨_, rfl, ?_⟩
  refine wgo ?_
  refine Ops.e (Eff.alloc rfl) rfl ?_
  rintro _ w2 ⟨rfl, hn2⟩
  refine Ops.e0 (Eff.storeB rfl rfl rfl rfl rfl (by simp [Value.oneCell']) hn2.blk rfl) ?_
  rintro _ w3 ⟨hb3, hc3, hs3⟩
  have hx3 : Ext w1 w3 := hn2.ext.trans' hc3 (fun i hi e => by omega)
  have hc := hb3.cell (j := 3) rfl
  refine wgo ?_
  exact Fin.ret1 rfl rfl ⟨_, rfl, o4.ext hx3, hx1.trans hx3⟩


theorem round_take (xs : List Ins) : ∀ (a j : Nat), j < (roundR xs a).length → 0 ≤ ix (roundR xs a) j → roundR xs (ix (roundR xs a) j).toNat = (roundR xs a).take j
  | 0, j, hj, h0 => by
    have : j = 0 := by simp [roundR] at hj; exact hj
    subst this; simp [roundR, ix] at h0
  | a + 1, j, hj, h0 => by
    cases ho : opensB (ix xs a).op with
    | true =>
      rw [round_open ho] at hj h0 ⊢
      by_cases e : j = (roundR xs a).length
      · subst e; rw [ix_append_last rfl]; simp
      · have hj' : j < (roundR xs a).length := by simp at hj; omega
        rw [ix_append_left hj'] at h0 ⊢
        rw [round_take xs a j hj' h0, List.take_append_of_le_length (by omega)]
    | false =>
      by_cases h11 : (ix xs a).op = 11
      · by_cases hz : 0 < (roundR xs a).length
        · rw [round_end h11 hz] at hj h0 ⊢
          have hj' : j < (roundR xs a).length - 1 := by simpa using hj
          rw [ix_dropLast hj'] at h0 ⊢
          rw [round_take xs a j (by omega) h0, List.dropLast_eq_take, List.take_take]
          congr 1; omega
        · have : roundR xs (a + 1) = roundR xs a := by
            show stepR _ _ _ = _
            unfold stepR; simp [ho]; intro _ h; simp [h] at hz
          rw [this] at hj h0 ⊢; exact round_take xs a j hj h0
      · rw [round_plain ho h11] at hj h0 ⊢; exact round_take xs a j hj h0
theorem round_pos {xs : List Ins} {a j : Nat} (hj : j < (roundR xs a).length) (h1 : 0 < j) : 0 ≤ ix (roundR xs a) j ∧ ix (roundR xs a) j < a := by
  have hs := round_sorted xs a
  rw [List.pairwise_iff_getElem] at hs
  have h2 := hs 0 j (by omega) hj h1
  have h3 := roundR_mem (List.getElem_mem (l := roundR xs a) (n := 0) (by omega))
  have h4 := roundR_mem (List.getElem_mem (l := roundR xs a) (n := j) hj)
  rw [ix_eq hj]; omega
/-- what the row of heads holds at the opener of a block -/
theorem heads_up {xs : List Ins} {a j : Nat} (ha : a ≤ xs.length) (hj : j < (roundR xs a).length) (h1 : 0 < j) : ix (headsR xs) (ix (roundR xs a) j).toNat = ix (roundR xs a) (j - 1) := by
  obtain ⟨h0, h2⟩ := round_pos hj h1
  unfold headsR
  rw [headsTo_ix (by omega) (Nat.le_refl _), round_take xs a j hj h0]
  unfold lastI
  have hl : ((roundR xs a).take j).length = j := by simp; omega
  rw [hl, ix_eq (by rw [hl]; omega), ix_eq (by omega), List.getElem_take]

theorem nest_Target (xs : List Ins) (v : Value) (a : Nat) (l : Int) (w : World) (hb : Body w v xs) (hsm : xs.length ≤ 1000000000) (hok : (checkR xs).2 = 0) (ha : a < xs.length) :
    Calls G.P 60 #[v, .int .i64 a, .int .i64 l] w fun e w' => e = .returned (.tuple #[.int .i64 ((targetR xs a l).getD 0), .bool (targetR xs a l).isSome]) ∧ Ext w w' := by
  obtain ⟨p, cap, rfl, hl⟩ := hb.slice
  refine enter (G := G) Tryd.func60 rfl Tryd.ntmps60 rfl ?_
  refine wgo ?_
  refine Ops.call rfl rfl rfl (nest_look_ok xs _ w hb hsm hok) ?_
  rintro _ w1 ⟨p1, c1, p2, c2, p3, c3, p4, c4, rfl, hx1, o1, o2, o3, o4⟩
  refine ⟨_, rfl, ?_⟩
  refine wgo ?_
  refine Ops.e (Eff.alloc rfl) rfl ?_
  rintro _ w2 ⟨rfl, hn2⟩
  refine Ops.e0 (Eff.storeB rfl rfl rfl rfl rfl (by simp [Value.oneCell']) hn2.blk rfl) ?_
  rintro _ w3 ⟨hb3, hc3, hs3⟩
  have hx3 : Ext w1 w3 := hn2.ext.trans' hc3 (fun i hi e => by omega)
  have hx : Ext w w3 := hx1.trans hx3
  have q1 : (endsR xs).length = xs.length := endsTo_len xs _
  have q3 : (depthsR xs).length = xs.length := depthsTo_len xs _
  have q4 : (headsR xs).length = xs.length := headsTo_len xs _
  obtain ⟨p1', c1', e1, _, _, g1⟩ := own_slice o1
  rw [q1] at e1
  cases e1
  obtain ⟨g1, rfl, _⟩ := g1 (by omega)
  obtain ⟨p3', c3', e3, _, _, g3⟩ := own_slice o3
  rw [q3] at e3
  cases e3
  obtain ⟨g3, rfl, _⟩ := g3 (by omega)
  obtain ⟨p4', c4', e4, _, _, g4⟩ := own_slice o4
  rw [q4] at e4
  cases e4
  obtain ⟨g4, rfl, _⟩ := g4 (by omega)
  replace o1 := o1.ext hx3
  replace o3 := o3.ext hx3
  replace o4 := o4.ext hx3
  generalize w1.heap.size = sb at *
  have hd1 : w3.cell? ⟨sb, 0, none⟩ = _ := hb3.cell (j := 0) rfl
  have hd3 : w3.cell? ⟨sb, 0 + 2, none⟩ = _ := hb3.cell (j := 2) rfl
  have hd4 : w3.cell? ⟨sb, 0 + 3, none⟩ = _ := hb3.cell (j := 3) rfl
  have hdep := o3.get (i := a) (by omega)
  have hhd := o4.get (i := a) (by omega)
  unfold depthsR at hdep
  unfold headsR at hhd
  rw [depthsTo_ix ha (Nat.le_refl _)] at hdep
  rw [headsTo_ix ha (Nat.le_refl _)] at hhd
  have hT : targetR xs a l = if l < 0 ∨ ((roundR xs a).length : Int) ≤ l then none else
      if ix (roundR xs a) ((roundR xs a).length - 1 - l.toNat) < 0 then some ((xs.length : Int) - 1)
      else if (ix xs (ix (roundR xs a) ((roundR xs a).length - 1 - l.toNat)).toNat).op = 3 then some (ix (roundR xs a) ((roundR xs a).length - 1 - l.toNat) + 1)
      else some (ix (endsR xs) (ix (roundR xs a) ((roundR xs a).length - 1 - l.toNat)).toNat) := rfl
  have hlen := roundR_len xs a
  by_cases hneg : l < 0
  · rw [if_pos (.inl hneg)] at hT
    refine wgo ?_
    exact Fin.ret2 rfl rfl rfl ⟨by rw [hT]; rfl, hx⟩
  · by_cases hge : ((roundR xs a).length : Int) ≤ l
    · rw [if_pos (.inr hge)] at hT
      refine wgo ?_
      exact Fin.ret2 rfl rfl rfl ⟨by rw [hT]; rfl, hx⟩
    · rw [if_neg (by omega)] at hT
      obtain ⟨m, rfl⟩ := Int.eq_ofNat_of_zero_le (Int.not_lt.1 hneg)
      rw [Int.toNat_natCast] at hT
      obtain ⟨b, off, rfl, -, hI⟩ := hb.at ha
      refine wgo ?_
      refine Cd.loop (σ := Nat) (fun s => [(0, .slice (some ⟨b, off, none⟩) xs.length cap), (8, .pointer (some ⟨sb, 0, none⟩)), (2, .int .i64 s), (11, .int .i64 (ix (roundR xs a) ((roundR xs a).length - 1 - (m - s))))]) (fun s wr => s ≤ m ∧ wr = w3) (fun s => s) m (by rw [show m - m = 0 by omega]; exact wsub) ⟨Nat.le_refl _, rfl⟩ ?_
      rintro s _ ⟨hs, rfl⟩
      by_cases h0 : 0 < s
      · have hj : (roundR xs a).length - 1 - (m - s) < (roundR xs a).length := by omega
        have hj1 : 0 < (roundR xs a).length - 1 - (m - s) := by omega
        obtain ⟨hp0, hp1⟩ := round_pos hj hj1
        have hup := heads_up (Nat.le_of_lt ha) hj hj1
        rw [show (roundR xs a).length - 1 - (m - s) - 1 = (roundR xs a).length - 1 - (m - (s - 1)) by omega] at hup
        generalize ix (roundR xs a) ((roundR xs a).length - 1 - (m - s)) = hd at *
        obtain ⟨h, rfl⟩ := Int.eq_ofNat_of_zero_le hp0
        have hc := o4.get (i := h) (by omega)
        rw [Int.toNat_natCast] at hup
        rw [hup] at hc
        refine wgo ?_
        exact Fin.next (s - 1) wsub ⟨by omega, rfl⟩ (by omega)
      · obtain rfl : s = 0 := by omega
        rw [Nat.sub_zero]
        have hmem : ix (roundR xs a) ((roundR xs a).length - 1 - m) ∈ roundR xs a := by rw [ix_eq (by omega)]; exact List.getElem_mem _
        have hlast := roundR_mem hmem
        generalize ix (roundR xs a) ((roundR xs a).length - 1 - m) = hd at *
        by_cases hd0 : hd < 0
        · rw [if_pos hd0] at hT
          refine wgo ?_
          exact Fin.ret2 rfl rfl rfl ⟨by rw [hT]; rfl, hx⟩
        · obtain ⟨h, rfl⟩ := Int.eq_ofNat_of_zero_le (Int.not_lt.1 hd0)
          rw [if_neg hd0, Int.toNat_natCast] at hT
          have hoph := hx.cell (hI h (by omega)).op
          have hc1 := o1.get (i := h) (by omega)
          by_cases h3 : (ix xs h).op = 3
          · rw [if_pos h3] at hT
            refine wgo ?_
            exact Fin.ret2 rfl rfl rfl ⟨by rw [hT]; rfl, hx⟩
          · rw [if_neg h3] at hT
            refine wgo ?_
            exact Fin.ret2 rfl rfl rfl ⟨by rw [hT]; rfl, hx⟩
end Go.Proofs.YtmkgfccfnpmcjaaDoor
/- Walks of goer.labels; the plain law of an else's end. -/
namespace Go.Proofs.YtmkgfccfnpmcjaaDoor
open Go.RowKit

/-- what labels gives -/
def LabPost (w : World) (xs : List Ins) (a : Nat) (ls : List Int) (e : Ending) (w' : World) : Prop :=
  Ext w w' ∧ (((∀ t ∈ ls, (targetR xs a t).isSome = true) ∧ ∃ r, e = .returned (.tuple #[r, .bool true]) ∧ OwnI w.heap.size w' r (ls.map (toR xs a))) ∨ ((∃ t ∈ ls, (targetR xs a t).isSome = false) ∧ e = .returned (.tuple #[.slice none 0 0, .bool false])))

theorem goer_labels (xs : List Ins) (bv v2 v3 v4 : Value) (a : Nat) (ls : List Int) (lv : Value) (w : World) (hb : Body w bv xs) (hsm : xs.length ≤ 1000000000) (hok : (checkR xs).2 = 0) (ha : a < xs.length) (hl : IntsR (fun _ => True) w lv ls) (hll : ls.length ≤ 1000000000)
    (hcs : (Value.agg #[bv, v2, v3, v4]).cells = #[bv, v2, v3, v4]) :
    Calls G.P 36 #[.agg #[bv, v2, v3, v4], .int .i64 a, lv] w (LabPost w xs a ls) := by
  obtain ⟨p, cap, rfl, -⟩ := hl.slice
  refine enter (G := G) Tryd.func36 rfl Tryd.ntmps36 rfl ?_
  refine wgo ?_
  refine Ops.e (Eff.box (cs := [bv, v2, v3, v4]) rfl hcs) rfl ?_
  rintro _ w1 ⟨rfl, hn1⟩
  have hz1 := hn1.size
  refine wgo ?_
  refine Cd.loop (σ := Nat × Value) (fun s => [(1, .int .i64 a), (3, .pointer (some ⟨w.heap.size, 0, none⟩)), (8, s.2), (13, .slice p ls.length cap), (14, .int .i64 ls.length), (15, .int .i64 s.1)])
    (fun s wr => s.1 ≤ ls.length ∧ OwnI w.heap.size wr s.2 ((ls.take s.1).map (toR xs a)) ∧ (∀ k, s.2.ownBlock = some k → k ≠ w.heap.size) ∧ (∀ t ∈ ls.take s.1, (targetR xs a t).isSome = true) ∧ Ext w wr ∧ Blk wr w.heap.size [bv, v2, v3, v4] 86) (fun s => ls.length - s.1) (0, _) wsub
    ⟨Nat.zero_le _, OwnI.nil _ _, fun k hk => (by cases hk), fun t ht => by simp at ht, hn1.ext, hn1.blk⟩ ?_
  rintro ⟨k, o⟩ wr ⟨hk, hown, hne, hall, hext, hblk⟩
  dsimp only at hk hown hext hall hne ⊢
  by_cases hlt : k < ls.length
  · obtain ⟨b, off, rfl, -, hI⟩ := hl.at hlt
    have hc := hext.cell (hI k hlt)
    have hg : wr.cell? ⟨w.heap.size, 0, none⟩ = some bv := hblk.cell rfl
    refine wgo ?_
    refine Ops.call rfl rfl rfl (nest_Target xs bv a (ix ls k) wr (hb.ext hext) hsm hok ha) ?_
    rintro _ w2 ⟨rfl, hx2⟩
    refine ⟨_, rfl, ?_⟩
    have hext2 : Ext w w2 := hext.trans hx2
    cases hT : (targetR xs a (ix ls k)).isSome with
    | false =>
      refine wgo ?_
      exact Fin.ret2 rfl rfl rfl ⟨hext2, .inr ⟨⟨ix ls k, by rw [ix_eq hlt]; exact List.getElem_mem _, hT⟩, rfl⟩⟩
    | true =>
      refine wgo ?_
      refine Ops.e (Eff.buildSlice (cs := [.int .i64 ((targetR xs a (ix ls k)).getD 0)]) (e := 3) rfl (by kernel_rfl)) rfl ?_
      rintro _ w3 ⟨rfl, hn3⟩
      have hx3 : Ext wr w3 := hx2.trans hn3.ext
      have hsz := hext.size
      have hsz3 := hx3.size
      refine Ops.e (Eff.appIB rfl rfl (hown.ext hx3) (by omega) (hn3.blk.cell rfl) (by simp; omega)) rfl ?_
      rintro v5 w5 ⟨hown5, hc5, hb5⟩
      refine wgo ?_
      have hget : (targetR xs a (ix ls k)).getD 0 = toR xs a (ix ls k) := by
        unfold toR
        cases h : targetR xs a (ix ls k) with
        | none => rw [h] at hT; cases hT
        | some v => rfl
      refine Fin.next (k + 1, v5) wsub ⟨by omega, ?_, ?_, ?_, (hext.trans hx3).trans' hc5 (fun i hi h => by have := (hown.lt i h).1; omega), (hblk.chg hx3 (fun h => h)).chg hc5 (fun h => hne _ h rfl)⟩ (by dsimp only; omega)
      · dsimp only; rw [take_succ_ix hlt, List.map_append, List.map_singleton, ← hget]; exact hown5
      · intro q hq e
        have hlb := Blk.lt hblk
        rcases hb5 with h | h
        · rw [h] at hq; exact hne q hq e
        · rw [h] at hq; cases hq; omega
      · dsimp only; rw [take_succ_ix hlt]
        intro t ht
        rcases List.mem_append.1 ht with h | h
        · exact hall t h
        · simp at h; rw [h]; exact hT
  · refine wgo ?_
    obtain rfl : k = ls.length := by omega
    rw [List.take_length] at hown hall
    exact Fin.ret2 rfl rfl rfl ⟨hext, .inl ⟨hall, _, rfl, hown⟩⟩

theorem elsesTo_keep {xs : List Ins} (hall : ∀ j, j < xs.length → checkAt xs j = none) {p h : Nat} (h5 : (ix xs p).op = 5) (hl : lastI (roundR xs p) = h) : ∀ k, p < k → k ≤ xs.length → ix (elsesTo xs k) h = p
  | 0, hp, _ => by omega
  | k + 1, hp, hk => by
    have hpl : p < xs.length := by omega
    have hz := checkAt_len (hall p hpl)
    have hlast := lastR hz
    rw [hl] at hlast
    by_cases e : p = k
    · subst e
      rw [elsesTo, if_pos h5, hl, Int.toNat_natCast, ix_set_same (by rw [elsesTo_len]; omega)]
    · rw [elsesTo]
      split
      · rename_i h5k
        have hck := checkAt_else (hall k (by omega)) h5k
        by_cases e2 : (lastI (roundR xs k)).toNat = h
        · have := hck.2.2
          rw [e2, elsedR_true (i := p) (by omega) (by simp only [elseAt, decide_eq_true_eq]; exact ⟨by omega, h5, hz, hl⟩)] at this
          cases this
        · rw [ix_set_other (fun e3 => e2 e3.symm)]; exact elsesTo_keep hall h5 hl k (by omega) (by omega)
      · exact elsesTo_keep hall h5 hl k (by omega) (by omega)
theorem elsesTo_who {xs : List Ins} {i : Nat} (hi : i < xs.length) : ∀ (k p : Nat), ix (elsesTo xs k) i = p → (lastI (roundR xs p)).toNat = i
  | 0, p, h => by
    rw [elsesTo, ix_eq (by simpa using hi)] at h; simp at h
  | k + 1, p, h => by
    rw [elsesTo] at h
    split at h
    · by_cases e : (lastI (roundR xs k)).toNat = i
      · rw [e, ix_set_same (by rw [elsesTo_len]; exact hi)] at h
        have : k = p := by omega
        subst this; exact e
      · rw [ix_set_other (fun e2 => e e2.symm)] at h; exact elsesTo_who hi k p h
    · exact elsesTo_who hi k p h
theorem doneFrom_eq {xs : List Ins} {p : Int} {h : Nat} (hh : ix (elsesR xs) h = p) (hu : ∀ i, i < h → ix (elsesR xs) i ≠ p) : ∀ f i, i ≤ h → h < i + f → doneFrom xs p f i = ix (endsR xs) h
  | 0, i, h1, h2 => by omega
  | f + 1, i, h1, h2 => by
    rw [doneFrom]
    by_cases e : i = h
    · subst e; rw [if_pos hh]
    · rw [if_neg (hu i (by omega))]; exact doneFrom_eq hh hu f (i + 1) (by omega) (by omega)
/-- the end of the if round an else -/
theorem doneR_eq {xs : List Ins} (hok : (checkR xs).2 = 0) {p : Nat} (hp : p < xs.length) (h5 : (ix xs p).op = 5) : 0 ≤ lastI (roundR xs p) ∧ lastI (roundR xs p) < p ∧ doneR xs p = ix (endsR xs) (lastI (roundR xs p)).toNat := by
  obtain ⟨hall, -⟩ := check_ok hok
  have h0 := (checkAt_else (hall p hp) h5).1
  have hl := lastR (checkAt_len (hall p hp))
  refine ⟨h0, hl.2, ?_⟩
  obtain ⟨h, hh⟩ := Int.eq_ofNat_of_zero_le h0
  rw [hh, Int.toNat_natCast]
  have h1 : ix (elsesR xs) h = (p : Int) := elsesTo_keep hall h5 hh xs.length hp (Nat.le_refl _)
  exact doneFrom_eq h1 (fun i hi e => by
    have := elsesTo_who (by omega) _ _ e
    rw [hh] at this; simp at this; omega) xs.length 0 (Nat.zero_le _) (by omega)
end Go.Proofs.YtmkgfccfnpmcjaaDoor
