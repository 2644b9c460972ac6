/- Walks of nest.Check, Elses, Ends, Heads, Target. -/
import Derived.Test.YtfeakkicihlplaaN2
namespace Go.Proofs.Ytfeakkicihlplaa
open Go.RowKit

theorem nest_look_ok (xs : List Ins) (v : Value) (w : World) (hb : Body w v xs) (hsm : xs.length ≤ 1000000000) (hok : (checkR xs).2 = 0) :
    Calls G.P 42 #[v] w fun e w' => ∃ p1 c1 p2 c2 p3 c3 p4 c4, e = .returned (.tuple #[.agg #[.slice p1 xs.length c1, .slice p2 xs.length c2, .slice p3 xs.length c3, .slice p4 xs.length c4], .int .i64 (checkR xs).1, .int .i64 0]) ∧ Ext w w' ∧
      OwnI w.heap.size w' (.slice p1 xs.length c1) (endsR xs) ∧ OwnI w.heap.size w' (.slice p2 xs.length c2) (elsesR xs) ∧ OwnI w.heap.size w' (.slice p3 xs.length c3) (depthsR xs) ∧ OwnI w.heap.size w' (.slice p4 xs.length c4) (headsR xs) := by
  refine (nest_look xs v w hb hsm).mono ?_
  rintro e w' ⟨hx, ⟨h, _⟩ | ⟨h, v1, v2, v3, v4, rfl, o1, o2, o3, o4⟩⟩
  · exact absurd hok h
  · obtain ⟨p1, c1, rfl, _⟩ := own_slice o1
    obtain ⟨p2, c2, rfl, _⟩ := own_slice o2
    obtain ⟨p3, c3, rfl, _⟩ := own_slice o3
    obtain ⟨p4, c4, rfl, _⟩ := own_slice o4
    have q1 : (endsR xs).length = xs.length := endsTo_len xs _
    have q2 : (elsesR xs).length = xs.length := elsesTo_len xs _
    have q3 : (depthsR xs).length = xs.length := depthsTo_len xs _
    have q4 : (headsR xs).length = xs.length := headsTo_len xs _
    rw [q1] at o1 ⊢; rw [q2] at o2 ⊢; rw [q3] at o3 ⊢; rw [q4] at o4 ⊢
    exact ⟨p1, c1, p2, c2, p3, c3, p4, c4, by rw [h], hx, o1, o2, o3, o4⟩

theorem nest_Check (xs : List Ins) (v : Value) (w : World) (hb : Body w v xs) (hsm : xs.length ≤ 1000000000) :
    Calls G.P 25 #[v] w fun e w' => e = .returned (.tuple #[.int .i64 (checkR xs).1, .int .i64 (checkR xs).2]) ∧ Ext w w' := by
  obtain ⟨p, cap, rfl, hl⟩ := hb.slice
  have hR : Calls G.P 42 #[.slice p xs.length cap] w fun e w' => ∃ p1 l1 c1 p2 l2 c2 p3 l3 c3 p4 l4 c4, e = .returned (.tuple #[.agg #[.slice p1 l1 c1, .slice p2 l2 c2, .slice p3 l3 c3, .slice p4 l4 c4], .int .i64 (checkR xs).1, .int .i64 (checkR xs).2]) ∧ Ext w w' := by
    refine (nest_look xs _ w hb hsm).mono ?_
    rintro e w' ⟨hx, ⟨h, rfl⟩ | ⟨h, v1, v2, v3, v4, rfl, o1, o2, o3, o4⟩⟩
    · exact ⟨none, 0, 0, none, 0, 0, none, 0, 0, none, 0, 0, rfl, hx⟩
    · obtain ⟨p1, c1, rfl, _⟩ := own_slice o1
      obtain ⟨p2, c2, rfl, _⟩ := own_slice o2
      obtain ⟨p3, c3, rfl, _⟩ := own_slice o3
      obtain ⟨p4, c4, rfl, _⟩ := own_slice o4
      exact ⟨_, _, _, _, _, _, _, _, _, _, _, _, rfl, hx⟩
  refine enter (G := G) Try.func25 rfl Try.ntmps25 rfl ?_
  refine wgo ?_
  refine Ops.call rfl rfl rfl hR ?_
  rintro _ w1 ⟨p1, l1, c1, p2, l2, c2, p3, l3, c3, p4, l4, c4, rfl, hx1⟩
  refine ⟨_, rfl, ?_⟩
  refine wgo ?_
  refine Ops.e (Eff.alloc rfl) rfl ?_
  rintro _ w2 ⟨rfl, hn2⟩
  refine Ops.e0 (Eff.storeB rfl rfl rfl rfl rfl (by simp [Value.oneCell']) hn2.blk rfl) ?_
  rintro _ w3 ⟨hb3, hc3, hs3⟩
  have hx3 : Ext w1 w3 := hn2.ext.trans' hc3 (fun i hi e => by omega)
  refine wgo ?_
  exact Fin.ret2 rfl rfl rfl ⟨rfl, hx1.trans hx3⟩


theorem nest_Elses (xs : List Ins) (v : Value) (w : World) (hb : Body w v xs) (hsm : xs.length ≤ 1000000000) (hok : (checkR xs).2 = 0) :
    Calls G.P 26 #[v] w fun e w' => ∃ r, e = .returned r ∧ OwnI w.heap.size w' r (elsesR xs) ∧ Ext w w' := by
  obtain ⟨p, cap, rfl, hl⟩ := hb.slice
  refine enter (G := G) Try.func26 rfl Try.ntmps26 rfl ?_
  refine wgo ?_
  refine Ops.call rfl rfl rfl (nest_look_ok xs _ w hb hsm hok) ?_
  rintro _ w1 ⟨p1, c1, p2, c2, p3, c3, p4, c4, rfl, hx1, o1, o2, o3, o4⟩
  refine ⟨_, rfl, ?_⟩
  refine wgo ?_
  refine Ops.e (Eff.alloc rfl) rfl ?_
  rintro _ w2 ⟨rfl, hn2⟩
  refine Ops.e0 (Eff.storeB rfl rfl rfl rfl rfl (by simp [Value.oneCell']) hn2.blk rfl) ?_
  rintro _ w3 ⟨hb3, hc3, hs3⟩
  have hx3 : Ext w1 w3 := hn2.ext.trans' hc3 (fun i hi e => by omega)
  have hc := hb3.cell (j := 1) rfl
  refine wgo ?_
  exact Fin.ret1 rfl rfl ⟨_, rfl, o2.ext hx3, hx1.trans hx3⟩


theorem nest_Ends (xs : List Ins) (v : Value) (w : World) (hb : Body w v xs) (hsm : xs.length ≤ 1000000000) (hok : (checkR xs).2 = 0) :
    Calls G.P 27 #[v] w fun e w' => ∃ r, e = .returned r ∧ OwnI w.heap.size w' r (endsR xs) ∧ Ext w w' := by
  obtain ⟨p, cap, rfl, hl⟩ := hb.slice
  refine enter (G := G) Try.func27 rfl Try.ntmps27 rfl ?_
  refine wgo ?_
  refine Ops.call rfl rfl rfl (nest_look_ok xs _ w hb hsm hok) ?_
  rintro _ w1 ⟨p1, c1, p2, c2, p3, c3, p4, c4, rfl, hx1, o1, o2, o3, o4⟩
  refine ⟨_, rfl, ?_⟩
  refine wgo ?_
  refine Ops.e (Eff.alloc rfl) rfl ?_
  rintro _ w2 ⟨rfl, hn2⟩
  refine Ops.e0 (Eff.storeB rfl rfl rfl rfl rfl (by simp [Value.oneCell']) hn2.blk rfl) ?_
  rintro _ w3 ⟨hb3, hc3, hs3⟩
  have hx3 : Ext w1 w3 := hn2.ext.trans' hc3 (fun i hi e => by omega)
  have hc := hb3.cell (j := 0) rfl
  refine wgo ?_
  exact Fin.ret1 rfl rfl ⟨_, rfl, o1.ext hx3, hx1.trans hx3⟩


theorem nest_Heads (xs : List Ins) (v : Value) (w : World) (hb : Body w v xs) (hsm : xs.length ≤ 1000000000) (hok : (checkR xs).2 = 0) :
    Calls G.P 28 #[v] w fun e w' => ∃ r, e = .returned r ∧ OwnI w.heap.size w' r (headsR xs) ∧ Ext w w' := by
  obtain ⟨p, cap, rfl, hl⟩ := hb.slice
  refine enter (G := G) Try.func28 rfl Try.ntmps28 rfl ?_
  refine wgo ?_
  refine Ops.call rfl rfl rfl (nest_look_ok xs _ w hb hsm hok) ?_
  rintro _ w1 ⟨p1, c1, p2, c2, p3, c3, p4, c4, rfl, hx1, o1, o2, o3, o4⟩
  refine ⟨_, rfl, ?_⟩
  refine wgo ?_
  refine Ops.e (Eff.alloc rfl) rfl ?_
  rintro _ w2 ⟨rfl, hn2⟩
  refine Ops.e0 (Eff.storeB rfl rfl rfl rfl rfl (by simp [Value.oneCell']) hn2.blk rfl) ?_
  rintro _ w3 ⟨hb3, hc3, hs3⟩
  have hx3 : Ext w1 w3 := hn2.ext.trans' hc3 (fun i hi e => by omega)
  have hc := hb3.cell (j := 3) rfl
  refine wgo ?_
  exact Fin.ret1 rfl rfl ⟨_, rfl, o4.ext hx3, hx1.trans hx3⟩


theorem round_take (xs : List Ins) : ∀ (a j : Nat), j < (roundR xs a).length → 0 ≤ ix (roundR xs a) j → roundR xs (ix (roundR xs a) j).toNat = (roundR xs a).take j
  | 0, j, hj, h0 => by
    have : j = 0 := by simp [roundR] at hj; exact hj
    subst this; simp [roundR, ix] at h0
  | a + 1, j, hj, h0 => by
    cases ho : opensB (ix xs a).op with
    | true =>
      rw [round_open ho] at hj h0 ⊢
      by_cases e : j = (roundR xs a).length
      · subst e; rw [ix_append_last rfl]; simp
      · have hj' : j < (roundR xs a).length := by simp at hj; omega
        rw [ix_append_left hj'] at h0 ⊢
        rw [round_take xs a j hj' h0, List.take_append_of_le_length (by omega)]
    | false =>
      by_cases h11 : (ix xs a).op = 11
      · by_cases hz : 0 < (roundR xs a).length
        · rw [round_end h11 hz] at hj h0 ⊢
          have hj' : j < (roundR xs a).length - 1 := by simpa using hj
          rw [ix_dropLast hj'] at h0 ⊢
          rw [round_take xs a j (by omega) h0, List.dropLast_eq_take, List.take_take]
          congr 1; omega
        · have : roundR xs (a + 1) = roundR xs a := by
            show stepR _ _ _ = _
            unfold stepR; simp [ho]; intro _ h; simp [h] at hz
          rw [this] at hj h0 ⊢; exact round_take xs a j hj h0
      · rw [round_plain ho h11] at hj h0 ⊢; exact round_take xs a j hj h0
theorem round_pos {xs : List Ins} {a j : Nat} (hj : j < (roundR xs a).length) (h1 : 0 < j) : 0 ≤ ix (roundR xs a) j ∧ ix (roundR xs a) j < a := by
  have hs := round_sorted xs a
  rw [List.pairwise_iff_getElem] at hs
  have h2 := hs 0 j (by omega) hj h1
  have h3 := roundR_mem (List.getElem_mem (l := roundR xs a) (n := 0) (by omega))
  have h4 := roundR_mem (List.getElem_mem (l := roundR xs a) (n := j) hj)
  rw [ix_eq hj]; omega
/-- what the row of heads holds at the opener of a block -/
theorem heads_up {xs : List Ins} {a j : Nat} (ha : a ≤ xs.length) (hj : j < (roundR xs a).length) (h1 : 0 < j) : ix (headsR xs) (ix (roundR xs a) j).toNat = ix (roundR xs a) (j - 1) := by
  obtain ⟨h0, h2⟩ := round_pos hj h1
  unfold headsR
  rw [headsTo_ix (by omega) (Nat.le_refl _), round_take xs a j hj h0]
  unfold lastI
  have hl : ((roundR xs a).take j).length = j := by simp; omega
  rw [hl, ix_eq (by rw [hl]; omega), ix_eq (by omega), List.getElem_take]

theorem nest_Target (xs : List Ins) (v : Value) (a : Nat) (l : Int) (w : World) (hb : Body w v xs) (hsm : xs.length ≤ 1000000000) (hok : (checkR xs).2 = 0) (ha : a < xs.length) :
    Calls G.P 60 #[v, .int .i64 a, .int .i64 l] w fun e w' => e = .returned (.tuple #[.int .i64 ((targetR xs a l).getD 0), .bool (targetR xs a l).isSome]) ∧ Ext w w' := by
  obtain ⟨p, cap, rfl, hl⟩ := hb.slice
  refine enter (G := G) Try.func60 rfl Try.ntmps60 rfl ?_
  refine wgo ?_
  refine Ops.call rfl rfl rfl (nest_look_ok xs _ w hb hsm hok) ?_
  rintro _ w1 ⟨p1, c1, p2, c2, p3, c3, p4, c4, rfl, hx1, o1, o2, o3, o4⟩
  refine ⟨_, rfl, ?_⟩
  refine wgo ?_
  refine Ops.e (Eff.alloc rfl) rfl ?_
  rintro _ w2 ⟨rfl, hn2⟩
  refine Ops.e0 (Eff.storeB rfl rfl rfl rfl rfl (by simp [Value.oneCell']) hn2.blk rfl) ?_
  rintro _ w3 ⟨hb3, hc3, hs3⟩
  have hx3 : Ext w1 w3 := hn2.ext.trans' hc3 (fun i hi e => by omega)
  have hx : Ext w w3 := hx1.trans hx3
  have q1 : (endsR xs).length = xs.length := endsTo_len xs _
  have q3 : (depthsR xs).length = xs.length := depthsTo_len xs _
  have q4 : (headsR xs).length = xs.length := headsTo_len xs _
  obtain ⟨p1', c1', e1, _, _, g1⟩ := own_slice o1
  rw [q1] at e1
  cases e1
  obtain ⟨g1, rfl, _⟩ := g1 (by omega)
  obtain ⟨p3', c3', e3, _, _, g3⟩ := own_slice o3
  rw [q3] at e3
  cases e3
  obtain ⟨g3, rfl, _⟩ := g3 (by omega)
  obtain ⟨p4', c4', e4, _, _, g4⟩ := own_slice o4
  rw [q4] at e4
  cases e4
  obtain ⟨g4, rfl, _⟩ := g4 (by omega)
  replace o1 := o1.ext hx3
  replace o3 := o3.ext hx3
  replace o4 := o4.ext hx3
  generalize w1.heap.size = sb at *
  have hd1 : w3.cell? ⟨sb, 0, none⟩ = _ := hb3.cell (j := 0) rfl
  have hd3 : w3.cell? ⟨sb, 0 + 2, none⟩ = _ := hb3.cell (j := 2) rfl
  have hd4 : w3.cell? ⟨sb, 0 + 3, none⟩ = _ := hb3.cell (j := 3) rfl
  have hdep := o3.get (i := a) (by omega)
  have hhd := o4.get (i := a) (by omega)
  unfold depthsR at hdep
  unfold headsR at hhd
  rw [depthsTo_ix ha (Nat.le_refl _)] at hdep
  rw [headsTo_ix ha (Nat.le_refl _)] at hhd
  have hT : targetR xs a l = if l < 0 ∨ ((roundR xs a).length : Int) ≤ l then none else
      if ix (roundR xs a) ((roundR xs a).length - 1 - l.toNat) < 0 then some ((xs.length : Int) - 1)
      else if (ix xs (ix (roundR xs a) ((roundR xs a).length - 1 - l.toNat)).toNat).op = 3 then some (ix (roundR xs a) ((roundR xs a).length - 1 - l.toNat) + 1)
      else some (ix (endsR xs) (ix (roundR xs a) ((roundR xs a).length - 1 - l.toNat)).toNat) := rfl
  have hlen := roundR_len xs a
  by_cases hneg : l < 0
  · rw [if_pos (.inl hneg)] at hT
    refine wgo ?_
    exact Fin.ret2 rfl rfl rfl ⟨by rw [hT]; rfl, hx⟩
  · by_cases hge : ((roundR xs a).length : Int) ≤ l
    · rw [if_pos (.inr hge)] at hT
      refine wgo ?_
      exact Fin.ret2 rfl rfl rfl ⟨by rw [hT]; rfl, hx⟩
    · rw [if_neg (by omega)] at hT
      obtain ⟨m, rfl⟩ := Int.eq_ofNat_of_zero_le (Int.not_lt.1 hneg)
      rw [Int.toNat_natCast] at hT
      obtain ⟨b, off, rfl, -, hI⟩ := hb.at ha
      refine wgo ?_
      refine Cd.loop (σ := Nat) (fun s => [(0, .slice (some ⟨b, off, none⟩) xs.length cap), (8, .pointer (some ⟨sb, 0, none⟩)), (2, .int .i64 s), (11, .int .i64 (ix (roundR xs a) ((roundR xs a).length - 1 - (m - s))))]) (fun s wr => s ≤ m ∧ wr = w3) (fun s => s) m (by rw [show m - m = 0 by omega]; exact wsub) ⟨Nat.le_refl _, rfl⟩ ?_
      rintro s _ ⟨hs, rfl⟩
      by_cases h0 : 0 < s
      · have hj : (roundR xs a).length - 1 - (m - s) < (roundR xs a).length := by omega
        have hj1 : 0 < (roundR xs a).length - 1 - (m - s) := by omega
        obtain ⟨hp0, hp1⟩ := round_pos hj hj1
        have hup := heads_up (Nat.le_of_lt ha) hj hj1
        rw [show (roundR xs a).length - 1 - (m - s) - 1 = (roundR xs a).length - 1 - (m - (s - 1)) by omega] at hup
        generalize ix (roundR xs a) ((roundR xs a).length - 1 - (m - s)) = hd at *
        obtain ⟨h, rfl⟩ := Int.eq_ofNat_of_zero_le hp0
        have hc := o4.get (i := h) (by omega)
        rw [Int.toNat_natCast] at hup
        rw [hup] at hc
        refine wgo ?_
        exact Fin.next (s - 1) wsub ⟨by omega, rfl⟩ (by omega)
      · obtain rfl : s = 0 := by omega
        rw [Nat.sub_zero]
        have hmem : ix (roundR xs a) ((roundR xs a).length - 1 - m) ∈ roundR xs a := by rw [ix_eq (by omega)]; exact List.getElem_mem _
        have hlast := roundR_mem hmem
        generalize ix (roundR xs a) ((roundR xs a).length - 1 - m) = hd at *
        by_cases hd0 : hd < 0
        · rw [if_pos hd0] at hT
          refine wgo ?_
          exact Fin.ret2 rfl rfl rfl ⟨by rw [hT]; rfl, hx⟩
        · obtain ⟨h, rfl⟩ := Int.eq_ofNat_of_zero_le (Int.not_lt.1 hd0)
          rw [if_neg hd0, Int.toNat_natCast] at hT
          have hoph := hx.cell (hI h (by omega)).op
          have hc1 := o1.get (i := h) (by omega)
          by_cases h3 : (ix xs h).op = 3
          · rw [if_pos h3] at hT
            refine wgo ?_
            exact Fin.ret2 rfl rfl rfl ⟨by rw [hT]; rfl, hx⟩
          · rw [if_neg h3] at hT
            refine wgo ?_
            exact Fin.ret2 rfl rfl rfl ⟨by rw [hT]; rfl, hx⟩
end Go.Proofs.Ytfeakkicihlplaa
