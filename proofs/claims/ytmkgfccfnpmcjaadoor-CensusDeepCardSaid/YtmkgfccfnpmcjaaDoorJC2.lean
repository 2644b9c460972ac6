/- Walk of goer.next. -/
import Derived.Test.YtmkgfccfnpmcjaaDoorJC1
import Derived.Test.YtmkgfccfnpmcjaaDoorJS
import Derived.Test.YtmkgfccfnpmcjaaDoorJM3
namespace Go.Proofs.YtmkgfccfnpmcjaaDoor
open Go.RowKit

/-- whether all labels of the instruction at p exist -/
def okN (xs : List Ins) (p : Nat) : Bool :=
  if (ix xs p).op = 12 ∨ (ix xs p).op = 13 then (targetR xs p (ix xs p).a).isSome
  else if (ix xs p).op = 14 then ((ix xs p).labels ++ [(ix xs p).a]).all (fun t => (targetR xs p t).isSome)
  else true
/-- what next gives -/
def NextPost (w : World) (xs : List Ins) (p : Nat) (e : Ending) (w' : World) : Prop :=
  Ext w w' ∧ ∃ r, e = .returned (.tuple #[r, .bool (okN xs p)]) ∧ (okN xs p = true → OwnI w.heap.size w' r (afterR xs p)) ∧ ∃ q l c, r = .slice q l c

set_option maxRecDepth 100000 in
set_option maxHeartbeats 4000000 in
theorem goer_next (xs : List Ins) (bv : Value) (g2 c2 g3 c3 g4 c4 B : Nat) (p : Nat) (w : World) (hb : Body w bv xs) (hsm : xs.length ≤ 1000000000) (hok : (checkR xs).2 = 0) (hp : p < xs.length) (hlab : (ix xs p).labels.length ≤ 1000000)
    (o2 : OwnI B w (.slice (some ⟨g2, 0, none⟩) xs.length c2) (elsesR xs)) (o3 : OwnI B w (.slice (some ⟨g3, 0, none⟩) xs.length c3) (endsR xs)) (o4 : OwnI B w (.slice (some ⟨g4, 0, none⟩) xs.length c4) (headsR xs)) :
    Calls G.P 22 #[.agg #[bv, .slice (some ⟨g2, 0, none⟩) xs.length c2, .slice (some ⟨g3, 0, none⟩) xs.length c3, .slice (some ⟨g4, 0, none⟩) xs.length c4], .int .i64 p] w (NextPost w xs p) := by
  have hb0 := hb
  obtain ⟨pb, cap, rfl, hl⟩ := hb.slice
  obtain ⟨b, off, rfl, -, hI⟩ := hb.at hp
  have hA : afterR xs p = if (ix xs p).op = 4 then (if 0 ≤ ix (elsesR xs) p then [(p : Int) + 1, ix (elsesR xs) p + 1] else [(p : Int) + 1, ix (endsR xs) p])
    else if (ix xs p).op = 5 then [doneR xs p]
    else if (ix xs p).op = 12 then [toR xs p (ix xs p).a]
    else if (ix xs p).op = 13 then [toR xs p (ix xs p).a, (p : Int) + 1]
    else if (ix xs p).op = 14 then (ix xs p).labels.map (toR xs p) ++ [toR xs p (ix xs p).a]
    else if (ix xs p).op = 15 ∨ (ix xs p).op = 0 then []
    else if xs.length ≤ p + 1 then [] else [(p : Int) + 1] := rfl
  have hN : okN xs p = if (ix xs p).op = 12 ∨ (ix xs p).op = 13 then (targetR xs p (ix xs p).a).isSome
    else if (ix xs p).op = 14 then ((ix xs p).labels ++ [(ix xs p).a]).all (fun t => (targetR xs p t).isSome)
    else true := rfl
  have hra := (hI p hp).ra
  unfold R64 at hra
  have hel := elsesR_len xs
  have hen := endsR_len xs
  have hhl : (headsR xs).length = xs.length := headsTo_len xs _
  have helr := elsesR_rng hp
  have henr := endsR_rng hp
  refine enter (G := G) Tryd.func22 rfl Tryd.ntmps22 rfl ?_
  refine wgo ?_
  refine Ops.e (Eff.box (cs := [.slice (some ⟨b, off, none⟩) xs.length cap, .slice (some ⟨g2, 0, none⟩) xs.length c2, .slice (some ⟨g3, 0, none⟩) xs.length c3, .slice (some ⟨g4, 0, none⟩) xs.length c4]) rfl rfl) rfl ?_
  rintro _ w1 ⟨rfl, hn1⟩
  have hx01 : Ext w w1 := hn1.ext
  have hbody1 : Body w1 _ xs := hb0.ext hx01
  obtain ⟨b', off', hbb, -, hI1⟩ := hbody1.at hp
  cases hbb
  obtain ⟨pt, ct, pl, cl, hti, hli, hcells⟩ := (hI1 p hp).cells
  have hg0 : w1.cell? ⟨w.heap.size, 0, none⟩ = _ := hn1.blk.cell (j := 0) rfl
  refine wgo ?_
  refine Ops.y (Yl.loadA (s := 9) rfl rfl rfl rfl rfl (by intro _ hw_; cases hw_; exact hcells)) rfl ?_
  refine Ops.e (Eff.alloc rfl) rfl ?_
  rintro _ w1b ⟨rfl, hn1b⟩
  refine Ops.e0 (Eff.storeB rfl rfl rfl rfl rfl (by simp [insC, Value.oneCell']) hn1b.blk rfl) ?_
  rintro _ w2 ⟨hb2, hc2, hs2⟩
  have hx12 : Ext w1 w2 := hn1b.ext.trans' hc2 (fun i hi e => by omega)
  have hx2 : Ext w w2 := hx01.trans hx12
  have hgb := hn1.blk.chg hx12 (fun h => h)
  have hz1 := hn1.size
  have hz2 := hn1b.size
  generalize hgb_ : w.heap.size = gb at *
  generalize hxb_ : w1.heap.size = xb at *
  have hf0 : w2.cell? ⟨gb, 0, none⟩ = _ := hgb.cell (j := 0) rfl
  have hf1 : w2.cell? ⟨gb, 0 + 1, none⟩ = _ := hgb.cell (j := 1) rfl
  have hf2 : w2.cell? ⟨gb, 0 + 2, none⟩ = _ := hgb.cell (j := 2) rfl
  have hf3 : w2.cell? ⟨gb, 0 + 3, none⟩ = _ := hgb.cell (j := 3) rfl
  have hgA : ∀ j, j < 4 → w2.cell? ⟨gb, 0 + j, none⟩ = [Value.slice (some ⟨b, off, none⟩) xs.length cap, .slice (some ⟨g2, 0, none⟩) xs.length c2, .slice (some ⟨g3, 0, none⟩) xs.length c3, .slice (some ⟨g4, 0, none⟩) xs.length c4][j]? := by
    intro j hj
    match j, hj with
    | 0, _ => exact hf0
    | 1, _ => exact hf1
    | 2, _ => exact hf2
    | 3, _ => exact hf3
  have hop : w2.cell? ⟨xb, 0, none⟩ = some (.int .i64 (ix xs p).op) := hb2.cell rfl
  have hla : w2.cell? ⟨xb, 0 + 1, none⟩ = some (.int .i64 (ix xs p).a) := hb2.cell rfl
  have hll : w2.cell? ⟨xb, 0 + 8, none⟩ = some (.slice pl (ix xs p).labels.length cl) := hb2.cell rfl
  have hbody : Body w2 _ xs := hb0.ext hx2
  have he := (o2.ext hx2).get (i := p) (by omega)
  have hn := (o3.ext hx2).get (i := p) (by omega)
  have hh := (o4.ext hx2).get (i := p) (by omega)
  refine wgo ?_
  rcases (show (ix xs p).op = 4 ∨ (ix xs p).op = 5 ∨ (ix xs p).op = 12 ∨ (ix xs p).op = 13 ∨ (ix xs p).op = 14 ∨ ((ix xs p).op = 15 ∨ (ix xs p).op = 0) ∨ ((ix xs p).op ≠ 4 ∧ (ix xs p).op ≠ 5 ∧ (ix xs p).op ≠ 12 ∧ (ix xs p).op ≠ 13 ∧ (ix xs p).op ≠ 14 ∧ (ix xs p).op ≠ 15 ∧ (ix xs p).op ≠ 0) from by omega) with h4 | h5 | h12 | h13 | h14 | h15 | h0
  · rw [if_pos h4] at hA
    rw [if_neg (by omega), if_neg (by omega)] at hN
    by_cases hc : 0 ≤ ix (elsesR xs) p
    · rw [if_pos hc] at hA
      refine wgo ?_
      refine Ops.e (Eff.buildSlice (cs := [.int .i64 ((p : Int) + 1), .int .i64 (ix (elsesR xs) p + 1)]) (e := 3) rfl (by kernel_rfl)) rfl ?_
      rintro _ w3 ⟨rfl, hn3⟩
      refine wgo ?_
      refine Fin.ret2 rfl rfl rfl ⟨hx2.trans hn3.ext, _, by rw [hN], fun _ => ?_, _, _, _, rfl⟩
      rw [hA]; exact OwnI.ofNew hn3 rfl (by have := hx2.size; omega) (by simp [maxLen])
    · rw [if_neg hc] at hA
      refine wgo ?_
      refine Ops.e (Eff.buildSlice (cs := [.int .i64 ((p : Int) + 1), .int .i64 (ix (endsR xs) p)]) (e := 3) rfl (by kernel_rfl)) rfl ?_
      rintro _ w3 ⟨rfl, hn3⟩
      refine wgo ?_
      refine Fin.ret2 rfl rfl rfl ⟨hx2.trans hn3.ext, _, by rw [hN], fun _ => ?_, _, _, _, rfl⟩
      rw [hA]; exact OwnI.ofNew hn3 rfl (by have := hx2.size; omega) (by simp [maxLen])
  · rw [if_neg (by omega), if_pos h5] at hA
    rw [if_neg (by omega), if_neg (by omega)] at hN
    obtain ⟨d0, d1, d2⟩ := doneR_eq hok hp h5
    have hhe : ix (headsR xs) p = lastI (roundR xs p) := headsTo_ix hp (Nat.le_refl _)
    rw [hhe] at hh
    rw [d2] at hA
    obtain ⟨h, eh⟩ := Int.eq_ofNat_of_zero_le d0
    rw [eh] at hh hA d1
    rw [Int.toNat_natCast] at hA
    have hn2 := (o3.ext hx2).get (i := h) (by omega)
    refine wgo ?_
    refine Cd.regionM (List.range 12) (fun w' => Ext w2 w') (by kernel_rfl) (Chg.refl _ _).drew ?_
    refine wgo ?_
    refine Ops.m (Eff.buildSlice (cs := [.int .i64 (ix (endsR xs) h)]) (e := 3) rfl (by kernel_rfl)) rfl ?_
    rintro _ w3 ⟨rfl, hn3⟩
    have hx3 : Ext w2 w3 := ((Chg.refl _ _).drew).trans hn3.ext
    refine ⟨hx3, ?_⟩
    refine wgo ?_
    refine Fin.ret2 rfl rfl rfl ⟨hx2.trans hx3, _, by rw [hN], fun _ => ?_, _, _, _, rfl⟩
    rw [hA]; exact OwnI.ofNew hn3 rfl (by have := hx2.size; have : w2.drew.heap.size = w2.heap.size := rfl; omega) (by simp [maxLen])
  · rw [if_neg (by omega), if_neg (by omega), if_pos h12] at hA
    rw [if_pos (.inl h12)] at hN
    refine wgo ?_
    refine Ops.y (Yl.loadA (s := 4) rfl rfl rfl rfl rfl (by intro _ hw_; cases hw_; exact hgA)) rfl ?_
    refine wgo ?_
    refine Ops.e (Eff.buildSlice (cs := [.int .i64 (ix xs p).a]) (e := 3) rfl (by kernel_rfl)) rfl ?_
    rintro _ w3 ⟨rfl, hn3⟩
    have hx3 : Ext w w3 := hx2.trans hn3.ext
    refine Ops.call rfl rfl rfl (goer_labels xs _ _ _ _ p [(ix xs p).a] _ w3 (hb0.ext hx3) hsm hok hp (((OwnI.ofNew (xs := [(ix xs p).a]) (base := 0) hn3 rfl (by omega) (by simp [maxLen])).reads (by simp)).mono (fun _ _ _ => trivial)) (by simp) rfl) ?_
    rintro _ w4 ⟨hx4, ⟨hall, r, rfl, hr⟩ | ⟨⟨t, ht, hbad⟩, rfl⟩⟩
    · refine ⟨_, rfl, ?_⟩
      rw [hall _ (by simp)] at hN
      obtain ⟨q, c, rfl, _⟩ := own_slice hr
      refine wgo ?_
      refine Fin.ret2 rfl rfl rfl ⟨hx3.trans hx4, _, by rw [hN]; rfl, fun _ => ?_, _, _, _, rfl⟩
      rw [hA]; exact own_base hr (fun k hk => by have := (hr.lt k hk).1; have := hx3.size; omega)
    · refine ⟨_, rfl, ?_⟩
      simp at ht; rw [ht] at hbad
      rw [hbad] at hN
      refine wgo ?_
      refine Fin.ret2 rfl rfl rfl ⟨hx3.trans hx4, _, by rw [hN]; rfl, fun h => (by rw [hN] at h; cases h), _, _, _, rfl⟩
  · rw [if_neg (by omega), if_neg (by omega), if_neg (by omega), if_pos h13] at hA
    rw [if_pos (.inr h13)] at hN
    refine wgo ?_
    refine Ops.y (Yl.loadA (s := 4) rfl rfl rfl rfl rfl (by intro _ hw_; cases hw_; exact hgA)) rfl ?_
    refine wgo ?_
    refine Ops.e (Eff.buildSlice (cs := [.int .i64 (ix xs p).a]) (e := 3) rfl (by kernel_rfl)) rfl ?_
    rintro _ w3 ⟨rfl, hn3⟩
    have hx3 : Ext w w3 := hx2.trans hn3.ext
    refine Ops.call rfl rfl rfl (goer_labels xs _ _ _ _ p [(ix xs p).a] _ w3 (hb0.ext hx3) hsm hok hp (((OwnI.ofNew (xs := [(ix xs p).a]) (base := 0) hn3 rfl (by omega) (by simp [maxLen])).reads (by simp)).mono (fun _ _ _ => trivial)) (by simp) rfl) ?_
    have hsz3 := hx3.size
    rintro e4 w4 ⟨hx4, hcase⟩
    have hsz4 := hx4.size
    have : ∃ (r : Value) (l : List Int) (bo : Bool), l.length ≤ 1 ∧ okN xs p = bo ∧ OwnI w3.heap.size w4 r l ∧ (bo = true → l = [toR xs p (ix xs p).a]) ∧ e4 = Ending.returned (.tuple #[r, .bool bo]) := by
      rcases hcase with ⟨hall, r, rfl, hr⟩ | ⟨⟨t, ht, hbad⟩, rfl⟩
      · exact ⟨r, _, true, by simp, by rw [hN, hall _ (by simp)], hr, fun _ => rfl, rfl⟩
      · simp at ht; rw [ht] at hbad
        exact ⟨_, [], false, by simp, by rw [hN, hbad], OwnI.nil _ _, fun h => (by cases h), rfl⟩
    obtain ⟨r, l, bo, hl1, hbo, hr, hrl, rfl⟩ := this
    refine ⟨_, rfl, ?_⟩
    refine wgo ?_
    refine Ops.e (Eff.buildSlice (cs := [.int .i64 ((p : Int) + 1)]) (e := 3) rfl (by kernel_rfl)) rfl ?_
    rintro _ w5 ⟨rfl, hn5⟩
    have hz5 := hn5.size
    refine Ops.e (Eff.appIB rfl rfl (hr.ext hn5.ext) (by omega) (hn5.blk.cell rfl) (by omega)) rfl ?_
    rintro v6 w6 ⟨hown6, hc6, hb6⟩
    obtain ⟨q6, c6, rfl, _⟩ := own_slice hown6
    refine wgo ?_
    refine Fin.ret2 rfl rfl rfl ⟨((hx3.trans hx4).trans hn5.ext).trans' hc6 (fun i hi h => by have := (hr.lt i h).1; omega), _, by rw [hbo]; rfl, fun h => ?_, _, _, _, rfl⟩
    rw [hbo] at h
    rw [hA, ← show [toR xs p (ix xs p).a] ++ [(p : Int) + 1] = [toR xs p (ix xs p).a, (p : Int) + 1] from rfl, ← hrl h]
    exact own_base hown6 (fun k hk => by have := (hown6.lt k hk).1; omega)
  · rw [if_neg (by omega), if_neg (by omega), if_neg (by omega), if_neg (by omega), if_pos h14] at hA
    rw [if_neg (by omega), if_pos h14] at hN
    have hlab2 : IntsR (fun _ => True) w2 (.slice pl (ix xs p).labels.length cl) (ix xs p).labels := hli.chg hx12 (fun _ _ _ h => h)
    refine wgo ?_
    refine Cd.regionB [0, 1, 2, 3, 5, 6] 4 [7, 8, 9, 10, 11, 12, 13] 7 [4, 8, 9, 10, 11, 12, 13] (fun w' => Ext w2 w') (by kernel_rfl) (Chg.refl _ _).drew ?_
    refine Ops.y (Yl.loadA (s := 4) rfl rfl rfl rfl rfl (fun w' hw j hj => by
      have := hgA j hj
      cases h : w2.cell? ⟨gb, 0 + j, none⟩ with
      | none => rw [h] at this; match j, hj with
        | 0, _ => cases this
        | 1, _ => cases this
        | 2, _ => cases this
        | 3, _ => cases this
      | some v => rw [h] at this; rw [← this]; exact hw.cell h)) rfl ?_
    refine wgo ?_
    have hsz2 := hx2.size
    have hdz : w2.drew.heap.size = w2.heap.size := rfl
    have hlab3 : IntsR (fun _ => True) w2.drew (.slice pl (ix xs p).labels.length cl) (ix xs p).labels := hlab2.chg (S := fun _ => False) (Chg.refl _ _).drew (fun _ _ _ h => h)
    refine Fin.both ?_ ?_
    · refine Ops.callM rfl rfl rfl (slices_Clone (ix xs p).labels _ w2.drew hlab3) ?_
      rintro _ w3 ⟨r3, rfl, hr3, hx3'⟩
      have hx3 : Ext w2 w3 := ((Chg.refl _ _).drew).trans hx3'
      refine ⟨_, rfl, hx3, ?_⟩
      refine Ops.m (Eff.buildSlice (cs := [.int .i64 (ix xs p).a]) (e := 3) rfl (by kernel_rfl)) rfl ?_
      rintro _ w4 ⟨rfl, hn4⟩
      have hx4 : Ext w2 w4 := hx3.trans hn4.ext
      refine ⟨hx4, ?_⟩
      have hsz4 := hx4.size
      refine Ops.m (Eff.appIB rfl rfl (OwnI.ext hr3 hn4.ext) (by omega) (hn4.blk.cell rfl) (by omega)) rfl ?_
      rintro v5 w5 ⟨hown5, hc5, hb5⟩
      have hx5 : Ext w2 w5 := hx4.trans' hc5 (fun i hi h => by have := (hr3.lt i h).1; omega)
      refine ⟨hx5, ?_⟩
      have hx05 : Ext w w5 := hx2.trans hx5
      obtain ⟨q5, k5, rfl, _⟩ := own_slice hown5
      refine wgo ?_
      refine Ops.callM rfl rfl rfl (goer_labels xs _ _ _ _ p ((ix xs p).labels ++ [(ix xs p).a]) _ w5 (hb0.ext hx05) hsm hok hp ((hown5.reads (by simp; omega)).mono (fun _ _ _ => trivial)) (by simp; omega) rfl) ?_
      rintro _ w6 ⟨hx6, ⟨hall, r, rfl, hr⟩ | ⟨⟨t, ht, hbad⟩, rfl⟩⟩
      · refine ⟨_, rfl, hx5.trans hx6, ?_⟩
        rw [List.all_eq_true.2 hall] at hN
        obtain ⟨q, c, rfl, _⟩ := own_slice hr
        refine wgo ?_
        refine Fin.ret2 rfl rfl rfl ⟨hx05.trans hx6, _, by rw [hN]; rfl, fun _ => ?_, _, _, _, rfl⟩
        rw [hA]
        have e : ((ix xs p).labels ++ [(ix xs p).a]).map (toR xs p) = (ix xs p).labels.map (toR xs p) ++ [toR xs p (ix xs p).a] := by simp
        rw [← e]
        exact own_base hr (fun k hk => by have := (hr.lt k hk).1; have := hx05.size; omega)
      · refine ⟨_, rfl, hx5.trans hx6, ?_⟩
        rw [List.all_eq_false.2 ⟨t, ht, by simp [hbad]⟩] at hN
        refine wgo ?_
        refine Fin.ret2 rfl rfl rfl ⟨hx05.trans hx6, _, by rw [hN]; rfl, fun h => (by rw [hN] at h; cases h), _, _, _, rfl⟩
    · refine Ops.m (Eff.buildSlice (cs := [.int .i64 (ix xs p).a]) (e := 3) rfl (by kernel_rfl)) rfl ?_
      rintro _ w3 ⟨rfl, hn3⟩
      have hx3 : Ext w2 w3 := ((Chg.refl _ _).drew).trans hn3.ext
      refine ⟨hx3, ?_⟩
      refine Ops.callM rfl rfl rfl (slices_Clone (ix xs p).labels _ w3 (hlab3.chg hn3.ext (fun _ _ _ h => h))) ?_
      rintro _ w4 ⟨r3, rfl, hr3, hx4'⟩
      have hx4 : Ext w2 w4 := hx3.trans hx4'
      refine ⟨_, rfl, hx4, ?_⟩
      have hsz3 := hx3.size
      have hsz4 := hx4'.size
      refine Ops.m (Eff.appIB rfl rfl hr3 (by omega) (hx4'.cell (hn3.blk.cell rfl)) (by omega)) rfl ?_
      rintro v5 w5 ⟨hown5, hc5, hb5⟩
      have hx5 : Ext w2 w5 := hx4.trans' hc5 (fun i hi h => by have := (hr3.lt i h).1; omega)
      refine ⟨hx5, ?_⟩
      have hx05 : Ext w w5 := hx2.trans hx5
      obtain ⟨q5, k5, rfl, _⟩ := own_slice hown5
      refine wgo ?_
      refine Ops.callM rfl rfl rfl (goer_labels xs _ _ _ _ p ((ix xs p).labels ++ [(ix xs p).a]) _ w5 (hb0.ext hx05) hsm hok hp ((hown5.reads (by simp; omega)).mono (fun _ _ _ => trivial)) (by simp; omega) rfl) ?_
      rintro _ w6 ⟨hx6, ⟨hall, r, rfl, hr⟩ | ⟨⟨t, ht, hbad⟩, rfl⟩⟩
      · refine ⟨_, rfl, hx5.trans hx6, ?_⟩
        rw [List.all_eq_true.2 hall] at hN
        obtain ⟨q, c, rfl, _⟩ := own_slice hr
        refine wgo ?_
        refine Fin.ret2 rfl rfl rfl ⟨hx05.trans hx6, _, by rw [hN]; rfl, fun _ => ?_, _, _, _, rfl⟩
        rw [hA]
        have e : ((ix xs p).labels ++ [(ix xs p).a]).map (toR xs p) = (ix xs p).labels.map (toR xs p) ++ [toR xs p (ix xs p).a] := by simp
        rw [← e]
        exact own_base hr (fun k hk => by have := (hr.lt k hk).1; have := hx05.size; omega)
      · refine ⟨_, rfl, hx5.trans hx6, ?_⟩
        rw [List.all_eq_false.2 ⟨t, ht, by simp [hbad]⟩] at hN
        refine wgo ?_
        refine Fin.ret2 rfl rfl rfl ⟨hx05.trans hx6, _, by rw [hN]; rfl, fun h => (by rw [hN] at h; cases h), _, _, _, rfl⟩
  · rw [if_neg (by omega), if_neg (by omega), if_neg (by omega), if_neg (by omega), if_neg (by omega), if_pos h15] at hA
    rw [if_neg (by omega), if_neg (by omega)] at hN
    rcases h15 with h15 | h15
    · refine wgo ?_
      refine Fin.ret2 rfl rfl rfl ⟨hx2, _, by rw [hN], fun _ => ?_, _, _, _, rfl⟩
      rw [hA]; exact OwnI.nil _ _
    · refine wgo ?_
      refine Fin.ret2 rfl rfl rfl ⟨hx2, _, by rw [hN], fun _ => ?_, _, _, _, rfl⟩
      rw [hA]; exact OwnI.nil _ _
  · rw [if_neg (by omega), if_neg (by omega), if_neg (by omega), if_neg (by omega), if_neg (by omega), if_neg (by omega)] at hA
    rw [if_neg (by omega), if_neg (by omega)] at hN
    by_cases hlast : xs.length ≤ p + 1
    · rw [if_pos hlast] at hA
      refine wgo ?_
      refine Fin.ret2 rfl rfl rfl ⟨hx2, _, by rw [hN], fun _ => ?_, _, _, _, rfl⟩
      rw [hA]; exact OwnI.nil _ _
    · rw [if_neg hlast] at hA
      refine wgo ?_
      refine Ops.e (Eff.buildSlice (cs := [.int .i64 ((p : Int) + 1)]) (e := 3) rfl (by kernel_rfl)) rfl ?_
      rintro _ w3 ⟨rfl, hn3⟩
      refine wgo ?_
      refine Fin.ret2 rfl rfl rfl ⟨hx2.trans hn3.ext, _, by rw [hN], fun _ => ?_, _, _, _, rfl⟩
      rw [hA]; exact OwnI.ofNew hn3 rfl (by have := hx2.size; omega) (by simp [maxLen])
end Go.Proofs.YtmkgfccfnpmcjaaDoor
