/- Walks of slices.Reverse, cfg.Order and its closure. -/
import Derived.Test.YtmkgfccfnpmcjaaDoorJN1
import Derived.Test.YtmkgfccfnpmcjaaDoorJM3
namespace Go.Proofs.YtmkgfccfnpmcjaaDoor
open Go.RowKit

theorem ix_ext {α : Type} [Inhabited α] {a b : List α} (hl : a.length = b.length) (h : ∀ k, k < a.length → ix a k = ix b k) : a = b := by
  refine List.ext_getElem hl (fun k h1 h2 => ?_)
  have := h k h1
  rwa [ix_eq h1, ix_eq h2] at this
def revTo (xs : List Int) (i : Nat) : List Int := (List.range xs.length).map (fun k => if k < i ∨ xs.length < i + 1 + k then ix xs (xs.length - 1 - k) else ix xs k)
theorem revTo_len (xs : List Int) (i : Nat) : (revTo xs i).length = xs.length := by simp [revTo]
theorem revTo_ix {xs : List Int} {i k : Nat} (h : k < xs.length) : ix (revTo xs i) k = if k < i ∨ xs.length < i + 1 + k then ix xs (xs.length - 1 - k) else ix xs k := ix_map_range h
theorem revTo_zero (xs : List Int) : revTo xs 0 = xs := by
  refine ix_ext (revTo_len _ _) (fun k hk => ?_)
  rw [revTo_len] at hk
  rw [revTo_ix hk, if_neg (by omega)]
theorem revTo_step {xs : List Int} {i : Nat} (h : 2 * i + 1 < xs.length) : ((revTo xs i).set i (ix xs (xs.length - 1 - i))).set (xs.length - 1 - i) (ix xs i) = revTo xs (i + 1) := by
  refine ix_ext (by simp [revTo_len]) (fun k hk => ?_)
  have hk' : k < xs.length := by simpa [revTo_len] using hk
  rw [revTo_ix hk']
  by_cases e1 : k = xs.length - 1 - i
  · subst e1
    rw [ix_set_same (by simp [revTo_len]; omega), if_pos (by omega)]
    congr 1; omega
  · rw [ix_set_other e1]
    by_cases e2 : k = i
    · subst e2
      rw [ix_set_same (by simp [revTo_len]; omega), if_pos (by omega)]
    · rw [ix_set_other e2, revTo_ix hk']
      by_cases e3 : k < i ∨ xs.length < i + 1 + k
      · rw [if_pos e3, if_pos (by omega)]
      · rw [if_neg e3, if_neg (by omega)]
theorem revTo_end {xs : List Int} {i : Nat} (h : xs.length ≤ 2 * i + 1) : revTo xs i = xs.reverse := by
  refine ix_ext (by simp [revTo_len]) (fun k hk => ?_)
  rw [revTo_len] at hk
  rw [revTo_ix hk, ix_eq (xs := xs.reverse) (by simpa using hk), List.getElem_reverse]
  split
  · rw [ix_eq (by omega)]
  · rw [ix_eq hk]; congr 1; omega

theorem slices_Reverse (xs : List Int) (v : Value) (B : Nat) (w : World) (hown : OwnI B w v xs) (hsm : xs.length ≤ 1000000000) :
    Calls G.P 41 #[v] w fun e w' => e = .returned (.tuple #[]) ∧ OwnI B w' v xs.reverse ∧ Chg (fun k => v.ownBlock = some k) w w' ∧ w'.heap.size = w.heap.size := by
  obtain ⟨p, cap, rfl, hc, hcm, hg⟩ := own_slice hown
  refine enter (G := G) Tryd.func41 rfl Tryd.ntmps41 rfl ?_
  refine wgo ?_
  refine Cd.loop (σ := Nat) (fun s => [(0, .slice p xs.length cap), (2, .int .i64 s), (3, .int .i64 ((xs.length : Int) - 1 - s))]) (fun s wr => 2 * s ≤ xs.length + 1 ∧ OwnI B wr (.slice p xs.length cap) (revTo xs s) ∧ Chg (fun k => (Value.slice p xs.length cap).ownBlock = some k) w wr ∧ wr.heap.size = w.heap.size) (fun s => xs.length - s) 0 wsub
    ⟨by omega, by rw [revTo_zero]; exact hown, Chg.refl _ _, rfl⟩ ?_
  rintro i wr ⟨hi, ho, hch, hsz⟩
  by_cases hlt : 2 * i + 1 < xs.length
  · obtain ⟨g, rfl, hg1, hg2⟩ := hg (by omega)
    have hl := revTo_len xs i
    have hci := ho.get (i := i) (by omega)
    have hcj := ho.get (i := xs.length - 1 - i) (by omega)
    rw [revTo_ix (by omega), if_neg (by omega)] at hci hcj
    refine wgo ?_
    refine Cd.region2 [0, 1, 2, 3, 4, 5, 6, 7, 8, 9, 10, 11, 12] [13, 14, 15] (by kernel_rfl) ?_
    refine wgo ?_
    refine Ops.y (Yl.idx1 rfl rfl rfl rfl rfl (i := xs.length - 1 - i) (by omega) (by omega)) rfl ?_
    refine wgo ?_
    refine Fin.tail ?_
    have hod : OwnI B wr.drew (.slice (some ⟨g, 0, none⟩) xs.length cap) (revTo xs i) := own_chg ho (S := fun _ => False) (Chg.refl _ _).drew (fun _ _ h => h)
    refine Ops.m0 (Eff.store rfl rfl rfl rfl rfl (hod.get (by omega)) (hod.free _)) rfl ?_
    rintro _ w1 hw1
    obtain ⟨hs1, hc1⟩ := hod.set i (ix xs (xs.length - 1 - i))
    have hz1 : w1.heap.size = wr.heap.size := by rw [hw1]; simp only [World.setCell, Array.size_modify]; rfl
    rw [← hw1] at hs1 hc1
    refine ⟨trivial, ?_⟩
    refine Ops.y (Yl.idx1 rfl rfl rfl rfl rfl (i := xs.length - 1 - i) (by omega) (by omega)) rfl ?_
    refine Ops.m0 (Eff.store rfl rfl rfl rfl rfl (hs1.get (by rw [List.length_set, hl]; omega)) (hs1.free _)) rfl ?_
    rintro _ w2 hw2
    obtain ⟨hs2, hc2⟩ := hs1.set (xs.length - 1 - i) (ix xs i)
    have hz2 : w2.heap.size = w1.heap.size := by rw [hw2]; simp only [World.setCell, Array.size_modify]
    rw [← hw2] at hs2 hc2
    rw [revTo_step hlt] at hs2
    refine ⟨trivial, ?_⟩
    refine wgo ?_
    exact Fin.next (i + 1) wsub ⟨by omega, hs2, ((hch.drew.trans' hc1 (fun k _ e => by subst e; rfl)).trans' hc2 (fun k _ e => by subst e; rfl)), by omega⟩ (by omega)
  · rw [revTo_end (by omega)] at ho
    refine wgo ?_
    exact Fin.end0 rfl ⟨rfl, ho, hch, hsz⟩

/-- the closure visit's world: the boxed row, what has been met, its variable, the result's variable, its own variable -/
structure VS (B g1 g2 g3 g4 : Nat) (w : World) (lv : Value) (bs : List Bk) (nvs : List Value) (seen : List Bool) (out : List Int) (ov : Value) : Prop where
  ord : B < g1 ∧ g1 < g2 ∧ g2 < g3 ∧ g3 < g4
  hb : BlocksN (fun k => k < B) w lv bs nvs
  sl : seen.length = bs.length
  l : Blk w B [lv] 71
  s : OwnBl B w (.slice (some ⟨g1, 0, none⟩) bs.length bs.length) seen
  m : Blk w (g2) [.slice (some ⟨g1, 0, none⟩) bs.length bs.length] 67
  o : Blk w (g3) [ov] 51
  v : Blk w (g4) [.func (.func 40) #[] #[.pointer (some ⟨g2, 0, none⟩), .pointer (some ⟨B, 0, none⟩), .pointer (some ⟨g4, 0, none⟩), .pointer (some ⟨g3, 0, none⟩)]] 131
  ow : OwnI B w ov out
  ob : ∀ k, ov.ownBlock = some k → g4 < k

theorem VS.chg {S : Nat → Prop} {B g1 g2 g3 g4 : Nat} {w w' : World} {lv : Value} {bs : List Bk} {nvs : List Value} {seen : List Bool} {out : List Int} {ov : Value} (h : VS B g1 g2 g3 g4 w lv bs nvs seen out ov) (hc : Chg S w w') (hS : ∀ k, S k → g4 < k ∧ ov.ownBlock ≠ some k) : VS B g1 g2 g3 g4 w' lv bs nvs seen out ov :=
  have ho_ := h.ord
  have no : ∀ k, k ≤ g4 → ¬ S k := fun k hk hs => by have := (hS k hs).1; omega
  ⟨h.ord, h.hb.chg hc (fun k _ hF => no k (by omega)), h.sl, h.l.chg hc (no _ (by omega)), own_chg h.s hc (fun k hk => no k (by have e2 : g1 = k := Option.some.inj hk; omega)), h.m.chg hc (no _ (by omega)), h.o.chg hc (no _ (by omega)), h.v.chg hc (no _ (by omega)), own_chg h.ow hc (fun k hk hs => (hS k hs).2 hk), h.ob⟩
theorem VS.set {B g1 g2 g3 g4 : Nat} {w : World} {lv : Value} {bs : List Bk} {nvs : List Value} {seen : List Bool} {out : List Int} {ov : Value} (h : VS B g1 g2 g3 g4 w lv bs nvs seen out ov) (q : Nat) : VS B g1 g2 g3 g4 (w.setCell ⟨g1, 0 + q, none⟩ (.bool true)) lv bs nvs (seen.set q true) out ov := by
  obtain ⟨h1, hc⟩ := h.s.set q true
  have ho_ := h.ord
  exact ⟨h.ord, h.hb.chg hc (fun k _ hF e => by omega), by simpa using h.sl, h.l.chg hc (fun e => by omega), h1, h.m.chg hc (fun e => by omega), h.o.chg hc (fun e => by omega), h.v.chg hc (fun e => by omega), own_chg h.ow hc (fun k hk e => by have := h.ob k hk; omega), h.ob⟩
theorem VS.app {B g1 g2 g3 g4 : Nat} {w w' : World} {lv : Value} {bs : List Bk} {nvs : List Value} {seen : List Bool} {out out' : List Int} {ov v' : Value} (h : VS B g1 g2 g3 g4 w lv bs nvs seen out ov) (ho : OwnI B w' v' out') (hc : Chg (fun k => ov.ownBlock = some k) w w') (hb : v'.ownBlock = ov.ownBlock ∨ v'.ownBlock = some w.heap.size) :
    VS B g1 g2 g3 g4 (w'.setCell ⟨g3, 0, none⟩ v') lv bs nvs seen out' v' ∧ Chg (fun k => B ≤ k) w (w'.setCell ⟨g3, 0, none⟩ v') := by
  have hsz : g4 < w.heap.size := Blk.lt h.v
  have ho_ := h.ord
  have hob : ∀ k, v'.ownBlock = some k → g4 < k := fun k hk => by
    rcases hb with e | e
    · rw [e] at hk; exact h.ob k hk
    · rw [e] at hk; cases hk; omega
  have no : ∀ k, k ≤ g4 → ¬ ov.ownBlock = some k := fun k hk hs => by have := h.ob k hs; omega
  have c2 : Chg (fun k => k = g3) w' (w'.setCell ⟨g3, 0, none⟩ v') := (Chg.refl (fun k => k = g3) _).setCell (fun _ => rfl) _
  have ho3 := (h.o.chg hc (no _ (by omega))).set 0 v'
  refine ⟨⟨h.ord, (h.hb.chg hc (fun k _ hF => no k (by omega))).chg c2 (fun k _ hF e => by omega), h.sl, (h.l.chg hc (no _ (by omega))).chg c2 (fun e => by omega), own_chg (own_chg h.s hc (fun k hk => no k (by have e2 : g1 = k := Option.some.inj hk; omega))) c2 (fun k hk e => by have e2 : g1 = k := Option.some.inj hk; omega), (h.m.chg hc (no _ (by omega))).chg c2 (fun e => by omega), ho3, (h.v.chg hc (no _ (by omega))).chg c2 (fun e => by omega), own_chg ho c2 (fun k hk e => by have := hob k hk; omega), hob⟩, ?_⟩
  exact (hc.mono (fun k _ e => by have := h.ob k e; omega)).trans' c2 (fun k _ e => by omega)

set_option maxRecDepth 100000 in
theorem cfg_visit (bs : List Bk) (nvs : List Value) (lv : Value) (B g1 g2 g3 g4 : Nat) (hnl : ∀ i, i < bs.length → (ix bs i).next.length ≤ 1000000000) : ∀ (f q : Nat) (seen : List Bool) (out : List Int) (ov : Value) (w : World),
    VS B g1 g2 g3 g4 w lv bs nvs seen out ov → q < bs.length → ix seen q = false → cnt seen < f → out.length + cnt seen ≤ 10000000 →
    Calls G.P 40 #[.int .i64 q, .pointer (some ⟨g2, 0, none⟩), .pointer (some ⟨B, 0, none⟩), .pointer (some ⟨g4, 0, none⟩), .pointer (some ⟨g3, 0, none⟩)] w fun e w' => e = .returned (.tuple #[]) ∧
      (∃ ov', VS B g1 g2 g3 g4 w' lv bs nvs (deepR bs f q (seen, out)).1 (deepR bs f q (seen, out)).2 ov') ∧ Chg (fun k => B ≤ k) w w' := by
  intro f
  induction f with
  | zero => intro q seen out ov w _ _ _ h; omega
  | succ f ih =>
    intro q seen out ov w hv hq h3 hcnt htot
    have ho_ := hv.ord
    obtain ⟨p, cap, rfl, hl⟩ := hv.hb.slice
    obtain ⟨b, off, rfl, hFb, -⟩ := hv.hb.at hq
    have hd : deepR bs (f + 1) (q : Int) (seen, out) = (((ix bs q).next.foldl (fun s b => deepR bs f b s) (seen.set q true, out)).1, ((ix bs q).next.foldl (fun s b => deepR bs f b s) (seen.set q true, out)).2 ++ [(q : Int)]) := by
      rw [deepR, if_neg (by simp [h3]; omega)]; rfl
    have hset := cnt_set (seen := seen) (i := q) (by rw [hv.sl]; exact hq) h3
    have hm : w.cell? ⟨g2, 0, none⟩ = _ := hv.m.cell (j := 0) rfl
    refine enter (G := G) Tryd.func40 rfl Tryd.ntmps40 rfl ?_
    refine wgo ?_
    refine Ops.e0 (Eff.store rfl rfl rfl rfl rfl (hv.s.get (by rw [hv.sl]; exact hq)) (hv.s.free _)) ?_
    rintro _ w1 hw1
    have hv1 := hv.set q
    have hc1 : Chg (fun k => B ≤ k) w (w.setCell ⟨g1, 0 + q, none⟩ (.bool true)) := (Chg.refl _ _).setCell (fun _ => by show B ≤ g1; omega) _
    rw [← hw1] at hv1 hc1
    clear hw1
    obtain ⟨b', off', e', -, hI'⟩ := hv1.hb.at hq
    cases e'
    obtain ⟨pn, cn, hnv, hnl2⟩ := (hI' q hq).next.slice
    have hnx := (hI' q hq).nx
    rw [hnv] at hnx
    have hlc : w1.cell? ⟨B, 0, none⟩ = _ := hv1.l.cell (j := 0) rfl
    have hnl3 := hnl q hq
    refine wgo ?_
    refine Cd.loop (σ := Nat) (fun s => [(0, .int .i64 q), (1, .pointer (some ⟨g2, 0, none⟩)), (2, .pointer (some ⟨B, 0, none⟩)), (3, .pointer (some ⟨g4, 0, none⟩)), (4, .pointer (some ⟨g3, 0, none⟩)), (15, .slice pn (ix bs q).next.length cn), (16, .int .i64 (ix bs q).next.length), (17, .int .i64 s)])
      (fun s wr => s ≤ (ix bs q).next.length ∧ (∃ ov', VS B g1 g2 g3 g4 wr (.slice (some ⟨b, off, none⟩) bs.length cap) bs nvs (((ix bs q).next.take s).foldl (fun s b => deepR bs f b s) (seen.set q true, out)).1 (((ix bs q).next.take s).foldl (fun s b => deepR bs f b s) (seen.set q true, out)).2 ov') ∧ Chg (fun k => B ≤ k) w wr) (fun s => (ix bs q).next.length - s) 0 wsub
      ⟨Nat.zero_le _, ⟨ov, hv1⟩, hc1⟩ ?_
    rintro k wr ⟨hk, ⟨o, hvr⟩, hcr⟩
    have hinv := foldDeep_inv bs f ((ix bs q).next.take k) (seen.set q true, out) (by simpa using hv.sl)
    dsimp only at hinv
    by_cases hlt : k < (ix bs q).next.length
    · obtain ⟨b', off', e', -, hI2⟩ := hvr.hb.at hq
      cases e'
      have hnr := (hI2 q hq).next
      rw [hnv] at hnr
      obtain ⟨bn, on_, rfl, -, hN⟩ := hnr.at hlt
      have hNk := hN k hlt
      have hlr : wr.cell? ⟨B, 0, none⟩ = _ := hvr.l.cell (j := 0) rfl
      have hmr : wr.cell? ⟨g2, 0, none⟩ = _ := hvr.m.cell (j := 0) rfl
      have hvv : wr.cell? ⟨g4, 0, none⟩ = _ := hvr.v.cell (j := 0) rfl
      have hstep : ((ix bs q).next.take (k + 1)).foldl (fun s b => deepR bs f b s) (seen.set q true, out) = deepR bs f (ix (ix bs q).next k) (((ix bs q).next.take k).foldl (fun s b => deepR bs f b s) (seen.set q true, out)) := by
        rw [take_succ_ix hlt, List.foldl_append]; rfl
      generalize hst : ((ix bs q).next.take k).foldl (fun s b => deepR bs f b s) (seen.set q true, out) = st at *
      have skip : ∀ a : Int, (a < 0 ∨ (bs.length : Int) ≤ a ∨ ix st.1 a.toNat = true) → deepR bs f a st = st := fun a ha => by
        cases f with
        | zero => rfl
        | succ f => rw [deepR, if_pos ha]
      generalize ix (ix bs q).next k = a at *
      by_cases ha0 : a < 0
      · rw [skip a (.inl ha0)] at hstep
        refine wgo ?_
        exact Fin.next (k + 1) wsub ⟨by omega, ⟨o, by rw [hstep]; exact hvr⟩, hcr⟩ (by omega)
      · by_cases ha1 : (bs.length : Int) ≤ a
        · rw [skip a (.inr (.inl ha1))] at hstep
          refine wgo ?_
          exact Fin.next (k + 1) wsub ⟨by omega, ⟨o, by rw [hstep]; exact hvr⟩, hcr⟩ (by omega)
        · obtain ⟨j, rfl⟩ := Int.eq_ofNat_of_zero_le (Int.not_lt.1 ha0)
          have hj : j < bs.length := by omega
          have hsj := hvr.s.get (i := j) (by rw [hvr.sl]; exact hj)
          cases hm3 : ix st.1 j with
          | true =>
            rw [hm3] at hsj
            rw [skip (j : Int) (.inr (.inr (by simpa using hm3)))] at hstep
            refine wgo ?_
            exact Fin.next (k + 1) wsub ⟨by omega, ⟨o, by rw [hstep]; exact hvr⟩, hcr⟩ (by omega)
          | false =>
            rw [hm3] at hsj
            refine wgo ?_
            refine Ops.callV (cap := [.pointer (some ⟨g2, 0, none⟩), .pointer (some ⟨B, 0, none⟩), .pointer (some ⟨g4, 0, none⟩), .pointer (some ⟨g3, 0, none⟩)]) rfl rfl rfl rfl (ih j st.1 st.2 o wr hvr hj hm3 (by omega) (by omega)) ?_
            rintro _ w2 ⟨rfl, ⟨o2, hv2⟩, hc2⟩
            refine ⟨_, rfl, ?_⟩
            refine wgo ?_
            exact Fin.next (k + 1) wsub ⟨by omega, ⟨o2, by rw [hstep]; exact hv2⟩, hcr.trans hc2⟩ (by omega)
    · obtain rfl : k = (ix bs q).next.length := by omega
      rw [List.take_length] at hvr hinv
      have hor : wr.cell? ⟨g3, 0, none⟩ = _ := hvr.o.cell (j := 0) rfl
      obtain ⟨po, co, rfl, -⟩ := own_slice hvr.ow
      refine wgo ?_
      refine Ops.e (Eff.buildSlice (cs := [.int .i64 q]) (e := 3) rfl (by kernel_rfl)) rfl ?_
      rintro _ w4 ⟨rfl, hn4⟩
      have hsz : g4 < wr.heap.size := Blk.lt hvr.v
      have hv4 := hvr.chg hn4.ext (fun _ h => h.elim)
      have hz4 := hn4.size
      refine Ops.e (Eff.appIB rfl rfl hv4.ow (by omega) (hn4.blk.cell rfl) (by omega)) rfl ?_
      rintro v5 w5 ⟨hown5, hc5, hb5⟩
      obtain ⟨p5, c5, rfl, -⟩ := own_slice hown5
      have ho5 := hv4.o.chg hc5 (fun e => by have := hv4.ob _ e; omega)
      refine Ops.e0 (Eff.store rfl rfl rfl rfl rfl (ho5.cell (j := 0) rfl) (ho5.free _)) ?_
      rintro _ w6 hw6
      obtain ⟨hv6, hc6⟩ := hv4.app hown5 hc5 hb5
      rw [← hw6] at hv6 hc6
      refine wgo ?_
      refine Fin.end0 rfl ⟨rfl, ⟨_, by rw [hd]; exact hv6⟩, (hcr.trans hn4.ext.any).trans hc6⟩

set_option maxRecDepth 100000 in
theorem cfg_Order (bs : List Bk) (nvs : List Value) (lv : Value) (w : World) (hb : BlocksN (fun _ => True) w lv bs nvs) (hnl : ∀ i, i < bs.length → (ix bs i).next.length ≤ 1000000000) (hsm : bs.length ≤ 1000000) :
    Calls G.P 24 #[lv] w fun e w' => ∃ r, e = .returned r ∧ OwnI w.heap.size w' r (orderR bs) ∧ Ext w w' := by
  obtain ⟨p, cap, rfl, hl⟩ := hb.slice
  refine enter (G := G) Tryd.func24 rfl Tryd.ntmps24 rfl ?_
  refine wgo ?_
  refine Ops.e (Eff.box (cs := [.slice p bs.length cap]) rfl rfl) rfl ?_
  rintro _ w1 ⟨rfl, hn1⟩
  have hl1 : w1.cell? ⟨w.heap.size, 0, none⟩ = _ := hn1.blk.cell (j := 0) rfl
  by_cases h0 : bs.length = 0
  · have hO : orderR bs = [] := by
      have : bs = [] := List.length_eq_zero_iff.1 h0
      subst this; rfl
    refine wgo ?_
    exact Fin.ret1 rfl rfl ⟨_, rfl, by rw [hO]; exact OwnI.nil _ _, hn1.ext⟩
  · refine wgo ?_
    refine Ops.e (Eff.make (base := w.heap.size) rfl rfl rfl rfl (by show 1 * bs.length ≤ _; omega) (by unfold maxLen; omega) (by have := hn1.size; omega)) rfl ?_
    rintro _ w2 ⟨rfl, hm2, hx2, hsz2⟩
    have hs2 := OwnBl.ofMade hm2
    have hsz1 := hn1.size
    refine Ops.e (Eff.alloc rfl) rfl ?_
    rintro _ w3 ⟨rfl, hn3⟩
    refine Ops.e0 (Eff.storeB (cs := [.slice (some ⟨w1.heap.size, 0, none⟩) bs.length bs.length]) rfl rfl rfl rfl rfl (by simp [Value.oneCell']) hn3.blk rfl) ?_
    rintro _ w4 ⟨hb4, hc4, hs4⟩
    refine wgo ?_
    refine Ops.e (Eff.alloc rfl) rfl ?_
    rintro _ w5 ⟨rfl, hn5⟩
    refine wgo ?_
    refine Ops.e (Eff.alloc rfl) rfl ?_
    rintro _ w6 ⟨rfl, hn6⟩
    refine wgo ?_
    refine Ops.e0 (Eff.storeB (cs := [.func (.func 40) #[] #[.pointer (some ⟨w2.heap.size, 0, none⟩), .pointer (some ⟨w.heap.size, 0, none⟩), .pointer (some ⟨w5.heap.size, 0, none⟩), .pointer (some ⟨w4.heap.size, 0, none⟩)]]) rfl rfl rfl rfl rfl (by simp [Value.oneCell']) hn6.blk rfl) ?_
    rintro _ w7 ⟨hb7, hc7, hs7⟩
    have hz3 := hn3.size
    have hz5 := hn5.size
    have hz6 := hn6.size
    have hx24 : Ext w2 w4 := hn3.ext.trans' hc4 (fun i hi e => by omega)
    have hx47 : Chg (fun k => k = w5.heap.size) w4 w7 := (show Ext w4 w6 from hn5.ext.trans hn6.ext).any.trans hc7
    have hx57 : Chg (fun k => k = w5.heap.size) w5 w7 := hn6.ext.any.trans hc7
    have hx27 : Ext w2 w7 := hx24.trans' hx47 (fun i hi e => by omega)
    have hx17 : Ext w1 w7 := hx2.trans hx27
    have hx07 : Ext w w7 := hn1.ext.trans hx17
    have hvs : VS w.heap.size w1.heap.size w2.heap.size w4.heap.size w5.heap.size w7 (.slice p bs.length cap) bs nvs (List.replicate bs.length false) [] (.slice none 0 0) := by
      refine ⟨⟨by omega, by omega, by omega, by omega⟩, ?_, by simp, hn1.blk.chg hx17 (fun h => h), own_chg hs2 hx27 (fun _ _ h => h), hb4.chg hx47 (fun e => by omega), hn5.blk.chg hx57 (fun e => by omega), hb7, OwnI.nil _ _, fun k hk => (by cases hk)⟩
      refine BlocksN.chg ?_ hx07 (fun _ _ _ h => h)
      obtain ⟨p', c', e, h1, h2, h3, h4⟩ := hb
      refine ⟨p', c', e, h1, h2, fun i hi => (h3 i hi).mono (fun k hk _ => hk), ?_⟩
      rcases h4 with h4 | ⟨b, off, e2, _, h5⟩
      · exact .inl h4
      · refine .inr ⟨b, off, e2, ?_, h5⟩
        exact cell_lt (p := ⟨b, off + 0 * 4 + 0, none⟩) (v := .int .i64 (ix bs 0).fr) (h5 0 (by omega) 0 (by omega))
    have hvc : w7.cell? ⟨w5.heap.size, 0, none⟩ = _ := hb7.cell (j := 0) rfl
    refine wgo ?_
    refine Ops.callV (cap := [.pointer (some ⟨w2.heap.size, 0, none⟩), .pointer (some ⟨w.heap.size, 0, none⟩), .pointer (some ⟨w5.heap.size, 0, none⟩), .pointer (some ⟨w4.heap.size, 0, none⟩)]) rfl rfl rfl rfl (cfg_visit bs nvs _ _ _ _ _ _ hnl (bs.length + 1) 0 _ [] _ w7 hvs (by omega) (by rw [ix_eq (by simp; omega)]; simp) (by rw [cnt_replicate]; omega) (by rw [cnt_replicate]; simp; omega)) ?_
    rintro _ w8 ⟨rfl, ⟨o8, hv8⟩, hc8⟩
    refine ⟨_, rfl, ?_⟩
    have hx8 : Ext w w8 := hx07.trans' hc8 (fun i hi e => by omega)
    have hO : orderR bs = ((deepR bs (bs.length + 1) 0 (List.replicate bs.length false, [])).2).reverse := rfl
    have hOl := orderR_len hsm
    rw [hO, List.length_reverse] at hOl
    have hoc : w8.cell? ⟨w4.heap.size, 0, none⟩ = _ := hv8.o.cell (j := 0) rfl
    have h8o := hv8.ow
    have h8b := hv8.o
    have h8k := hv8.ob
    have h8ord := hv8.ord
    rw [hO]
    change OwnI w.heap.size w8 o8 (deepR bs (bs.length + 1) 0 (List.replicate bs.length false, [])).2 at h8o
    generalize (deepR bs (bs.length + 1) 0 (List.replicate bs.length false, [])).2 = D at *
    refine wgo ?_
    refine Ops.call rfl rfl rfl (slices_Reverse D o8 _ w8 h8o (by omega)) ?_
    rintro _ w9 ⟨rfl, ho9, hc9, hs9⟩
    refine ⟨_, rfl, ?_⟩
    have hb9 := h8b.chg hc9 (fun e => by have := h8k _ e; omega)
    have hoc9 : w9.cell? ⟨w4.heap.size, 0, none⟩ = _ := hb9.cell (j := 0) rfl
    refine wgo ?_
    exact Fin.ret1 rfl rfl ⟨_, rfl, ho9, hx8.trans' hc9 (fun i hi e => by have := h8k _ e; omega)⟩
end Go.Proofs.YtmkgfccfnpmcjaaDoor
