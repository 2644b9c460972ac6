/- Walk of cfg.Of. -/
import Derived.Test.YtmkgfccfnpmcjaaDoorJC6
import Derived.Test.YtmkgfccfnpmcjaaDoorJC3
namespace Go.Proofs.YtmkgfccfnpmcjaaDoor
open Go.RowKit

set_option maxRecDepth 100000 in
set_option maxHeartbeats 4000000 in
theorem cfg_Of (xs : List Ins) (v : Value) (w : World) (hb : Body w v xs) (hsm : xs.length ≤ 1000000) (hlab : ∀ i, i < xs.length → (ix xs i).labels.length ≤ 1000000) :
    Calls G.P 10 #[v] w (OfPost w xs ((checkR xs).2 = 0 ∧ ¬ badB xs) (blocksB xs)) := by
  obtain ⟨p, cap, rfl, hl⟩ := hb.slice
  refine enter (G := G) Tryd.func10 rfl Tryd.ntmps10 rfl ?_
  refine wgo ?_
  refine Ops.call rfl rfl rfl (nest_Check xs _ w hb (by omega)) ?_
  rintro _ wa ⟨rfl, hxa⟩
  refine ⟨_, rfl, ?_⟩
  by_cases hok : (checkR xs).2 = 0
  case neg =>
    refine wgo ?_
    exact Fin.ret2 rfl rfl rfl (.inl ⟨fun h => hok h.1, rfl, hxa⟩)
  rw [hok]
  have hpos := nonempty_of_ok hok
  refine wgo ?_
  refine Ops.call rfl rfl rfl (nest_Elses xs _ wa (hb.ext hxa) (by omega) hok) ?_
  rintro _ wb ⟨r2, rfl, o2, hxb⟩
  refine ⟨_, rfl, ?_⟩
  have hwb : Ext w wb := hxa.trans hxb
  refine wgo ?_
  refine Ops.call rfl rfl rfl (nest_Ends xs _ wb (hb.ext hwb) (by omega) hok) ?_
  rintro _ wc ⟨r3, rfl, o3, hxc⟩
  refine ⟨_, rfl, ?_⟩
  have hwc : Ext w wc := hwb.trans hxc
  refine wgo ?_
  refine Ops.call rfl rfl rfl (nest_Heads xs _ wc (hb.ext hwc) (by omega) hok) ?_
  rintro _ wd ⟨r4, rfl, o4, hxd⟩
  refine ⟨_, rfl, ?_⟩
  have hwd : Ext w wd := hwc.trans hxd
  have q2 := elsesR_len xs
  have q3 := endsR_len xs
  have q4 : (headsR xs).length = xs.length := headsTo_len xs _
  obtain ⟨p2, c2, rfl, -, -, hg2_⟩ := own_slice o2
  obtain ⟨g2, rfl, -⟩ := hg2_ (by omega)
  obtain ⟨p3, c3, rfl, -, -, hg3_⟩ := own_slice o3
  obtain ⟨g3, rfl, -⟩ := hg3_ (by omega)
  obtain ⟨p4, c4, rfl, -, -, hg4_⟩ := own_slice o4
  obtain ⟨g4, rfl, -⟩ := hg4_ (by omega)
  rw [q2] at *
  rw [q3] at *
  rw [q4] at *
  have hsb := hwb.size
  have hsc := hwc.size
  have hsd := hwd.size
  have hsa := hxa.size
  replace o2 : OwnI w.heap.size wd _ _ := own_base ((o2.ext hxc).ext hxd) (fun k hk => by have := (o2.lt k hk).1; omega)
  replace o3 : OwnI w.heap.size wd _ _ := own_base (o3.ext hxd) (fun k hk => by have := (o3.lt k hk).1; omega)
  replace o4 : OwnI w.heap.size wd _ _ := own_base o4 (fun k hk => by have := (o4.lt k hk).1; omega)
  refine Ops.y (Yl.build (v := .agg #[.slice p xs.length cap, .slice (some ⟨g2, 0, none⟩) xs.length c2, .slice (some ⟨g3, 0, none⟩) xs.length c3, .slice (some ⟨g4, 0, none⟩) xs.length c4]) rfl (fun _ => by kernel_rfl)) rfl ?_
  refine Ops.e (Eff.alloc rfl) rfl ?_
  rintro _ we ⟨rfl, hne⟩
  refine Ops.e0 (Eff.storeB (cs := [.slice p xs.length cap, .slice (some ⟨g2, 0, none⟩) xs.length c2, .slice (some ⟨g3, 0, none⟩) xs.length c3, .slice (some ⟨g4, 0, none⟩) xs.length c4]) rfl rfl rfl rfl rfl (by simp [Value.oneCell']) hne.blk rfl) ?_
  rintro _ wf ⟨hbf, hcf, hsf⟩
  have hdf : Ext wd wf := hne.ext.trans' hcf (fun i hi e => by omega)
  have hwf : Ext w wf := hwd.trans hdf
  refine wgo ?_
  refine Ops.call rfl rfl rfl (cfg_begins xs _ wf (hb.ext hwf) (by omega) hpos) ?_
  rintro _ w0 ⟨sv, rfl, os, hx0⟩
  refine ⟨_, rfl, ?_⟩
  have hw0 : Ext w w0 := hwf.trans hx0
  have hd0 : Ext wd w0 := hdf.trans hx0
  have hslen := starts_len xs
  have hfpos := fbTo_pos (xs := xs) (k := xs.length) hpos
  have hfl := fbTo_len xs xs.length
  obtain ⟨ps, sc, rfl, -, -, hgs_⟩ := own_slice os
  obtain ⟨sg, rfl, -⟩ := hgs_ (by omega)
  replace o2 := o2.ext hd0
  replace o3 := o3.ext hd0
  replace o4 := o4.ext hd0
  have hbg := hbf.chg hx0 (fun h => h)
  clear hbf hcf hne hxa hxb hxc hxd hwb hwc hwd hdf hwf hd0
  generalize hgb : wd.heap.size = gb at *
  have hsorted : ∀ a b, a ≤ b → b < (startsR xs).length → ix (startsR xs) a ≤ ix (startsR xs) b := fun a b h1 h2 => by
    rw [starts_ix (by omega), starts_ix (by omega)]
    have := fb_le h1 (by omega : b < (fbTo xs xs.length).length)
    omega
  have hrng := fun j => fbTo_rng (xs := xs) (k := xs.length) (j := j)
  have hchain := fun j => fbTo_chain xs xs.length j
  have hsix := fun j => starts_ix (xs := xs) (j := j)
  have hgoB : ∀ j, goB xs j = afterR xs ((ix (fbTo xs xs.length) j).2 - 1) := fun _ => rfl
  have hnxB : ∀ j, nextB xs j = (goB xs j).map (atF (fbTo xs xs.length)) := fun _ => rfl
  have hblk : blocksB xs = mkB (fbTo xs xs.length) (nextB xs) (fun j => (orderR (mkB (fbTo xs xs.length) (nextB xs) (fun _ => false))).contains (j : Int)) := rfl
  generalize hfb : fbTo xs xs.length = fb at *
  refine wgo ?_
  refine Cd.loop (σ := Nat × Value × List Value) (fun s => [(0, .slice p xs.length cap), (6, .pointer (some ⟨gb, 0, none⟩)), (7, .slice (some ⟨sg, 0, none⟩) (startsR xs).length sc), (8, s.2.1), (42, .slice (some ⟨sg, 0, none⟩) (startsR xs).length sc), (43, .int .i64 (startsR xs).length), (44, .int .i64 s.1)])
    (fun s wr => s.1 ≤ fb.length ∧ s.2.2.length = s.1 ∧ OwnF w0.heap.size 90 4 wr s.2.1 s.1 (fun j => c0 (ix fb j) (ix s.2.2 j)) ∧ (∀ j, j < s.1 → IntsR (fun k => w0.heap.size ≤ k ∧ s.2.1.ownBlock ≠ some k) wr (ix s.2.2 j) (nextB xs j)) ∧ Ext w0 wr) (fun s => fb.length - s.1) (0, _, []) wsub
    ⟨Nat.zero_le _, rfl, OwnF.nil _ _ _ _ _, fun j hj => by dsimp only at hj; omega, Chg.refl _ _⟩ ?_
  rintro ⟨i, o, nvs⟩ wr ⟨hi, hnl, hown, hrows, hext⟩
  dsimp only at hi hnl hown hrows hext ⊢
  have hextw : Ext w wr := hw0.trans hext
  have hbr := hbg.chg hext (fun h => h)
  have hgA : ∀ j, j < 4 → wr.cell? ⟨gb, 0 + j, none⟩ = [Value.slice p xs.length cap, .slice (some ⟨g2, 0, none⟩) xs.length c2, .slice (some ⟨g3, 0, none⟩) xs.length c3, .slice (some ⟨g4, 0, none⟩) xs.length c4][j]? := by
    intro j hj
    match j, hj with
    | 0, _ => exact hbr.cell rfl
    | 1, _ => exact hbr.cell rfl
    | 2, _ => exact hbr.cell rfl
    | 3, _ => exact hbr.cell rfl
  by_cases hlt : i < fb.length
  · have hri := hrng i hlt
    have hci := hchain i hlt
    have hfr := (os.ext hext).get (i := i) (by omega)
    rw [hsix i hlt] at hfr
    have hpi : ((ix fb i).2 : Int) - 1 = (((ix fb i).2 - 1 : Nat) : Int) := by omega
    by_cases hi1 : i + 1 < fb.length
    · rw [if_pos hi1] at hci
      have hto := (os.ext hext).get (i := i + 1) (by omega)
      rw [hsix (i + 1) hi1, ← hci] at hto
      refine wgo ?_
      refine Ops.y (Yl.idx1 rfl rfl rfl rfl rfl (i := i + 1) (by omega) (by omega)) rfl ?_
      refine wgo ?_
      refine Ops.y (Yl.loadA (s := 4) rfl rfl rfl rfl rfl (by intro _ hw_; cases hw_; exact hgA)) rfl ?_
      refine wgo ?_
      rw [hpi]
      refine Ops.call rfl rfl rfl (goer_next xs _ g2 c2 g3 c3 g4 c4 w.heap.size ((ix fb i).2 - 1) wr (hb.ext hextw) (by omega) hok (by omega) (hlab _ (by omega)) (o2.ext hext) (o3.ext hext) (o4.ext hext)) ?_
      rintro _ w1 ⟨hx1, lv, rfl, hlv, pl, ll, cl, rfl⟩
      refine ⟨_, rfl, ?_⟩
      cases hN : okN xs ((ix fb i).2 - 1) with
      | false =>
        refine wgo ?_
        exact Fin.ret2 rfl rfl rfl (.inl ⟨fun h => h.2 ((bad_iff hok).2 ⟨_, by omega, hN⟩), rfl, hextw.trans hx1⟩)
      | true =>
        have hownl := hlv hN
        rw [← hgoB] at hownl
        have hss := succ_start hok (by rw [hfb]; exact hlt) (by rw [hfb]; exact hN)
        obtain ⟨pl', cl', el, hcl, hcml, hgl⟩ := own_slice hownl
        cases el
        have hext1 : Ext w0 w1 := hext.trans hx1
        have hLlen : (goB xs i).length ≤ 1000010 := by
          have h1 : ∀ q, q < xs.length → (afterR xs q).length ≤ 1000010 := fun q hq => by
            have := hlab q hq
            unfold afterR; dsimp only
            repeat' split
            all_goals simp
            all_goals omega
          rw [hgoB]; exact h1 _ (by omega)
        refine wgo ?_
        refine Ops.y (Yl.build (v := .agg #[.int .i64 ((ix fb i).1 : Int), .int .i64 ((ix fb i).2 : Int), .slice none 0 0, .bool false]) rfl (fun _ => by kernel_rfl)) rfl ?_
        refine Ops.e (Eff.alloc rfl) rfl ?_
        rintro _ w2 ⟨rfl, hn2⟩
        refine Ops.e0 (Eff.storeB (cs := [.int .i64 ((ix fb i).1 : Int), .int .i64 ((ix fb i).2 : Int), .slice none 0 0, .bool false]) rfl rfl rfl rfl rfl (by simp [Value.oneCell']) hn2.blk rfl) ?_
        rintro _ w3 ⟨hb3, hc3, hs3⟩
        have hz2 := hn2.size
        have hx13 : Ext w1 w3 := hn2.ext.trans' hc3 (fun q hq e => by omega)
        have hext3 : Ext w0 w3 := hext1.trans hx13
        have hsz1 := hx1.size
        generalize hbb : w1.heap.size = bb at *
        refine wgo ?_
        refine Cd.loop (σ := Nat × Value) (fun s => [(0, .slice p xs.length cap), (6, .pointer (some ⟨gb, 0, none⟩)), (7, .slice (some ⟨sg, 0, none⟩) (startsR xs).length sc), (8, o), (14, .pointer (some ⟨bb, 0, none⟩)), (42, .slice (some ⟨sg, 0, none⟩) (startsR xs).length sc), (43, .int .i64 (startsR xs).length), (44, .int .i64 i), (73, .slice pl (goB xs i).length cl), (74, .int .i64 (goB xs i).length), (75, .int .i64 s.1)])
          (fun s w4 => s.1 ≤ (goB xs i).length ∧ Blk w4 bb [.int .i64 ((ix fb i).1 : Int), .int .i64 ((ix fb i).2 : Int), s.2, .bool false] 90 ∧ OwnI w3.heap.size w4 s.2 (((goB xs i).take s.1).map (atF fb)) ∧ Chg (fun k => k = bb) w3 w4)
          (fun s => (goB xs i).length - s.1) (0, .slice none 0 0) wsub ⟨Nat.zero_le _, hb3, OwnI.nil _ _, Chg.refl _ _⟩ ?_
        rintro ⟨k, nv⟩ w4 ⟨hk, hb4, hnv, hc4⟩
        dsimp only at hk hb4 hnv hc4 ⊢
        obtain ⟨pn, cn, rfl, hcn, hcmn, hgn⟩ := own_slice hnv
        have hmaplen : (((goB xs i).take k).map (atF fb)).length = k := by simp; omega
        have hsz4 := hc4.size
        have hext4 : Ext w0 w4 := hext3.trans' hc4 (fun q hq e => by have := hext1.size; omega)
        have hx14 : Ext w1 w4 := hx13.trans' hc4 (fun q hq e => by omega)
        by_cases hlt2 : k < (goB xs i).length
        · obtain ⟨gl, rfl, hgl1, hgl2⟩ := hgl (by omega)
          have hLk := (hownl.ext hx14).get (i := k) hlt2
          obtain ⟨q, hq, hqn, hqs⟩ := hss (ix (goB xs i) k) (by rw [ix_eq hlt2]; exact List.getElem_mem _)
          have hsr : IntsR (fun _ => True) w4 (.slice (some ⟨sg, 0, none⟩) (startsR xs).length sc) (startsR xs) := ((os.ext hext4).reads (by omega)).mono (fun _ _ _ => trivial)
          have hnc : w4.cell? ⟨bb, 0 + 2, none⟩ = _ := hb4.cell (j := 2) rfl
          refine wgo ?_
          refine Ops.call rfl rfl rfl (slices_BinarySearch (startsR xs) _ (ix (goB xs i) k) w4 hsr hsorted) ?_
          rintro _ _ ⟨i', b', rfl, hi1, hi2, hi3, rfl⟩
          refine ⟨_, rfl, ?_⟩
          have hfind : (i' : Int) = atF fb (ix (goB xs i) k) := by
            rw [hq] at hi2 hi3 ⊢
            have := search_start hqn hqs hi1 hi2 hi3
            rw [hfb] at this; exact this
          refine wgo ?_
          refine Ops.e (Eff.buildSlice (cs := [.int .i64 (i' : Int)]) (e := 3) rfl (by kernel_rfl)) rfl ?_
          rintro _ w5 ⟨rfl, hn5⟩
          have hz5 := hn5.size
          refine Ops.e (Eff.appIB rfl rfl (hnv.ext hn5.ext) (by omega) (hn5.blk.cell rfl) (by omega)) rfl ?_
          rintro v6 w6 ⟨hown6, hc6, hb6⟩
          obtain ⟨p6, c6, rfl, -⟩ := own_slice hown6
          have hb6' := (hb4.chg hn5.ext (fun h => h)).chg hc6 (fun e => by have := (hnv.lt _ e).1; omega)
          have hv6 : ∀ q, (Value.slice p6 (((goB xs i).take k).map (atF fb) ++ [(i' : Int)]).length c6).ownBlock = some q → q ≠ bb := fun q hq e => by have := (hown6.lt q hq).1; omega
          refine wgo ?_
          refine Ops.e0 (Eff.storeW rfl rfl rfl rfl rfl hb6' (by simp)) ?_
          rintro _ w7 ⟨hb7, hc7, hs7⟩
          refine wgo ?_
          refine Fin.next (k + 1, .slice p6 (((goB xs i).take k).map (atF fb) ++ [(i' : Int)]).length c6) wsub ⟨by omega, hb7, ?_, ?_⟩ (by dsimp only; omega)
          · dsimp only
            rw [take_succ_ix hlt2, List.map_append, List.map_singleton, ← hfind]
            exact own_chg hown6 hc7 (fun q hq e => hv6 q hq e)
          · exact ((hc4.trans hn5.ext.any).trans' hc6 (fun q hq e => by have := (hnv.lt q e).1; omega)).trans hc7
        · obtain rfl : k = (goB xs i).length := by omega
          rw [List.take_length] at hnv hmaplen
          refine wgo ?_
          refine Ops.y (Yl.loadA (s := 4) (cs := [.int .i64 ((ix fb i).1 : Int), .int .i64 ((ix fb i).2 : Int), .slice pn ((goB xs i).map (atF fb)).length cn, .bool false]) rfl rfl rfl rfl rfl (by
            intro _ hw_; cases hw_; intro j hj
            match j, hj with
            | 0, _ => exact hb4.cell rfl
            | 1, _ => exact hb4.cell rfl
            | 2, _ => rw [List.take_length] at hb4; exact hb4.cell rfl
            | 3, _ => exact hb4.cell rfl)) rfl ?_
          refine Ops.e (Eff.buildSlice (cs := [.int .i64 ((ix fb i).1 : Int), .int .i64 ((ix fb i).2 : Int), .slice pn ((goB xs i).map (atF fb)).length cn, .bool false]) (e := 90) rfl (by kernel_rfl)) rfl ?_
          rintro _ w5 ⟨rfl, hn5⟩
          have hz5 := hn5.size
          have hxr4 : Ext wr w4 := hx1.trans hx14
          have hxr5 : Ext wr w5 := hxr4.trans hn5.ext
          have hszr := hext.size
          refine Ops.e (OwnF.appB (hown.ext hxr5) rfl rfl rfl rfl rfl (by decide) (by decide) rfl rfl (by have := hxr5.size; omega) hn5.blk rfl (by simp [Value.oneCell']) (by omega)) rfl ?_
          rintro v6 w6 ⟨hown6, hc6, hb6⟩
          have hold : ∀ k, o.ownBlock = some k → k < wr.heap.size := fun k hk => (hown.lt k hk).2
          refine wgo ?_
          refine Fin.next (i + 1, v6, nvs ++ [.slice pn ((goB xs i).map (atF fb)).length cn]) wsub ⟨by omega, by simp [hnl], hown6.congr (fun j hj => ?_), fun j hj => ?_, ?_⟩ (by dsimp only; omega)
          · by_cases e : j = i
            · subst e; rw [upd_same]; dsimp only; rw [ix_append_last hnl.symm]; rfl
            · rw [upd_other _ _ e]; dsimp only; rw [ix_append_left (by omega)]
          · dsimp only at hj ⊢
            by_cases e : j = i
            · subst e
              rw [ix_append_last hnl.symm, hnxB]
              have h1 := (hnv.ext hn5.ext).reads (by rw [List.length_map]; omega)
              refine (h1.chg hc6 (fun q hq h1 h2 => ?_)).mono (fun q hq h1 => ⟨?_, fun h2 => ?_⟩)
              · have := hold q h2; have := (hnv.lt q h1).1; omega
              · have := (hnv.lt q h1).1; have := hext1.size; omega
              · rcases hb6 with h | h
                · rw [h] at h2; have := hold q h2; have := (hnv.lt q h1).1; omega
                · rw [h] at h2; cases h2; have := (hnv.lt _ h1).2; omega
            · rw [ix_append_left (by omega)]
              have h1 := (hrows j (by omega)).mono (H := fun k => w0.heap.size ≤ k ∧ o.ownBlock ≠ some k ∧ k < wr.heap.size) (fun k hk h => ⟨h.1, h.2, hk⟩)
              refine ((h1.chg hxr5 (fun _ _ _ h => h)).chg hc6 (fun q _ h1 h2 => h1.2.1 h2)).mono (fun q _ h1 => ⟨h1.1, fun h2 => ?_⟩)
              rcases hb6 with h | h
              · rw [h] at h2; exact h1.2.1 h2
              · rw [h] at h2; cases h2; have := hxr5.size; have := h1.2.2; omega
          · exact (hext.trans hxr5).trans' hc6 (fun q hq e => by have := (hown.lt q e).1; omega)
    · rw [if_neg hi1] at hci
      refine wgo ?_
      rw [show ((xs.length : Nat) : Int) = (((ix fb i).2 : Nat) : Int) from by rw [hci]]
      refine Ops.y (Yl.loadA (s := 4) rfl rfl rfl rfl rfl (by intro _ hw_; cases hw_; exact hgA)) rfl ?_
      refine wgo ?_
      rw [hpi]
      refine Ops.call rfl rfl rfl (goer_next xs _ g2 c2 g3 c3 g4 c4 w.heap.size ((ix fb i).2 - 1) wr (hb.ext hextw) (by omega) hok (by omega) (hlab _ (by omega)) (o2.ext hext) (o3.ext hext) (o4.ext hext)) ?_
      rintro _ w1 ⟨hx1, lv, rfl, hlv, pl, ll, cl, rfl⟩
      refine ⟨_, rfl, ?_⟩
      cases hN : okN xs ((ix fb i).2 - 1) with
      | false =>
        refine wgo ?_
        exact Fin.ret2 rfl rfl rfl (.inl ⟨fun h => h.2 ((bad_iff hok).2 ⟨_, by omega, hN⟩), rfl, hextw.trans hx1⟩)
      | true =>
        have hownl := hlv hN
        rw [← hgoB] at hownl
        have hss := succ_start hok (by rw [hfb]; exact hlt) (by rw [hfb]; exact hN)
        obtain ⟨pl', cl', el, hcl, hcml, hgl⟩ := own_slice hownl
        cases el
        have hext1 : Ext w0 w1 := hext.trans hx1
        have hLlen : (goB xs i).length ≤ 1000010 := by
          have h1 : ∀ q, q < xs.length → (afterR xs q).length ≤ 1000010 := fun q hq => by
            have := hlab q hq
            unfold afterR; dsimp only
            repeat' split
            all_goals simp
            all_goals omega
          rw [hgoB]; exact h1 _ (by omega)
        refine wgo ?_
        refine Ops.y (Yl.build (v := .agg #[.int .i64 ((ix fb i).1 : Int), .int .i64 ((ix fb i).2 : Int), .slice none 0 0, .bool false]) rfl (fun _ => by kernel_rfl)) rfl ?_
        refine Ops.e (Eff.alloc rfl) rfl ?_
        rintro _ w2 ⟨rfl, hn2⟩
        refine Ops.e0 (Eff.storeB (cs := [.int .i64 ((ix fb i).1 : Int), .int .i64 ((ix fb i).2 : Int), .slice none 0 0, .bool false]) rfl rfl rfl rfl rfl (by simp [Value.oneCell']) hn2.blk rfl) ?_
        rintro _ w3 ⟨hb3, hc3, hs3⟩
        have hz2 := hn2.size
        have hx13 : Ext w1 w3 := hn2.ext.trans' hc3 (fun q hq e => by omega)
        have hext3 : Ext w0 w3 := hext1.trans hx13
        have hsz1 := hx1.size
        generalize hbb : w1.heap.size = bb at *
        refine wgo ?_
        refine Cd.loop (σ := Nat × Value) (fun s => [(0, .slice p xs.length cap), (6, .pointer (some ⟨gb, 0, none⟩)), (7, .slice (some ⟨sg, 0, none⟩) (startsR xs).length sc), (8, o), (14, .pointer (some ⟨bb, 0, none⟩)), (42, .slice (some ⟨sg, 0, none⟩) (startsR xs).length sc), (43, .int .i64 (startsR xs).length), (44, .int .i64 i), (73, .slice pl (goB xs i).length cl), (74, .int .i64 (goB xs i).length), (75, .int .i64 s.1)])
          (fun s w4 => s.1 ≤ (goB xs i).length ∧ Blk w4 bb [.int .i64 ((ix fb i).1 : Int), .int .i64 ((ix fb i).2 : Int), s.2, .bool false] 90 ∧ OwnI w3.heap.size w4 s.2 (((goB xs i).take s.1).map (atF fb)) ∧ Chg (fun k => k = bb) w3 w4)
          (fun s => (goB xs i).length - s.1) (0, .slice none 0 0) wsub ⟨Nat.zero_le _, hb3, OwnI.nil _ _, Chg.refl _ _⟩ ?_
        rintro ⟨k, nv⟩ w4 ⟨hk, hb4, hnv, hc4⟩
        dsimp only at hk hb4 hnv hc4 ⊢
        obtain ⟨pn, cn, rfl, hcn, hcmn, hgn⟩ := own_slice hnv
        have hmaplen : (((goB xs i).take k).map (atF fb)).length = k := by simp; omega
        have hsz4 := hc4.size
        have hext4 : Ext w0 w4 := hext3.trans' hc4 (fun q hq e => by have := hext1.size; omega)
        have hx14 : Ext w1 w4 := hx13.trans' hc4 (fun q hq e => by omega)
        by_cases hlt2 : k < (goB xs i).length
        · obtain ⟨gl, rfl, hgl1, hgl2⟩ := hgl (by omega)
          have hLk := (hownl.ext hx14).get (i := k) hlt2
          obtain ⟨q, hq, hqn, hqs⟩ := hss (ix (goB xs i) k) (by rw [ix_eq hlt2]; exact List.getElem_mem _)
          have hsr : IntsR (fun _ => True) w4 (.slice (some ⟨sg, 0, none⟩) (startsR xs).length sc) (startsR xs) := ((os.ext hext4).reads (by omega)).mono (fun _ _ _ => trivial)
          have hnc : w4.cell? ⟨bb, 0 + 2, none⟩ = _ := hb4.cell (j := 2) rfl
          refine wgo ?_
          refine Ops.call rfl rfl rfl (slices_BinarySearch (startsR xs) _ (ix (goB xs i) k) w4 hsr hsorted) ?_
          rintro _ _ ⟨i', b', rfl, hi1, hi2, hi3, rfl⟩
          refine ⟨_, rfl, ?_⟩
          have hfind : (i' : Int) = atF fb (ix (goB xs i) k) := by
            rw [hq] at hi2 hi3 ⊢
            have := search_start hqn hqs hi1 hi2 hi3
            rw [hfb] at this; exact this
          refine wgo ?_
          refine Ops.e (Eff.buildSlice (cs := [.int .i64 (i' : Int)]) (e := 3) rfl (by kernel_rfl)) rfl ?_
          rintro _ w5 ⟨rfl, hn5⟩
          have hz5 := hn5.size
          refine Ops.e (Eff.appIB rfl rfl (hnv.ext hn5.ext) (by omega) (hn5.blk.cell rfl) (by omega)) rfl ?_
          rintro v6 w6 ⟨hown6, hc6, hb6⟩
          obtain ⟨p6, c6, rfl, -⟩ := own_slice hown6
          have hb6' := (hb4.chg hn5.ext (fun h => h)).chg hc6 (fun e => by have := (hnv.lt _ e).1; omega)
          have hv6 : ∀ q, (Value.slice p6 (((goB xs i).take k).map (atF fb) ++ [(i' : Int)]).length c6).ownBlock = some q → q ≠ bb := fun q hq e => by have := (hown6.lt q hq).1; omega
          refine wgo ?_
          refine Ops.e0 (Eff.storeW rfl rfl rfl rfl rfl hb6' (by simp)) ?_
          rintro _ w7 ⟨hb7, hc7, hs7⟩
          refine wgo ?_
          refine Fin.next (k + 1, .slice p6 (((goB xs i).take k).map (atF fb) ++ [(i' : Int)]).length c6) wsub ⟨by omega, hb7, ?_, ?_⟩ (by dsimp only; omega)
          · dsimp only
            rw [take_succ_ix hlt2, List.map_append, List.map_singleton, ← hfind]
            exact own_chg hown6 hc7 (fun q hq e => hv6 q hq e)
          · exact ((hc4.trans hn5.ext.any).trans' hc6 (fun q hq e => by have := (hnv.lt q e).1; omega)).trans hc7
        · obtain rfl : k = (goB xs i).length := by omega
          rw [List.take_length] at hnv hmaplen
          refine wgo ?_
          refine Ops.y (Yl.loadA (s := 4) (cs := [.int .i64 ((ix fb i).1 : Int), .int .i64 ((ix fb i).2 : Int), .slice pn ((goB xs i).map (atF fb)).length cn, .bool false]) rfl rfl rfl rfl rfl (by
            intro _ hw_; cases hw_; intro j hj
            match j, hj with
            | 0, _ => exact hb4.cell rfl
            | 1, _ => exact hb4.cell rfl
            | 2, _ => rw [List.take_length] at hb4; exact hb4.cell rfl
            | 3, _ => exact hb4.cell rfl)) rfl ?_
          refine Ops.e (Eff.buildSlice (cs := [.int .i64 ((ix fb i).1 : Int), .int .i64 ((ix fb i).2 : Int), .slice pn ((goB xs i).map (atF fb)).length cn, .bool false]) (e := 90) rfl (by kernel_rfl)) rfl ?_
          rintro _ w5 ⟨rfl, hn5⟩
          have hz5 := hn5.size
          have hxr4 : Ext wr w4 := hx1.trans hx14
          have hxr5 : Ext wr w5 := hxr4.trans hn5.ext
          have hszr := hext.size
          refine Ops.e (OwnF.appB (hown.ext hxr5) rfl rfl rfl rfl rfl (by decide) (by decide) rfl rfl (by have := hxr5.size; omega) hn5.blk rfl (by simp [Value.oneCell']) (by omega)) rfl ?_
          rintro v6 w6 ⟨hown6, hc6, hb6⟩
          have hold : ∀ k, o.ownBlock = some k → k < wr.heap.size := fun k hk => (hown.lt k hk).2
          refine wgo ?_
          refine Fin.next (i + 1, v6, nvs ++ [.slice pn ((goB xs i).map (atF fb)).length cn]) wsub ⟨by omega, by simp [hnl], hown6.congr (fun j hj => ?_), fun j hj => ?_, ?_⟩ (by dsimp only; omega)
          · by_cases e : j = i
            · subst e; rw [upd_same]; dsimp only; rw [ix_append_last hnl.symm]; rfl
            · rw [upd_other _ _ e]; dsimp only; rw [ix_append_left (by omega)]
          · dsimp only at hj ⊢
            by_cases e : j = i
            · subst e
              rw [ix_append_last hnl.symm, hnxB]
              have h1 := (hnv.ext hn5.ext).reads (by rw [List.length_map]; omega)
              refine (h1.chg hc6 (fun q hq h1 h2 => ?_)).mono (fun q hq h1 => ⟨?_, fun h2 => ?_⟩)
              · have := hold q h2; have := (hnv.lt q h1).1; omega
              · have := (hnv.lt q h1).1; have := hext1.size; omega
              · rcases hb6 with h | h
                · rw [h] at h2; have := hold q h2; have := (hnv.lt q h1).1; omega
                · rw [h] at h2; cases h2; have := (hnv.lt _ h1).2; omega
            · rw [ix_append_left (by omega)]
              have h1 := (hrows j (by omega)).mono (H := fun k => w0.heap.size ≤ k ∧ o.ownBlock ≠ some k ∧ k < wr.heap.size) (fun k hk h => ⟨h.1, h.2, hk⟩)
              refine ((h1.chg hxr5 (fun _ _ _ h => h)).chg hc6 (fun q _ h1 h2 => h1.2.1 h2)).mono (fun q _ h1 => ⟨h1.1, fun h2 => ?_⟩)
              rcases hb6 with h | h
              · rw [h] at h2; exact h1.2.1 h2
              · rw [h] at h2; cases h2; have := hxr5.size; have := h1.2.2; omega
          · exact (hext.trans hxr5).trans' hc6 (fun q hq e => by have := (hown.lt q e).1; omega)
  · obtain rfl : i = fb.length := by omega
    refine wgo ?_
    refine Cd.loop (σ := Nat) (fun s => [(0, .slice p xs.length cap), (6, .pointer (some ⟨gb, 0, none⟩)), (8, o), (98, .int .i64 xs.length), (99, .int .i64 s)])
      (fun s w1 => s ≤ xs.length ∧ (∀ j, j < s → okN xs j = true) ∧ Ext wr w1) (fun s => xs.length - s) 0 wsub ⟨Nat.zero_le _, fun j hj => by omega, Chg.refl _ _⟩ ?_
    rintro s w1 ⟨hs, hokN, hx1⟩
    have hextw1 : Ext w w1 := hextw.trans hx1
    have hext1 : Ext w0 w1 := hext.trans hx1
    by_cases hls : s < xs.length
    · have hb1 : Body w1 _ xs := hb.ext hextw1
      obtain ⟨b, off, rfl, -, hI⟩ := hb1.at hls
      obtain ⟨pt, ct, pl, cl, hti, hli, hcells⟩ := (hI s hls).cells
      refine wgo ?_
      refine Ops.y (Yl.loadA (s := 9) rfl rfl rfl rfl rfl (by intro _ hw_; cases hw_; exact hcells)) rfl ?_
      refine Ops.e (Eff.alloc rfl) rfl ?_
      rintro _ w2 ⟨rfl, hn2⟩
      refine Ops.e0 (Eff.storeB rfl rfl rfl rfl rfl (by simp [insC, Value.oneCell']) hn2.blk rfl) ?_
      rintro _ w3 ⟨hb3, hc3, hs3⟩
      have hx3 : Ext w1 w3 := hn2.ext.trans' hc3 (fun q hq e => by omega)
      generalize hxb : w1.heap.size = xb at *
      have hop : w3.cell? ⟨xb, 0, none⟩ = some (.int .i64 (ix xs s).op) := hb3.cell rfl
      have hbr3 := (hbr.chg hx1 (fun h => h)).chg hx3 (fun h => h)
      have hgA3 : ∀ j, j < 4 → w3.cell? ⟨gb, 0 + j, none⟩ = [Value.slice (some ⟨b, off, none⟩) xs.length cap, .slice (some ⟨g2, 0, none⟩) xs.length c2, .slice (some ⟨g3, 0, none⟩) xs.length c3, .slice (some ⟨g4, 0, none⟩) xs.length c4][j]? := by
        intro j hj
        match j, hj with
        | 0, _ => exact hbr3.cell rfl
        | 1, _ => exact hbr3.cell rfl
        | 2, _ => exact hbr3.cell rfl
        | 3, _ => exact hbr3.cell rfl
      have hnext : okN xs s = true → ∀ j, j < s + 1 → okN xs j = true := fun h j hj => by
        by_cases e : j = s
        · subst e; exact h
        · exact hokN j (by omega)
      have hext3 : Ext w0 w3 := hext1.trans hx3
      rcases (show (ix xs s).op = 12 ∨ (ix xs s).op = 13 ∨ (ix xs s).op = 14 ∨ ((ix xs s).op ≠ 12 ∧ (ix xs s).op ≠ 13 ∧ (ix xs s).op ≠ 14) from by omega) with h | h | h | h
      · refine wgo ?_
        refine Ops.y (Yl.loadA (s := 4) rfl rfl rfl rfl rfl (by intro _ hw_; cases hw_; exact hgA3)) rfl ?_
        refine wgo ?_
        refine Ops.call rfl rfl rfl (goer_next xs _ g2 c2 g3 c3 g4 c4 w.heap.size s w3 (hb.ext (hextw1.trans hx3)) (by omega) hok hls (hlab _ hls) (o2.ext hext3) (o3.ext hext3) (o4.ext hext3)) ?_
        rintro _ w4 ⟨hx4, lv, rfl, -, pl', ll, cl', rfl⟩
        refine ⟨_, rfl, ?_⟩
        cases hN : okN xs s with
        | false =>
          refine wgo ?_
          exact Fin.ret2 rfl rfl rfl (.inl ⟨fun h => h.2 ((bad_iff hok).2 ⟨s, hls, hN⟩), rfl, (hextw1.trans hx3).trans hx4⟩)
        | true =>
          refine wgo ?_
          exact Fin.next (s + 1) wsub ⟨by omega, hnext hN, (hx1.trans hx3).trans hx4⟩ (by omega)
      · refine wgo ?_
        refine Ops.y (Yl.loadA (s := 4) rfl rfl rfl rfl rfl (by intro _ hw_; cases hw_; exact hgA3)) rfl ?_
        refine wgo ?_
        refine Ops.call rfl rfl rfl (goer_next xs _ g2 c2 g3 c3 g4 c4 w.heap.size s w3 (hb.ext (hextw1.trans hx3)) (by omega) hok hls (hlab _ hls) (o2.ext hext3) (o3.ext hext3) (o4.ext hext3)) ?_
        rintro _ w4 ⟨hx4, lv, rfl, -, pl', ll, cl', rfl⟩
        refine ⟨_, rfl, ?_⟩
        cases hN : okN xs s with
        | false =>
          refine wgo ?_
          exact Fin.ret2 rfl rfl rfl (.inl ⟨fun h => h.2 ((bad_iff hok).2 ⟨s, hls, hN⟩), rfl, (hextw1.trans hx3).trans hx4⟩)
        | true =>
          refine wgo ?_
          exact Fin.next (s + 1) wsub ⟨by omega, hnext hN, (hx1.trans hx3).trans hx4⟩ (by omega)
      · refine wgo ?_
        refine Ops.y (Yl.loadA (s := 4) rfl rfl rfl rfl rfl (by intro _ hw_; cases hw_; exact hgA3)) rfl ?_
        refine wgo ?_
        refine Ops.call rfl rfl rfl (goer_next xs _ g2 c2 g3 c3 g4 c4 w.heap.size s w3 (hb.ext (hextw1.trans hx3)) (by omega) hok hls (hlab _ hls) (o2.ext hext3) (o3.ext hext3) (o4.ext hext3)) ?_
        rintro _ w4 ⟨hx4, lv, rfl, -, pl', ll, cl', rfl⟩
        refine ⟨_, rfl, ?_⟩
        cases hN : okN xs s with
        | false =>
          refine wgo ?_
          exact Fin.ret2 rfl rfl rfl (.inl ⟨fun h => h.2 ((bad_iff hok).2 ⟨s, hls, hN⟩), rfl, (hextw1.trans hx3).trans hx4⟩)
        | true =>
          refine wgo ?_
          exact Fin.next (s + 1) wsub ⟨by omega, hnext hN, (hx1.trans hx3).trans hx4⟩ (by omega)
      · refine wgo ?_
        exact Fin.next (s + 1) wsub ⟨by omega, hnext (okN_other (by omega)), hx1.trans hx3⟩ (by omega)
    · obtain rfl : s = xs.length := by omega
      have hnb : ¬ badB xs := fun h => by
        obtain ⟨q, hq, hN⟩ := (bad_iff hok).1 h
        rw [hokN q hq] at hN; cases hN
      obtain ⟨po, co, rfl, hco, hcmo, hgo0⟩ := hown.slice
      have hgo : 0 < fb.length → ∃ g, po = some ⟨g, 0, none⟩ := fun h => (hgo0 h).imp fun _ h => h.1
      replace hown := hown.ext hx1
      have hrows1 : ∀ j, j < fb.length → IntsR (fun k => w0.heap.size ≤ k ∧ (Value.slice po fb.length co).ownBlock ≠ some k) w1 (ix nvs j) (nextB xs j) := fun j hj => (hrows j hj).chg hx1 (fun _ _ _ h => h)
      have hsz0 := hw0.size
      have hmT : BlocksN (fun _ => True) w1 (.slice po fb.length co) (mkB fb (nextB xs) (fun _ => false)) nvs := by
        refine hown.blocks (by rw [mkB_len]) (by omega) (by rw [mkB_len]; exact hnl) (fun j hj => by rw [mkB_ix hj]; rfl) (fun j hj => ?_) (fun _ _ => trivial)
        rw [mkB_ix hj]
        exact (hrows1 j hj).mono (fun _ _ _ => trivial)
      have hnxl : ∀ j, j < (mkB fb (nextB xs) (fun _ => false)).length → (ix (mkB fb (nextB xs) (fun _ => false)) j).next.length ≤ 1000000000 := fun j hj => by
        rw [mkB_len] at hj
        rw [mkB_ix hj]
        show (nextB xs j).length ≤ _
        have hr := hrng j hj
        have h2 : ∀ q, q < xs.length → (afterR xs q).length ≤ 1000010 := fun q hq => by
          have := hlab q hq
          unfold afterR; dsimp only
          repeat' split
          all_goals simp
          all_goals omega
        have := h2 ((ix fb j).2 - 1) (by omega)
        rw [hnxB, List.length_map, hgoB]; omega
      refine wgo ?_
      refine Ops.call rfl rfl rfl (cfg_Order _ _ _ w1 hmT hnxl (by rw [mkB_len]; omega)) ?_
      rintro _ w2 ⟨ov, rfl, howno, hx2⟩
      refine ⟨_, rfl, ?_⟩
      have hfl2 : fb.length ≤ 1000000 := by omega
      generalize hO : orderR (mkB fb (nextB xs) (fun _ => false)) = O at *
      have hOin : ∀ a ∈ O, 0 ≤ a ∧ a < fb.length := by
        intro a ha
        rw [← hO] at ha
        exact orderR_rng (by rw [mkB_len] : (mkB fb (nextB xs) (fun _ => false)).length = fb.length) ha
      obtain ⟨pq, cq, rfl, hcq, hcmq, hgq⟩ := own_slice howno
      have hOl : O.length ≤ 2000000 := by rw [← hO]; exact orderR_len (by rw [mkB_len]; exact hfl2)
      have hown2' := hown.ext hx2
      have hOr : IntsR (fun k => w1.heap.size ≤ k) w2 (.slice pq O.length cq) O := howno.reads' (by omega)
      refine wgo ?_
      refine Cd.loop (σ := Nat) (fun s => [(8, .slice po fb.length co), (129, .slice pq O.length cq), (130, .int .i64 O.length), (131, .int .i64 s)])
        (fun s w3 => s ≤ O.length ∧ OwnF w0.heap.size 90 4 w3 (.slice po fb.length co) fb.length (fun j => [.int .i64 (ix fb j).1, .int .i64 (ix fb j).2, ix nvs j, .bool ((O.take s).contains (j : Int))]) ∧ Chg (fun k => (Value.slice po fb.length co).ownBlock = some k) w2 w3)
        (fun s => O.length - s) 0 wsub ⟨Nat.zero_le _, hown2'.congr (fun j hj => by simp [c0]), Chg.refl _ _⟩ ?_
      rintro s w3 ⟨hs3, hown3, hc3⟩
      have hO2 := hOr.chg hc3 (fun q _ h e => by have := (hown.lt q e).2; omega)
      by_cases hlt3 : s < O.length
      · obtain ⟨bo, oo, rfl, hFo, hOc⟩ := hO2.at hlt3
        have hOs := hOc s hlt3
        have hin := hOin (ix O s) (by rw [ix_eq hlt3]; exact List.getElem_mem _)
        obtain ⟨ob, rfl⟩ := hgo (by omega)
        have htk := take_succ_ix hlt3
        generalize ix O s = a at *
        obtain ⟨q, rfl⟩ := Int.eq_ofNat_of_zero_le hin.1
        have hq : q < fb.length := by omega
        refine wgo ?_
        refine Ops.e0 (Eff.store rfl rfl rfl rfl rfl (hown3.cell (i := q) (j := 3) hq rfl) (hown3.free _)) ?_
        rintro _ w6 rfl
        obtain ⟨hs1, hs2⟩ := hown3.set (i := q) (j := 3) hq (by omega) (.bool true)
        refine wgo ?_
        refine Fin.next (s + 1) wsub ⟨by omega, hs1.congr (fun j hj => ?_), hc3.trans (hs2.mono (fun k _ e => by subst e; rfl))⟩ (by omega)
        by_cases e : j = q
        · subst e; rw [upd_same, htk]; simp
        · rw [upd_other _ _ e, htk]
          have : ((O.take s ++ [(q : Int)]).contains (j : Int)) = (O.take s).contains (j : Int) := by
            rw [List.contains_append]
            have : ([(q : Int)].contains (j : Int)) = false := by simp; omega
            rw [this, Bool.or_false]
          rw [this]
      · obtain rfl : s = O.length := by omega
        rw [List.take_length] at hown3
        refine wgo ?_
        refine Fin.ret2 rfl rfl rfl (.inr ⟨⟨rfl, hnb⟩, _, nvs, rfl, ?_, ?_⟩)
        · rw [hblk]
          refine hown3.blocks (by rw [mkB_len]) (by omega) (by rw [mkB_len]; exact hnl) (fun j hj => by rw [mkB_ix hj]; rfl) (fun j hj => ?_) (fun q hq => by have := (hown3.lt q hq).1; omega)
          rw [mkB_ix hj]
          have h1 := hrows1 j hj
          exact ((h1.chg hx2 (fun _ _ _ h => h)).chg hc3 (fun q _ h e => h.2 e)).mono (fun q _ h => by have := h.1; omega)
        · exact (hextw1.trans hx2).trans' hc3 (fun q hq e => by have := (hown.lt q e).1; omega)
end Go.Proofs.YtmkgfccfnpmcjaaDoor
