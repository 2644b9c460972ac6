/- Walk of nest.look. -/
import Derived.Test.YtmkgfccfnpmcjaaDoorJN1
namespace Go.Proofs.YtmkgfccfnpmcjaaDoor
open Go.RowKit

theorem opC_open {xs : List Ins} {i : Nat} (h : opensB (ix xs i).op = true) (j : Nat) (hj : j < (roundR xs i).length + 1) : upd (opC xs i) (roundR xs i).length [.int .i64 (i : Int), .bool false] j = opC xs (i + 1) j := by
  have h5 : (ix xs i).op ≠ 5 := by simp [opensB] at h; omega
  unfold opC
  rw [round_open h]
  by_cases e : j = (roundR xs i).length
  · subst e
    rw [upd_same, ix_append_last rfl, hadOf_new]
  · rw [upd_other _ _ e, ix_append_left (by omega), hadOf_other h5]
theorem opC_plain {xs : List Ins} {i : Nat} (h : opensB (ix xs i).op = false) (h11 : (ix xs i).op ≠ 11) (h5 : (ix xs i).op ≠ 5) (j : Nat) : opC xs i j = opC xs (i + 1) j := by
  unfold opC
  rw [round_plain h h11, hadOf_other h5]
theorem opC_else {xs : List Ins} {i h : Nat} (h5 : (ix xs i).op = 5) (hz : 0 < (roundR xs i).length) (hl : lastI (roundR xs i) = h) (hi : h < i) (j : Nat) (hj : j < (roundR xs i).length) :
    upd (opC xs i) ((roundR xs i).length - 1) ((opC xs i ((roundR xs i).length - 1)).set 1 (.bool true)) j = opC xs (i + 1) j := by
  have hr : roundR xs (i + 1) = roundR xs i := round_plain (by rw [h5]; rfl) (by omega)
  have hl' : ix (roundR xs i) ((roundR xs i).length - 1) = h := hl
  unfold opC
  rw [hr]
  by_cases e : j = (roundR xs i).length - 1
  · subst e
    rw [upd_same, hl', hadOf_last h5 hz hl hi]; rfl
  · rw [upd_other _ _ e, hadOf_not_last (fun e2 => e (round_inj hj (by omega) e2.symm))]
theorem ix_dropLast {α : Type} [Inhabited α] {l : List α} {j : Nat} (h : j < l.length - 1) : ix l.dropLast j = ix l j := by
  rw [ix_eq (by simpa using h), ix_eq (by omega), List.getElem_dropLast]
theorem opC_end {xs : List Ins} {i : Nat} (h11 : (ix xs i).op = 11) (hz : 0 < (roundR xs i).length) (j : Nat) (hj : j < (roundR xs i).length - 1) : opC xs i j = opC xs (i + 1) j := by
  unfold opC
  rw [round_end h11 hz, hadOf_other (by omega), ix_dropLast hj]

set_option maxRecDepth 100000 in
set_option maxHeartbeats 4000000 in
theorem nest_look (xs : List Ins) (v : Value) (w : World) (hb : Body w v xs) (hsm : xs.length ≤ 1000000000) :
    Calls G.P 34 #[v] w (LookPost w xs) := by
  obtain ⟨p, cap, rfl, hl⟩ := hb.slice
  refine enter (G := G) Tryd.func34 rfl Tryd.ntmps34 rfl ?_
  refine wgow ?_
  refine Ops.e (Eff.alloc rfl) rfl ?_
  rintro _ wa ⟨rfl, hna⟩
  refine wgow ?_
  refine Ops.call rfl rfl rfl (nest_none xs.length wa (by omega)) ?_
  rintro _ w1 ⟨rfl, ho1, hx1, hz1⟩
  refine ⟨_, rfl, ?_⟩
  refine wgow ?_
  refine Ops.call rfl rfl rfl (nest_none xs.length w1 (by omega)) ?_
  rintro _ w2 ⟨rfl, ho2, hx2, hz2⟩
  refine ⟨_, rfl, ?_⟩
  refine wgow ?_
  refine Ops.call rfl rfl rfl (nest_none xs.length w2 (by omega)) ?_
  rintro _ w3 ⟨rfl, ho3, hx3, hz3⟩
  refine ⟨_, rfl, ?_⟩
  refine wgow ?_
  refine Ops.call rfl rfl rfl (nest_none xs.length w3 (by omega)) ?_
  rintro _ w4 ⟨rfl, ho4, hx4, hz4⟩
  refine ⟨_, rfl, ?_⟩
  refine Ops.y (Yl.build (v := .agg #[sl wa.heap.size xs.length, sl w1.heap.size xs.length, sl w2.heap.size xs.length, sl w3.heap.size xs.length]) rfl (fun _ => by kernel_rfl)) rfl ?_
  refine Ops.e (Eff.alloc rfl) rfl ?_
  rintro _ w5 ⟨rfl, hn5⟩
  refine Ops.e0 (Eff.storeB rfl rfl rfl rfl rfl (by simp [Value.oneCell']) hn5.blk rfl) ?_
  rintro _ w6 ⟨hb6, hc6, hs6⟩
  refine wgow ?_
  refine Ops.y (Yl.build (v := .agg #[.int .i64 (-1), .bool false]) rfl (fun _ => by kernel_rfl)) rfl ?_
  refine Ops.e (Eff.buildSlice (cs := [.int .i64 (-1), .bool false]) (e := 150) rfl (by kernel_rfl)) rfl ?_
  rintro _ w7 ⟨rfl, hn7⟩
  have hxa : Ext w wa := hna.ext
  have hza := hna.size
  have hz5 := hn5.size
  have hz7 := hn7.size
  have h67 : Chg (fun k => k = w4.heap.size) w4 w7 := (hn5.ext.any.trans hc6).trans hn7.ext.any
  have hLS : LS w w7 w.heap.size wa.heap.size w1.heap.size w2.heap.size w3.heap.size w4.heap.size xs.length (endsTo xs 0) (elsesTo xs 0) (depthsTo xs 0) (headsTo xs 0) (.slice (some ⟨w6.heap.size, 0, none⟩) 1 1) 1 (opC xs 0) := by
    have e17 : Chg (fun k => k = w4.heap.size) w1 w7 := (show Ext w1 w4 from (hx2.trans hx3).trans hx4).any.trans h67
    have e27 : Chg (fun k => k = w4.heap.size) w2 w7 := (show Ext w2 w4 from hx3.trans hx4).any.trans h67
    have e37 : Chg (fun k => k = w4.heap.size) w3 w7 := hx4.any.trans h67
    have key : ∀ e, e < w4.heap.size → ∀ k, (sl e xs.length).ownBlock = some k → ¬ k = w4.heap.size := fun e he k hk hs => by
      have e2 : e = k := Option.some.inj hk
      omega
    refine ⟨(((((hxa.trans hx1).trans hx2).trans hx3).trans hx4)).trans' h67 (fun q hq e => by omega), ⟨Nat.le_refl _, by omega, by omega, by omega, by omega, by omega, by omega⟩, ?_, hb6.chg hn7.ext (fun h => h), ?_, ?_, ?_, ?_, ?_, ?_⟩
    · exact (hna.blk.chg hx1 (fun h => h)).chg e17 (fun e => by omega)
    · exact own_base (own_chg ho1 e17 (key _ (by omega))) (fun k hk => by have e2 : wa.heap.size = k := Option.some.inj hk; omega)
    · exact own_base (own_chg ho2 e27 (key _ (by omega))) (fun k hk => by have e2 : w1.heap.size = k := Option.some.inj hk; omega)
    · exact own_base (own_chg ho3 e37 (key _ (by omega))) (fun k hk => by have e2 : w2.heap.size = k := Option.some.inj hk; omega)
    · exact own_base (own_chg ho4 h67 (key _ (by omega))) (fun k hk => by have e2 : w3.heap.size = k := Option.some.inj hk; omega)
    · refine (OwnF.ofNew hn7 (by omega)).congr (fun i hi => ?_)
      obtain rfl : i = 0 := by omega
      rfl
    · intro k hk
      have e2 : w6.heap.size = k := Option.some.inj hk
      omega
  clear h67 hn7 hn5 hb6 hc6 hna hxa ho1 ho2 ho3 ho4 hx1 hx2 hx3 hx4 hza hz1 hz2 hz3 hz4 hz5 hz7
  generalize w.heap.size = rb at hLS ⊢
  generalize wa.heap.size = e1 at hLS ⊢
  generalize w1.heap.size = e2 at hLS ⊢
  generalize w2.heap.size = e3 at hLS ⊢
  generalize w3.heap.size = e4 at hLS ⊢
  generalize w4.heap.size = sb at hLS ⊢
  refine wgow ?_
  refine Cd.loop (σ := Nat × Value) (fun s => [(0, .slice p xs.length cap), (2, .pointer (some ⟨rb, 0, none⟩)), (5, .int .i64 xs.length), (6, .pointer (some ⟨sb, 0, none⟩)), (7, s.2), (24, .slice p xs.length cap), (25, .int .i64 xs.length), (26, .int .i64 s.1)])
    (fun s wr => s.1 ≤ xs.length ∧ checkR xs = checkFrom xs (xs.length - s.1) s.1 ∧ (∀ j, j < s.1 → checkAt xs j = none) ∧ LS w wr rb e1 e2 e3 e4 sb xs.length (endsTo xs s.1) (elsesTo xs s.1) (depthsTo xs s.1) (headsTo xs s.1) s.2 (roundR xs s.1).length (opC xs s.1)) (fun s => xs.length - s.1) (0, _) wsub ⟨Nat.zero_le _, rfl, fun j hj => by omega, hLS⟩ ?_
  rintro ⟨i, ov⟩ wr ⟨hi, hn, hall, hls⟩
  dsimp only at hi hn hall hls ⊢
  have hord := hls.ord
  have hlen := roundR_len xs i
  by_cases hlt : i < xs.length
  · rw [show xs.length - i = (xs.length - (i + 1)) + 1 by omega, checkFrom] at hn
    obtain ⟨b, off, rfl, -, hI0⟩ := hb.at hlt
    have hbr : Body wr _ xs := hb.ext hls.ext
    obtain ⟨b', off', hbb, -, hI⟩ := hbr.at hlt
    cases hbb
    obtain ⟨pt, ct, pl, cl, hti, hli, hcells⟩ := (hI i hlt).cells
    refine wgow ?_
    refine Ops.y (Yl.loadA (s := 9) rfl rfl rfl rfl rfl (by intro _ hw_; cases hw_; exact hcells)) rfl ?_
    refine Ops.e (Eff.alloc rfl) rfl ?_
    rintro _ wx ⟨rfl, hnx⟩
    refine wgow ?_
    refine Ops.e0 (Eff.storeB rfl rfl rfl rfl rfl (by simp [insC, Value.oneCell']) hnx.blk rfl) ?_
    rintro _ wy ⟨hby, hcy, hsy⟩
    have hxo : ov.ownBlock ≠ some wr.heap.size := fun e => by have := hls.op.lt _ e; omega
    have hxb : sb < wr.heap.size := by omega
    have hlsy := (hls.chg hnx.ext (fun _ h => h.elim)).chg hcy (fun k hk => by subst hk; exact ⟨hxb, hxo⟩)
    have hordy := hlsy.ord
    clear hcells hcy hnx hti hli hls
    generalize hxbe : wr.heap.size = xb at *
    obtain ⟨po, co, rfl, hco, hcm, hg⟩ := hlsy.op.slice
    by_cases hz : 0 < (roundR xs i).length
    · obtain ⟨g, rfl, hg1, hg2⟩ := hg hz
      have hsg : sb < g := hlsy.ob g rfl
      have hgx : g ≠ xb := fun e => hxo (by rw [e]; rfl)
      have hlast := lastR hz
      have hd3 : wy.cell? ⟨sb, 0 + 2, none⟩ = some (sl e3 xs.length) := hlsy.sh.cell rfl
      refine wgow ?_
      refine Ops.y (Yl.idx rfl rfl rfl rfl rfl (i := (roundR xs i).length - 1) (by omega) (by omega)) rfl ?_
      refine wgow ?_
      refine Ops.e0 (Eff.store rfl rfl rfl rfl rfl (hlsy.o3.get (by rw [depthsTo_len]; exact hlt)) (hlsy.o3.free _)) ?_
      rintro _ wz hwz
      have hls3 : LS w wz rb e1 e2 e3 e4 sb xs.length (endsTo xs i) (elsesTo xs i) (depthsTo xs (i + 1)) (headsTo xs i) (.slice (some ⟨g, 0, none⟩) (roundR xs i).length co) (roundR xs i).length (opC xs i) := by rw [hwz]; exact hlsy.set3 i _
      have hbz := hby.chg (hlsy.o3.set i ((roundR xs i).length : Int)).2 (fun e => by omega)
      rw [← hwz] at hbz
      clear hwz hlsy hby
      have hd4 : wz.cell? ⟨sb, 0 + 3, none⟩ = some (sl e4 xs.length) := hls3.sh.cell rfl
      have hat : wz.cell? ⟨g, 0 + ((roundR xs i).length - 1) * 2, none⟩ = some (.int .i64 (lastI (roundR xs i))) := hls3.op.cell (j := 0) (by omega) rfl
      refine wgow ?_
      refine Cd.regionT 8 (by kernel_rfl) ?_
      refine wgow ?_
      have hls3d := hls3.chg (w' := wz.drew) (S := fun _ => False) (Chg.refl _ _).drew (fun _ h => h.elim)
      refine Ops.e0 (Eff.store rfl rfl rfl rfl rfl (hls3d.o4.get (by rw [headsTo_len]; exact hlt)) (hls3d.o4.free _)) ?_
      rintro _ w4 hw4
      have hls4 : LS w w4 rb e1 e2 e3 e4 sb xs.length (endsTo xs i) (elsesTo xs i) (depthsTo xs (i + 1)) (headsTo xs (i + 1)) (.slice (some ⟨g, 0, none⟩) (roundR xs i).length co) (roundR xs i).length (opC xs i) := by rw [hw4]; exact hls3d.set4 i _
      have hb4 := (hbz.chg (S := fun _ => False) (w' := wz.drew) (Chg.refl _ _).drew (fun h => h)).chg (hls3d.o4.set i (lastI (roundR xs i))).2 (fun e => by omega)
      rw [← hw4] at hb4
      clear hw4 hls3d hls3 hbz hat hd4 hd3
      have hop : w4.cell? ⟨xb, 0, none⟩ = some (.int .i64 (ix xs i).op) := hb4.cell rfl
      have hat : w4.cell? ⟨g, 0 + ((roundR xs i).length - 1) * 2, none⟩ = some (.int .i64 (lastI (roundR xs i))) := hls4.op.cell (j := 0) (by omega) rfl
      have hhad : w4.cell? ⟨g, 0 + ((roundR xs i).length - 1) * 2 + 1, none⟩ = some (.bool (hadOf xs (lastI (roundR xs i)) i)) := hls4.op.cell (j := 1) (by omega) rfl
      have hz' : (roundR xs i).length ≠ 0 := by omega
      have hck : checkAt xs i = if (ix xs i).op = 5 ∧ (lastI (roundR xs i) < 0 ∨ (ix xs (lastI (roundR xs i)).toNat).op ≠ 4 ∨ elsedR xs (lastI (roundR xs i)).toNat i = true) then some ((i : Int), 16)
          else if opensB (ix xs i).op = true ∧ 32 ≤ (roundR xs i).length then some ((i : Int), 6) else none := by
        unfold checkAt; dsimp only; rw [if_neg hz']
      have h32 := round_32 i hall
      have hr4 := hls4.ext
      have hallS : checkAt xs i = none → ∀ j, j < i + 1 → checkAt xs j = none := fun hc j hj => by
        by_cases e : j = i
        · subst e; exact hc
        · exact hall j (by omega)
      refine wgow ?_
      by_cases h5 : (ix xs i).op = 5
      · have ho : opensB (ix xs i).op = false := by rw [h5]; rfl
        by_cases hneg : lastI (roundR xs i) < 0
        · rw [if_pos ⟨h5, .inl hneg⟩] at hck
          refine wgow ?_
          refine Ops.y (Yl.build (v := .agg #[.slice none 0 0, .slice none 0 0, .slice none 0 0, .slice none 0 0]) rfl (fun _ => by kernel_rfl)) rfl ?_
          refine wgow ?_
          refine Ops.e0 (Eff.storeB rfl rfl rfl rfl rfl (by simp [Value.oneCell']) hls4.res rfl) ?_
          rintro _ w9 ⟨hb9, hc9, hs9⟩
          refine wgow ?_
          rw [hck] at hn
          refine Fin.ret3c rfl rfl rfl rfl rfl hb9 rfl rfl rfl ⟨hls4.ext.trans' hc9 (fun q hq e => by have := hls4.ord; omega), .inl ⟨by rw [hn]; exact (by decide : (16 : Int) ≠ 0), by rw [hn]⟩⟩
        · obtain ⟨h, hh⟩ := Int.eq_ofNat_of_zero_le (Int.not_lt.1 hneg)
          rw [hh] at hat hhad hck hlast
          simp only [Int.toNat_natCast] at hck
          have hoph := hr4.cell (hI0 h (by omega)).op
          by_cases h4 : (ix xs h).op = 4
          · have hhe : hadOf xs (h : Int) i = elsedR xs h i := by simp [hadOf]
            rw [hhe] at hhad
            cases hel : elsedR xs h i with
            | true =>
              rw [hel] at hhad
              rw [if_pos ⟨h5, .inr (.inr hel)⟩] at hck
              refine wgow ?_
              refine Ops.y (Yl.build (v := .agg #[.slice none 0 0, .slice none 0 0, .slice none 0 0, .slice none 0 0]) rfl (fun _ => by kernel_rfl)) rfl ?_
              refine wgow ?_
              refine Ops.e0 (Eff.storeB rfl rfl rfl rfl rfl (by simp [Value.oneCell']) hls4.res rfl) ?_
              rintro _ w9 ⟨hb9, hc9, hs9⟩
              refine wgow ?_
              rw [hck] at hn
              refine Fin.ret3c rfl rfl rfl rfl rfl hb9 rfl rfl rfl ⟨hls4.ext.trans' hc9 (fun q hq e => by have := hls4.ord; omega), .inl ⟨by rw [hn]; exact (by decide : (16 : Int) ≠ 0), by rw [hn]⟩⟩
            | false =>
              rw [hel] at hhad
              rw [if_neg (by simp [h4, hel]), if_neg (by simp [ho])] at hck
              rw [hck] at hn
              refine wgow ?_
              refine Ops.e0 (Eff.store rfl rfl rfl rfl rfl hhad (hls4.op.free _)) ?_
              rintro _ w5 hw5
              have hls5 := hls4.setO (i := (roundR xs i).length - 1) (j := 1) (by omega) (by omega) (.bool true)
              rw [← hw5] at hls5
              clear hw5
              have hd2 : w5.cell? ⟨sb, 0 + 1, none⟩ = some (sl e2 xs.length) := hls5.sh.cell rfl
              have hat5 : w5.cell? ⟨g, 0 + ((roundR xs i).length - 1) * 2, none⟩ = some (.int .i64 h) := hls5.op.cell (j := 0) (by omega) (by rw [upd_same]; simp [opC]; exact hh)
              refine wgow ?_
              refine Cd.regionT 8 (by kernel_rfl) ?_
              refine wgow ?_
              have hls5d := hls5.chg (w' := w5.drew) (S := fun _ => False) (Chg.refl _ _).drew (fun _ h => h.elim)
              refine Ops.e0 (Eff.store rfl rfl rfl rfl rfl (hls5d.o2.get (by rw [elsesTo_len]; omega)) (hls5d.o2.free _)) ?_
              rintro _ w6 hw6
              have hls6 := hls5d.set2 h (i : Int)
              rw [← hw6] at hls6
              refine wgow ?_
              refine Fin.next (i + 1, _) wsub ⟨by omega, hn, hallS hck, ?_⟩ (by dsimp only; omega)
              have q1 : endsTo xs (i + 1) = endsTo xs i := by simp [endsTo, h5]
              have q2 : elsesTo xs (i + 1) = (elsesTo xs i).set h i := by simp [elsesTo, h5, hh]
              have q3 : roundR xs (i + 1) = roundR xs i := round_plain ho (by omega)
              dsimp only
              rw [q1, q2, q3]
              exact hls6.congr (fun j hj => opC_else h5 hz hh (by omega) j hj)
          · rw [if_pos ⟨h5, .inr (.inl h4)⟩] at hck
            refine wgow ?_
            refine Ops.y (Yl.build (v := .agg #[.slice none 0 0, .slice none 0 0, .slice none 0 0, .slice none 0 0]) rfl (fun _ => by kernel_rfl)) rfl ?_
            refine wgow ?_
            refine Ops.e0 (Eff.storeB rfl rfl rfl rfl rfl (by simp [Value.oneCell']) hls4.res rfl) ?_
            rintro _ w9 ⟨hb9, hc9, hs9⟩
            refine wgow ?_
            rw [hck] at hn
            refine Fin.ret3c rfl rfl rfl rfl rfl hb9 rfl rfl rfl ⟨hls4.ext.trans' hc9 (fun q hq e => by have := hls4.ord; omega), .inl ⟨by rw [hn]; exact (by decide : (16 : Int) ≠ 0), by rw [hn]⟩⟩
      · rw [if_neg (by simp [h5])] at hck
        have q2 : elsesTo xs (i + 1) = elsesTo xs i := by simp [elsesTo, h5]
        by_cases ho : opensB (ix xs i).op = true
        · have h11 : (ix xs i).op ≠ 11 := by simp [opensB] at ho; omega
          have q1 : endsTo xs (i + 1) = endsTo xs i := by simp [endsTo, h11]
          have hops : (ix xs i).op = 2 ∨ (ix xs i).op = 3 ∨ (ix xs i).op = 4 := by simp [opensB] at ho; omega
          have ho2 := ho
          by_cases hm : 32 ≤ (roundR xs i).length
          · rw [if_pos ⟨ho, hm⟩] at hck
            have hm' : ((roundR xs i).length : Int) = 32 := by omega
            rcases hops with hop_ | hop_ | hop_
            · refine wgow ?_
              refine Ops.y (Yl.build (v := .agg #[.slice none 0 0, .slice none 0 0, .slice none 0 0, .slice none 0 0]) rfl (fun _ => by kernel_rfl)) rfl ?_
              refine wgow ?_
              refine Ops.e0 (Eff.storeB rfl rfl rfl rfl rfl (by simp [Value.oneCell']) hls4.res rfl) ?_
              rintro _ w9 ⟨hb9, hc9, hs9⟩
              refine wgow ?_
              rw [hck] at hn
              refine Fin.ret3c rfl rfl rfl rfl rfl hb9 rfl rfl rfl ⟨hls4.ext.trans' hc9 (fun q hq e => by have := hls4.ord; omega), .inl ⟨by rw [hn]; exact (by decide : (6 : Int) ≠ 0), by rw [hn]⟩⟩
            · refine wgow ?_
              refine Ops.y (Yl.build (v := .agg #[.slice none 0 0, .slice none 0 0, .slice none 0 0, .slice none 0 0]) rfl (fun _ => by kernel_rfl)) rfl ?_
              refine wgow ?_
              refine Ops.e0 (Eff.storeB rfl rfl rfl rfl rfl (by simp [Value.oneCell']) hls4.res rfl) ?_
              rintro _ w9 ⟨hb9, hc9, hs9⟩
              refine wgow ?_
              rw [hck] at hn
              refine Fin.ret3c rfl rfl rfl rfl rfl hb9 rfl rfl rfl ⟨hls4.ext.trans' hc9 (fun q hq e => by have := hls4.ord; omega), .inl ⟨by rw [hn]; exact (by decide : (6 : Int) ≠ 0), by rw [hn]⟩⟩
            · refine wgow ?_
              refine Ops.y (Yl.build (v := .agg #[.slice none 0 0, .slice none 0 0, .slice none 0 0, .slice none 0 0]) rfl (fun _ => by kernel_rfl)) rfl ?_
              refine wgow ?_
              refine Ops.e0 (Eff.storeB rfl rfl rfl rfl rfl (by simp [Value.oneCell']) hls4.res rfl) ?_
              rintro _ w9 ⟨hb9, hc9, hs9⟩
              refine wgow ?_
              rw [hck] at hn
              refine Fin.ret3c rfl rfl rfl rfl rfl hb9 rfl rfl rfl ⟨hls4.ext.trans' hc9 (fun q hq e => by have := hls4.ord; omega), .inl ⟨by rw [hn]; exact (by decide : (6 : Int) ≠ 0), by rw [hn]⟩⟩
          · rw [if_neg (by simp [hm])] at hck
            rw [hck] at hn
            have hfin : ∀ (w5 w6 : World) (v6 : Value), New w4 w5 [.int .i64 (i : Int), .bool false] 150 → OwnF w.heap.size 150 2 w6 v6 ((roundR xs i).length + 1) (upd (opC xs i) (roundR xs i).length [.int .i64 (i : Int), .bool false]) → Chg (fun k => (Value.slice (some ⟨g, 0, none⟩) (roundR xs i).length co).ownBlock = some k) w5 w6 → (v6.ownBlock = (Value.slice (some ⟨g, 0, none⟩) (roundR xs i).length co).ownBlock ∨ v6.ownBlock = some w5.heap.size) →
                LS w w6 rb e1 e2 e3 e4 sb xs.length (endsTo xs (i + 1)) (elsesTo xs (i + 1)) (depthsTo xs (i + 1)) (headsTo xs (i + 1)) v6 (roundR xs (i + 1)).length (opC xs (i + 1)) := by
              intro w5 w6 v6 hn5 ho6 hc6 hb6
              have hls6 := ((hls4.chg hn5.ext (fun _ h => h.elim)).app ho6 hc6 hb6).congr (opC_open ho2)
              rw [q1, q2, round_open ho2, List.length_append]
              exact hls6
            have hsz4 : w.heap.size ≤ w4.heap.size := hr4.size
            rcases hops with hop_ | hop_ | hop_
            · refine wgow ?_
              refine Ops.y (Yl.build (v := .agg #[.int .i64 (i : Int), .bool false]) rfl (fun _ => by kernel_rfl)) rfl ?_
              refine Ops.e (Eff.buildSlice (cs := [.int .i64 (i : Int), .bool false]) (e := 150) rfl (by kernel_rfl)) rfl ?_
              rintro _ w5 ⟨rfl, hn5⟩
              refine Ops.e (OwnF.appB (hls4.op.ext hn5.ext) rfl rfl rfl rfl rfl (by decide) (by decide) rfl rfl (by have := hn5.size; omega) hn5.blk rfl (by simp [Value.oneCell']) (by omega)) rfl ?_
              rintro v6 w6 ⟨ho6, hc6, hb6⟩
              refine wgow ?_
              exact Fin.next (i + 1, v6) wsub ⟨by omega, hn, hallS hck, hfin w5 w6 v6 hn5 ho6 hc6 hb6⟩ (by dsimp only; omega)
            · refine wgow ?_
              refine Ops.y (Yl.build (v := .agg #[.int .i64 (i : Int), .bool false]) rfl (fun _ => by kernel_rfl)) rfl ?_
              refine Ops.e (Eff.buildSlice (cs := [.int .i64 (i : Int), .bool false]) (e := 150) rfl (by kernel_rfl)) rfl ?_
              rintro _ w5 ⟨rfl, hn5⟩
              refine Ops.e (OwnF.appB (hls4.op.ext hn5.ext) rfl rfl rfl rfl rfl (by decide) (by decide) rfl rfl (by have := hn5.size; omega) hn5.blk rfl (by simp [Value.oneCell']) (by omega)) rfl ?_
              rintro v6 w6 ⟨ho6, hc6, hb6⟩
              refine wgow ?_
              exact Fin.next (i + 1, v6) wsub ⟨by omega, hn, hallS hck, hfin w5 w6 v6 hn5 ho6 hc6 hb6⟩ (by dsimp only; omega)
            · refine wgow ?_
              refine Ops.y (Yl.build (v := .agg #[.int .i64 (i : Int), .bool false]) rfl (fun _ => by kernel_rfl)) rfl ?_
              refine Ops.e (Eff.buildSlice (cs := [.int .i64 (i : Int), .bool false]) (e := 150) rfl (by kernel_rfl)) rfl ?_
              rintro _ w5 ⟨rfl, hn5⟩
              refine Ops.e (OwnF.appB (hls4.op.ext hn5.ext) rfl rfl rfl rfl rfl (by decide) (by decide) rfl rfl (by have := hn5.size; omega) hn5.blk rfl (by simp [Value.oneCell']) (by omega)) rfl ?_
              rintro v6 w6 ⟨ho6, hc6, hb6⟩
              refine wgow ?_
              exact Fin.next (i + 1, v6) wsub ⟨by omega, hn, hallS hck, hfin w5 w6 v6 hn5 ho6 hc6 hb6⟩ (by dsimp only; omega)
        · have ho' : opensB (ix xs i).op = false := by simpa using ho
          have hno : (ix xs i).op ≠ 2 ∧ (ix xs i).op ≠ 3 ∧ (ix xs i).op ≠ 4 := by simp [opensB] at ho'; omega
          rw [if_neg (by simp [ho'])] at hck
          rw [hck] at hn
          by_cases h11 : (ix xs i).op = 11
          · have q3 : (roundR xs (i + 1)).length = (roundR xs i).length - 1 := by rw [round_end h11 hz]; simp
            by_cases hneg : lastI (roundR xs i) < 0
            · refine wgow ?_
              refine Ops.y (Yl.sliceHi rfl rfl rfl rfl rfl (i := (roundR xs i).length - 1) (by omega) (by omega)) rfl ?_
              refine wgow ?_
              refine Fin.next (i + 1, _) wsub ⟨by omega, hn, hallS hck, ?_⟩ (by dsimp only; omega)
              have q1 : endsTo xs (i + 1) = endsTo xs i := by simp [endsTo, h11]; omega
              dsimp only
              rw [q1, q2, q3]
              have e9 : (roundR xs i).length = ((roundR xs i).length - 1) + 1 := by omega
              rw [e9] at hls4
              exact hls4.pop.congr (opC_end h11 hz)
            · obtain ⟨h, hh⟩ := Int.eq_ofNat_of_zero_le (Int.not_lt.1 hneg)
              rw [hh] at hat
              have hd1 : w4.cell? ⟨sb, 0, none⟩ = some (sl e1 xs.length) := hls4.sh.cell rfl
              refine wgow ?_
              refine Cd.regionT 8 (by kernel_rfl) ?_
              refine wgow ?_
              have hls5d := hls4.chg (w' := w4.drew) (S := fun _ => False) (Chg.refl _ _).drew (fun _ h => h.elim)
              refine Ops.e0 (Eff.store rfl rfl rfl rfl rfl (hls5d.o1.get (by rw [endsTo_len]; omega)) (hls5d.o1.free _)) ?_
              rintro _ w6 hw6
              have hls6 := hls5d.set1 h (i : Int)
              rw [← hw6] at hls6
              refine wgow ?_
              refine Ops.y (Yl.sliceHi rfl rfl rfl rfl rfl (i := (roundR xs i).length - 1) (by omega) (by omega)) rfl ?_
              refine wgow ?_
              refine Fin.next (i + 1, _) wsub ⟨by omega, hn, hallS hck, ?_⟩ (by dsimp only; omega)
              have q1 : endsTo xs (i + 1) = (endsTo xs i).set h i := by simp [endsTo, h11, hh]
              dsimp only
              rw [q1, q2, q3]
              have e9 : (roundR xs i).length = ((roundR xs i).length - 1) + 1 := by omega
              rw [e9] at hls6
              exact hls6.pop.congr (opC_end h11 hz)
          · refine wgow ?_
            refine Fin.next (i + 1, _) wsub ⟨by omega, hn, hallS hck, ?_⟩ (by dsimp only; omega)
            have q1 : endsTo xs (i + 1) = endsTo xs i := by simp [endsTo, h11]
            dsimp only
            rw [q1, q2, round_plain ho' h11]
            exact hls4.congr (fun j _ => opC_plain ho' h11 h5 j)
    · have hz' : (roundR xs i).length = 0 := by omega
      have hck : checkAt xs i = some ((i : Int), 16) := by simp only [checkAt, hz', if_true]
      refine wgow ?_
      refine Ops.y (Yl.build (v := .agg #[.slice none 0 0, .slice none 0 0, .slice none 0 0, .slice none 0 0]) rfl (fun _ => by kernel_rfl)) rfl ?_
      refine wgow ?_
      refine Ops.e0 (Eff.storeB rfl rfl rfl rfl rfl (by simp [Value.oneCell']) hlsy.res rfl) ?_
      rintro _ w9 ⟨hb9, hc9, hs9⟩
      refine wgow ?_
      rw [hck] at hn
      refine Fin.ret3c rfl rfl rfl rfl rfl hb9 rfl rfl rfl ⟨hlsy.ext.trans' hc9 (fun q hq e => by have := hlsy.ord; omega), .inl ⟨by rw [hn]; exact (by decide : (16 : Int) ≠ 0), by rw [hn]⟩⟩
  · obtain rfl : i = xs.length := by omega
    rw [show xs.length - xs.length = 0 by omega, checkFrom] at hn
    obtain ⟨po, co, rfl, hco, hcm, hg⟩ := hls.op.slice
    by_cases hz : 0 < (roundR xs xs.length).length
    · rw [if_pos hz] at hn
      refine wgow ?_
      refine Ops.y (Yl.build (v := .agg #[.slice none 0 0, .slice none 0 0, .slice none 0 0, .slice none 0 0]) rfl (fun _ => by kernel_rfl)) rfl ?_
      refine wgow ?_
      refine Ops.e0 (Eff.storeB rfl rfl rfl rfl rfl (by simp [Value.oneCell']) hls.res rfl) ?_
      rintro _ w9 ⟨hb9, hc9, hs9⟩
      refine wgow ?_
      have := hn
      refine Fin.ret3c rfl rfl rfl rfl rfl hb9 rfl rfl rfl ⟨hls.ext.trans' hc9 (fun q hq e => by have := hls.ord; omega), .inl ⟨by rw [hn]; exact (by decide : (3 : Int) ≠ 0), by rw [hn]⟩⟩
    · rw [if_neg hz] at hn
      refine wgow ?_
      refine Ops.y (Yl.loadA (s := 4) (cs := [sl e1 xs.length, sl e2 xs.length, sl e3 xs.length, sl e4 xs.length]) rfl rfl rfl rfl rfl (by
        intro _ hw_; cases hw_; intro j hj
        match j, hj with
        | 0, _ => exact hls.sh.cell rfl
        | 1, _ => exact hls.sh.cell rfl
        | 2, _ => exact hls.sh.cell rfl
        | 3, _ => exact hls.sh.cell rfl)) rfl ?_
      refine wgow ?_
      refine Ops.e0 (Eff.storeB rfl rfl rfl rfl rfl (by simp [Value.oneCell']) hls.res rfl) ?_
      rintro _ w9 ⟨hb9, hc9, hs9⟩
      refine wgow ?_
      have key : ∀ e, rb < e → ∀ k, (sl e xs.length).ownBlock = some k → ¬ k = rb := fun e he k hk hs => by
        have e2 : e = k := Option.some.inj hk
        omega
      refine Fin.ret3c rfl rfl rfl rfl rfl hb9 rfl rfl rfl ⟨hls.ext.trans' hc9 (fun q hq e => by omega), .inr ⟨by rw [hn], _, _, _, _, by rw [hn], own_chg hls.o1 hc9 (key _ (by omega)), own_chg hls.o2 hc9 (key _ (by omega)), own_chg hls.o3 hc9 (key _ (by omega)), own_chg hls.o4 hc9 (key _ (by omega))⟩⟩
end Go.Proofs.YtmkgfccfnpmcjaaDoor
