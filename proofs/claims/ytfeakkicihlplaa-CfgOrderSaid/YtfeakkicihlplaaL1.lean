/- The laws CfgBlocks and CfgGraphs. -/
import Derived.Test.YtfeakkicihlplaaL0
import Derived.Test.YtfeakkicihlplaaC5
namespace Go.Proofs.Ytfeakkicihlplaa
open Go.RowKit

theorem BlocksN.any {F : Nat → Prop} {w : World} {v : Value} {bs : List Bk} {nvs : List Value} (h : BlocksN F w v bs nvs) : BlocksN (fun _ => True) w v bs nvs := by
  obtain ⟨a1, a2, a3, a4, a5, a6, a7⟩ := h
  refine ⟨a1, a2, a3, a4, a5, fun j hj => (a6 j hj).mono (fun _ _ _ => trivial), ?_⟩
  rcases a7 with a7 | ⟨c1, c2, c3, _, c5⟩
  · exact .inl a7
  · exact .inr ⟨c1, c2, c3, trivial, c5⟩
theorem BlocksN.ext {F : Nat → Prop} {w w' : World} {v : Value} {bs : List Bk} {nvs : List Value} (h : BlocksN F w v bs nvs) (hc : Ext w w') : BlocksN F w' v bs nvs := h.chg hc (fun _ _ _ h => h)
theorem BlocksN.none (w : World) : BlocksN (fun _ => True) w (.slice none 0 0) [] [] := ⟨_, _, rfl, by simp, rfl, fun i hi => (by cases hi), .inl rfl⟩
theorem fb_few {xs : List Ins} (h : xs.length ≤ 1000000) : (blocksB xs).length ≤ 1000000 := by
  unfold blocksB; dsimp only; rw [mkB_len]; have := fbTo_len xs xs.length; omega

set_option maxRecDepth 100000 in
theorem law_CfgBlocks (xs : List Ins) (v : Value) (w : World) (hb : Body w v xs) :
    Calls G.P 3 #[v] w fun e w' => e = .returned (.bool true) ∧ Ext w w' := by
  obtain ⟨p, cap, rfl, hl⟩ := hb.slice
  refine enter (G := G) Try.func3 rfl Try.ntmps3 rfl ?_
  refine wgo ?_
  refine Ops.call rfl rfl rfl (law_few xs _ w hb) ?_
  rintro _ _ ⟨b, rfl, hfew, rfl⟩
  refine ⟨_, rfl, ?_⟩
  cases b with
  | false =>
    refine wgo ?_
    refine Ops.call rfl rfl rfl (law_alive w) ?_
    rintro _ w1 ⟨rfl, hx1⟩
    refine ⟨_, rfl, ?_⟩
    refine wgo ?_
    exact Fin.ret1 rfl rfl ⟨rfl, hx1⟩
  | true =>
    obtain ⟨hlen, hlab⟩ := hfew rfl
    have hlab' : ∀ i, i < xs.length → (ix xs i).labels.length ≤ 1000000 := fun i hi => by have := hlab i hi; omega
    refine wgo ?_
    refine Ops.call rfl rfl rfl (cfg_Of xs _ w hb (by omega) hlab') ?_
    rintro e1 w1 h1
    have hx1 : Ext w w1 := by rcases h1 with ⟨_, _, h⟩ | ⟨_, _, _, _, _, h⟩ <;> exact h
    have h2' := ref36_Of xs _ w1 (hb.ext hx1) (by omega) hlab'
    have key : ∀ (r r2 : Value) (ok : Bool) (bs : List Bk) (nvs nvs2 : List Value) (w2 : World), BlocksN (fun _ => True) w1 r bs nvs → BlocksN (fun _ => True) w2 r2 bs nvs2 → Ext w1 w2 → bs.length ≤ 1000000 → True := fun _ _ _ _ _ _ _ _ _ _ _ => trivial
    rcases h1 with ⟨hno, rfl, _⟩ | ⟨hyes, r, nvs, rfl, hB, _⟩
    · refine ⟨_, rfl, ?_⟩
      refine wgo ?_
      refine Ops.call rfl rfl rfl h2' ?_
      rintro _ w2 (⟨_, rfl, hx2⟩ | ⟨h, _⟩)
      · refine ⟨_, rfl, ?_⟩
        refine wgo ?_
        refine Ops.callg rfl rfl rfl rfl (law_turned [] [] (.slice none 0 0) w2 (by simp) (BlocksN.none w2)) ?_
        rintro _ w3 ⟨r3, rfl, hB3, hx3⟩
        refine ⟨_, rfl, ?_⟩
        refine wgo ?_
        refine Ops.callg rfl rfl rfl rfl (ref_Same [] [] [] r3 (.slice none 0 0) w3 hB3 (BlocksN.none w3)) ?_
        rintro _ _ ⟨rfl, q, rfl⟩
        refine ⟨_, rfl, ?_⟩
        refine wgo ?_
        refine Ops.callg rfl rfl rfl rfl (law_alive _) ?_
        rintro _ w4 ⟨rfl, hx4⟩
        refine ⟨_, rfl, ?_⟩
        refine wgo ?_
        exact Fin.ret1 rfl rfl ⟨rfl, (Chg.drewN ((hx1.trans hx2).trans hx3) q).trans hx4⟩
      · exact absurd h hno
    · refine ⟨_, rfl, ?_⟩
      refine wgo ?_
      refine Ops.call rfl rfl rfl h2' ?_
      rintro _ w2 (⟨h, _⟩ | ⟨_, r2, nvs2, rfl, hB2, hx2⟩)
      · exact absurd hyes h
      · refine ⟨_, rfl, ?_⟩
        refine wgo ?_
        refine Ops.callg rfl rfl rfl rfl (law_turned (blocksB xs) nvs r w2 (fb_few (by omega)) (hB.any.ext hx2)) ?_
        rintro _ w3 ⟨r3, rfl, hB3, hx3⟩
        refine ⟨_, rfl, ?_⟩
        refine wgo ?_
        refine Ops.callg rfl rfl rfl rfl (ref_Same (blocksB xs) nvs nvs2 r3 r2 w3 hB3 (hB2.any.ext hx3)) ?_
        rintro _ _ ⟨rfl, q, rfl⟩
        refine ⟨_, rfl, ?_⟩
        refine wgo ?_
        refine Ops.callg rfl rfl rfl rfl (law_alive _) ?_
        rintro _ w4 ⟨rfl, hx4⟩
        refine ⟨_, rfl, ?_⟩
        refine wgo ?_
        exact Fin.ret1 rfl rfl ⟨rfl, (Chg.drewN ((hx1.trans hx2).trans hx3) q).trans hx4⟩

set_option maxRecDepth 100000 in
theorem law_CfgGraphs (bs : List Bk) (nvs : List Value) (v : Value) (q : Int) (w : World) (hb : BlocksN (fun _ => True) w v bs nvs) :
    Calls G.P 6 #[v, .int .i64 q] w fun e w' => e = .returned (.bool true) ∧ Ext w w' := by
  obtain ⟨p, cap, rfl, hl⟩ := hb.slice
  refine enter (G := G) Try.func6 rfl Try.ntmps6 rfl ?_
  refine wgo ?_
  refine Ops.call rfl rfl rfl (law_small bs nvs _ w hb) ?_
  rintro _ _ ⟨b, rfl, hsmall, rfl⟩
  refine ⟨_, rfl, ?_⟩
  cases b with
  | false =>
    refine wgo ?_
    refine Ops.call rfl rfl rfl (law_alive w) ?_
    rintro _ w1 ⟨rfl, hx1⟩
    refine ⟨_, rfl, ?_⟩
    refine wgo ?_
    exact Fin.ret1 rfl rfl ⟨rfl, hx1⟩
  | true =>
    obtain ⟨hlen, hnx⟩ := hsmall rfl
    have hnl : ∀ i, i < bs.length → (ix bs i).next.length ≤ 1000000000 := fun i hi => by have := hnx i hi; omega
    refine wgo ?_
    refine Ops.call rfl rfl rfl (law_given bs nvs _ w (by omega) hb) ?_
    rintro _ w1 ⟨g, rfl, hg, hx1⟩
    refine ⟨_, rfl, ?_⟩
    refine wgo ?_
    refine Ops.call rfl rfl rfl (cfg_Preds bs nvs g w1 hg hnl (by omega)) ?_
    rintro _ w2 ⟨r2, rfl, hr2, hx2⟩
    refine ⟨_, rfl, ?_⟩
    refine wgo ?_
    have hxa : Ext w w2 := hx1.trans hx2
    refine Ops.call rfl rfl rfl (ref36_Preds bs nvs _ w2 (hb.ext hxa) (by omega)) ?_
    rintro _ w3 ⟨r3, rfl, hr3, hx3⟩
    refine ⟨_, rfl, ?_⟩
    refine wgo ?_
    refine Ops.call rfl rfl rfl (ref_Rows (predsR bs) r2 r3 w3 (hr2.chg hx3 (fun _ _ _ h => h)) hr3) ?_
    rintro _ _ ⟨rfl, q1, rfl⟩
    refine ⟨_, rfl, ?_⟩
    have hxb : Ext w (w3.drewN q1) := Chg.drewN (hxa.trans hx3) q1
    have hxc : Ext w1 (w3.drewN q1) := Chg.drewN (hx2.trans hx3) q1
    generalize w3.drewN q1 = w4 at *
    refine wgo ?_
    refine Ops.callg rfl rfl rfl rfl (cfg_Order bs nvs g w4 (hg.ext hxc) hnl (by omega)) ?_
    rintro _ w5 ⟨r5, rfl, hr5, hx5⟩
    refine ⟨_, rfl, ?_⟩
    refine wgo ?_
    refine Ops.callg rfl rfl rfl rfl (ref36_Order bs nvs _ w5 (hb.ext (hxb.trans hx5)) hnl (by omega)) ?_
    rintro _ w6 ⟨r6, rfl, hr6, hx6⟩
    refine ⟨_, rfl, ?_⟩
    refine wgo ?_
    have hol : (orderR bs).length ≤ 2000000 := orderR_len (by omega)
    refine Ops.callg rfl rfl rfl rfl (ref_Ints (orderR bs) (orderR bs) r5 r6 w6 (((hr5.ext hx6).reads (by omega)).mono (fun _ _ _ => trivial)) ((hr6.reads (by omega)).mono (fun _ _ _ => trivial))) ?_
    rintro _ _ ⟨rfl, q2, rfl⟩
    refine ⟨_, rfl, ?_⟩
    rw [show decide (orderR bs = orderR bs) = true by simp]
    have hxd : Ext w (w6.drewN q2) := Chg.drewN ((hxb.trans hx5).trans hx6) q2
    have hxe : Ext w1 (w6.drewN q2) := Chg.drewN ((hxc.trans hx5).trans hx6) q2
    generalize w6.drewN q2 = w7 at *
    refine wgo ?_
    refine Ops.callg rfl rfl rfl rfl (cfg_At bs nvs g q w7 (hg.ext hxe)) ?_
    rintro _ w8 ⟨rfl, hx8⟩
    refine ⟨_, rfl, ?_⟩
    refine wgo ?_
    refine Ops.callg rfl rfl rfl rfl (ref_At bs nvs _ q w8 (hb.ext (hxd.trans hx8))) ?_
    rintro _ _ ⟨rfl, rfl⟩
    refine ⟨_, rfl, ?_⟩
    refine wgo ?_
    refine Ops.callg rfl rfl rfl rfl (law_alive _) ?_
    rintro _ w9 ⟨rfl, hx9⟩
    refine ⟨_, rfl, ?_⟩
    refine wgo ?_
    exact Fin.ret1 rfl rfl ⟨rfl, (hxd.trans hx8).trans hx9⟩
end Go.Proofs.Ytfeakkicihlplaa
