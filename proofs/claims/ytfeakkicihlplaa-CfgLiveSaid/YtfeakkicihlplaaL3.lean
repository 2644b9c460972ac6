/- The law CfgLive. -/
import Derived.Test.YtfeakkicihlplaaL1
import Derived.Test.YtfeakkicihlplaaP1
namespace Go.Proofs.Ytfeakkicihlplaa
open Go.RowKit

set_option maxRecDepth 100000 in
set_option maxHeartbeats 4000000 in
theorem law_CfgLive (xs : List Ins) (v : Value) (w : World) (hb : Body w v xs) :
    Calls G.P 5 #[v] w fun e w' => e = .returned (.bool true) ∧ Ext w w' := by
  obtain ⟨p, cap, rfl, hl⟩ := hb.slice
  refine enter (G := G) Try.func5 rfl Try.ntmps5 rfl ?_
  refine wgo ?_
  refine Ops.call rfl rfl rfl (law_few xs _ w hb) ?_
  rintro _ _ ⟨b, rfl, hfew, rfl⟩
  refine ⟨_, rfl, ?_⟩
  cases b with
  | false =>
    refine wgo ?_
    refine Ops.call rfl rfl rfl (law_alive w) ?_
    rintro _ w1 ⟨rfl, hx1⟩
    refine ⟨_, rfl, ?_⟩
    refine wgo ?_
    exact Fin.ret1 rfl rfl ⟨rfl, hx1⟩
  | true =>
    obtain ⟨hlen, hlab⟩ := hfew rfl
    have hlab' : ∀ i, i < xs.length → (ix xs i).labels.length ≤ 1000000 := fun i hi => by have := hlab i hi; omega
    clear hfew hlab
    refine wgo ?_
    refine Ops.call rfl rfl rfl (cfg_Of xs _ w hb (by omega) hlab') ?_
    rintro e1 w1 (⟨hno, rfl, hx1⟩ | ⟨⟨hok, hbad⟩, r, nvs, rfl, hB, hx1⟩)
    · refine ⟨_, rfl, ?_⟩
      refine wgo ?_
      refine Ops.callg rfl rfl rfl rfl (law_alive _) ?_
      rintro _ w2 ⟨rfl, hx2⟩
      refine ⟨_, rfl, ?_⟩
      refine wgo ?_
      exact Fin.ret1 rfl rfl ⟨rfl, hx1.trans hx2⟩
    · refine ⟨_, rfl, ?_⟩
      replace hB := hB.any
      obtain ⟨p2, cap2, rfl, hl2⟩ := hB.slice
      have h0 := nonempty_of_ok hok
      have hbl := bl_len xs
      have hfl := fbTo_len xs xs.length
      have hfp := fbTo_pos (xs := xs) h0
      have hnl : ∀ i, i < (blocksB xs).length → (ix (blocksB xs) i).next.length ≤ 1000000000 := fun i hi => by
        have hi' : i < (fbTo xs xs.length).length := by omega
        have h1 := fbTo_rng hi'
        have h2 := after_len xs ((ix (fbTo xs xs.length) i).2 - 1)
        have h3 := hlab' ((ix (fbTo xs xs.length) i).2 - 1) (by omega)
        rw [bl_next hi', List.length_map]; omega
      refine wgo ?_
      refine Ops.call rfl rfl rfl (cfg_Order (blocksB xs) nvs _ w1 hB hnl (by omega)) ?_
      rintro _ w2 ⟨ov, rfl, hov, hx2⟩
      refine ⟨_, rfl, ?_⟩
      have hol : (orderR (blocksB xs)).length ≤ 2000000 := orderR_len (by omega)
      have hor : IntsR (fun _ => True) w2 ov (orderR (blocksB xs)) := (hov.reads (by omega)).mono (fun _ _ _ => trivial)
      obtain ⟨po, co, rfl, -⟩ := hor.slice
      have hB2 := hB.ext hx2
      have hb2 := hb.ext (hx1.trans hx2)
      obtain ⟨b, off, rfl, -, hI⟩ := hB2.at (i := 0) (by omega)
      obtain ⟨bb, ob, rfl, -, hJ⟩ := hb2.at (i := 0) (by omega)
      refine wgo ?_
      refine Cd.loop (σ := Nat) (fun i => [(0, .slice (some ⟨bb, ob, none⟩) xs.length cap), (3, .slice (some ⟨b, off, none⟩) (blocksB xs).length cap2), (5, .slice po (orderR (blocksB xs)).length co), (6, .int .i64 i)]) (fun i wr => i ≤ (blocksB xs).length ∧ Ext w2 wr) (fun i => (blocksB xs).length - i) 0 wsub ⟨Nat.zero_le _, Chg.refl _ _⟩ ?_
      rintro i wr ⟨hi, hxr⟩
      by_cases hlt : i < (blocksB xs).length
      · have hi' : i < (fbTo xs xs.length).length := by omega
        obtain ⟨e1, e2, -⟩ := bl_ix hi'
        have hrg := fbTo_rng hi'
        have hnx := bl_next hi'
        have hpl := bl_plain hi'
        obtain ⟨q, hq⟩ : ∃ q, (ix (fbTo xs xs.length) i).2 = q + 1 := ⟨(ix (fbTo xs xs.length) i).2 - 1, by omega⟩
        rw [hq] at e2 hrg hnx hpl
        rw [Nat.add_sub_cancel] at hnx hpl
        have hqx : q < xs.length := by omega
        have c1 := hxr.cell (hI i hlt).to
        have c2 := hxr.cell (hI i hlt).nx
        have c3 := hxr.cell (hI i hlt).live
        rw [bl_live hi'] at c3
        have hnr := (hI i hlt).next
        rw [e2] at c1
        have o1 := hxr.cell (hJ q hqx).op
        obtain ⟨lv, o8, hlr⟩ := (hJ q hqx).labels
        have o8 := hxr.cell o8
        obtain ⟨pl, cl, rfl, hll⟩ := hlr.slice
        obtain ⟨pn, cn, en, -⟩ := hnr.slice
        rw [en] at c2 hnr
        have hnr' := hnr.chg hxr (fun _ _ _ h => h)
        refine wgo ?_
        have hcq : ∀ w', (∃ k, w' = wr.drewN k) → Calls G.P 16 #[.slice po (orderR (blocksB xs)).length co, .int .i64 i] w' (fun e w'' => e = .returned (.bool ((orderR (blocksB xs)).contains (i : Int))) ∧ ∃ k, w'' = wr.drewN k) := by
          rintro _ ⟨k, rfl⟩
          refine (law_contains (orderR (blocksB xs)) _ i _ (hor.chg (Chg.drewN hxr k) (fun _ _ _ h => h))).mono ?_
          rintro _ _ ⟨rfl, rfl⟩
          exact ⟨rfl, k, rfl⟩
        generalize (orderR (blocksB xs)).contains (i : Int) = ct at c3 hcq
        refine Cd.regionQ (by kernel_rfl) ?_
        refine wgo ?_
        refine Ops.callQ rfl rfl rfl hcq ?_
        refine Ops.y (Yl.neqb Try.underlying4 rfl rfl) rfl ?_
        rw [show (ct != ct) = false by cases ct <;> rfl]
        clear c3 hcq
        refine wgo ?_
        refine Ops.nilQ ?_
        rintro _ ⟨q0, rfl⟩
        have hxq : Ext w2 (wr.drewN q0) := Chg.drewN hxr q0
        have hct := after_count xs q
        have hnl2 : (ix (blocksB xs) i).next.length = (afterR xs q).length := by rw [hnx, List.length_map]
        rw [← hnl2] at hct
        clear hnl hnl2 hnx hlab'
        generalize hop : (ix xs q).op = op at *
        obtain ⟨k1, k2, k3, k4⟩ := hct
        refine wgo ?_
        refine Ops.y (Yl.idx rfl rfl rfl rfl rfl (i := q) (by omega) (by omega)) rfl ?_
        rcases (show op = 15 ∨ op = 0 ∨ op = 4 ∨ op = 13 ∨ op = 14 ∨ op = 12 ∨ op = 5 ∨ (op ≠ 15 ∧ op ≠ 0 ∧ op ≠ 4 ∧ op ≠ 13 ∧ op ≠ 14 ∧ op ≠ 12 ∧ op ≠ 5) from by omega) with hc_ | hc_ | hc_ | hc_ | hc_ | hc_ | hc_ | ⟨hc15_, hc0_, hc4_, hc13_, hc14_, hc12_, hc5_⟩
        case inr.inr.inr.inr.inr.inr.inr =>
          replace hpl := hpl (fun c hc => by omega)
          by_cases hi1 : i + 1 < (blocksB xs).length
          · rw [if_pos (by omega)] at hpl
            have hnl : (ix (blocksB xs) i).next.length = 1 := by rw [hpl]; rfl
            refine wgow ?_
            refine Ops.eg rfl (Eff.buildSlice (cs := [.int .i64 ((i : Int) + 1)]) (e := 3) rfl (by kernel_rfl)) rfl ?_
            rintro _ w5 ⟨rfl, hn5⟩
            have hx5 : Ext w2 w5 := hxq.trans hn5.ext
            refine Ops.callg rfl rfl rfl rfl (ref_Ints (ix (blocksB xs) i).next [(i : Int) + 1] _ _ w5 (hnr.chg hx5 (fun _ _ _ h => h)) (((OwnI.ofNew (xs := [(i : Int) + 1]) (base := 0) hn5 rfl (by omega) (by simp [maxLen])).reads (by simp)).mono (fun _ _ _ => trivial))) ?_
            rintro _ _ ⟨rfl, q2, rfl⟩
            refine ⟨_, rfl, ?_⟩
            rw [show decide ((ix (blocksB xs) i).next = [(i : Int) + 1]) = true by rw [hpl]; simp]
            refine wgow ?_
            refine Fin.next (i + 1) wsub ⟨by omega, Chg.drewN hx5 q2⟩ (by omega)
          · rw [if_neg (by omega)] at hpl
            have hnl : (ix (blocksB xs) i).next.length = 0 := by rw [hpl]; rfl
            refine wgow ?_
            refine Fin.next (i + 1) wsub ⟨by omega, hxq⟩ (by omega)
        case inr.inr.inr.inr.inl =>
          clear hpl
          refine wgow ?_
          refine Ops.y (Yl.idx rfl rfl rfl rfl rfl (i := q) (by omega) (by omega)) rfl ?_
          refine wgow ?_
          refine Ops.nilQ ?_
          rintro _ ⟨q1, rfl⟩
          refine wgow ?_
          refine Fin.next (i + 1) wsub ⟨by omega, Chg.drewN hxr q1⟩ (by omega)
        all_goals
          clear hpl
          refine wgow ?_
          refine Fin.next (i + 1) wsub ⟨by omega, hxq⟩ (by omega)
      · have hie : i = (blocksB xs).length := by omega
        subst hie
        have c3 := hxr.cell (hI 0 (by omega)).live
        rw [bl_live (by omega), show ((0 : Nat) : Int) = 0 from rfl, order_zero (by omega)] at c3
        refine wgow ?_
        refine Ops.y (Yl.idx rfl rfl rfl rfl rfl (i := 0) rfl (by omega)) rfl ?_
        refine wgow ?_
        refine Ops.callg rfl rfl rfl rfl (law_alive _) ?_
        rintro _ w3 ⟨rfl, hx3⟩
        refine ⟨_, rfl, ?_⟩
        refine wgow ?_
        exact Fin.ret1 rfl rfl ⟨rfl, ((hx1.trans hx2).trans hxr).trans hx3⟩
end Go.Proofs.Ytfeakkicihlplaa
