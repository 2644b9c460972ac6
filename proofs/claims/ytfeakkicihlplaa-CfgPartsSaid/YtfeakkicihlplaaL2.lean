/- The law CfgParts. -/
import Derived.Test.YtfeakkicihlplaaL1
import Derived.Test.YtfeakkicihlplaaP1
namespace Go.Proofs.Ytfeakkicihlplaa
open Go.RowKit

set_option maxRecDepth 100000 in
set_option maxHeartbeats 4000000 in
theorem law_CfgParts (xs : List Ins) (v : Value) (w : World) (hb : Body w v xs) :
    Calls G.P 4 #[v] w fun e w' => e = .returned (.bool true) ∧ Ext w w' := by
  obtain ⟨p, cap, rfl, hl⟩ := hb.slice
  refine enter (G := G) Try.func4 rfl Try.ntmps4 rfl ?_
  refine wgo ?_
  refine Ops.call rfl rfl rfl (law_few xs _ w hb) ?_
  rintro _ _ ⟨b, rfl, hfew, rfl⟩
  refine ⟨_, rfl, ?_⟩
  cases b with
  | false =>
    refine wgo ?_
    refine Ops.call rfl rfl rfl (law_alive w) ?_
    rintro _ w1 ⟨rfl, hx1⟩
    refine ⟨_, rfl, ?_⟩
    refine wgo ?_
    exact Fin.ret1 rfl rfl ⟨rfl, hx1⟩
  | true =>
    obtain ⟨hlen, hlab⟩ := hfew rfl
    have hlab' : ∀ i, i < xs.length → (ix xs i).labels.length ≤ 1000000 := fun i hi => by have := hlab i hi; omega
    clear hfew hlab
    refine wgo ?_
    refine Ops.call rfl rfl rfl (cfg_Of xs _ w hb (by omega) hlab') ?_
    rintro e1 w1 (⟨hno, rfl, hx1⟩ | ⟨⟨hok, hbad⟩, r, nvs, rfl, hB, hx1⟩)
    · refine ⟨_, rfl, ?_⟩
      refine wgo ?_
      refine Ops.callg rfl rfl rfl rfl (law_alive _) ?_
      rintro _ w2 ⟨rfl, hx2⟩
      refine ⟨_, rfl, ?_⟩
      refine wgo ?_
      exact Fin.ret1 rfl rfl ⟨rfl, hx1.trans hx2⟩
    · refine ⟨_, rfl, ?_⟩
      replace hB := hB.any
      obtain ⟨p2, cap2, rfl, hl2⟩ := hB.slice
      have h0 := nonempty_of_ok hok
      have hbl := bl_len xs
      have hc0 := cut_zero h0
      have hce : cutAt xs (blocksB xs).length = xs.length := cut_end (by omega)
      refine wgo ?_
      refine Cd.loop (σ := Nat) (fun i => [(0, .slice p xs.length cap), (3, .slice p2 (blocksB xs).length cap2), (5, .int .i64 (cutAt xs i)), (6, .int .i64 i)]) (fun i wr => i ≤ (blocksB xs).length ∧ Ext w1 wr) (fun i => (blocksB xs).length - i) 0 wsub ⟨Nat.zero_le _, Chg.refl _ _⟩ ?_
      rintro i wr ⟨hi, hxr⟩
      by_cases hlt : i < (blocksB xs).length
      · have hi' : i < (fbTo xs xs.length).length := by omega
        have hB2 := hB.ext hxr
        obtain ⟨b, off, rfl, -, hI⟩ := hB.at hlt
        obtain ⟨e1, e2, -⟩ := bl_ix hi'
        have hcl := cut_lt hi'
        have hcs := cut_succ hi'
        rw [← hcl] at e1
        rw [← hcs] at e2
        have hrg := fbTo_rng hi'
        rw [← hcl, ← hcs] at hrg
        have c0 := (hI i hlt).fr
        have c1 := (hI i hlt).to
        rw [e1] at c0
        rw [e2] at c1
        have d0 := hxr.cell c0
        have d1 := hxr.cell c1
        refine wgo ?_
        refine Cd.loop (σ := Nat) (fun q => [(0, .slice p xs.length cap), (3, .slice (some ⟨b, off, none⟩) (blocksB xs).length cap2), (5, .int .i64 (cutAt xs i)), (6, .int .i64 i), (7, .int .i64 q)]) (fun q wq => cutAt xs i ≤ q ∧ q ≤ cutAt xs (i + 1) ∧ Ext w1 wq) (fun q => cutAt xs (i + 1) - q) (cutAt xs i) wsub ⟨by omega, by omega, hxr⟩ ?_
        rintro q wq ⟨hq1, hq2, hxq⟩
        have f1 := hxq.cell c1
        by_cases hql : q < cutAt xs (i + 1)
        · refine wgo ?_
          refine Ops.call rfl rfl rfl (cfg_At (blocksB xs) nvs _ q wq (hB.ext hxq)) ?_
          rintro _ wz ⟨rfl, hxz⟩
          refine ⟨_, rfl, ?_⟩
          have hat : atB (blocksB xs) q = i := by rw [bl_at]; exact atF_in hi' (by omega) (by omega)
          rw [hat]
          have hxz1 : Ext w1 wz := hxq.trans hxz
          have g1 := hxz1.cell c1
          have hbz := hb.ext (hx1.trans hxz1)
          obtain ⟨bb, ob, rfl, -, hJ⟩ := hb.at (i := q) (by omega)
          have o1 := Ext.cell (hx1.trans hxz1) (hJ q (by omega)).op
          have hend : cutAt xs i < q → (ix xs q).op ≠ 11 := fun h => in_end hi' (by omega) (by omega)
          have hlst : endsB (ix xs q).op = true → q + 1 = cutAt xs (i + 1) := fun h => by rw [hcs]; exact in_last hi' (by omega) (by omega) h
          have hgo : ∀ {E : Env} {Q : Exit → Act → World → Prop} {Ei : Nat → Env} {Wi : Nat → World → Prop} {μ : Nat → Nat}, True := trivial
          generalize hop : (ix xs q).op = op at *
          by_cases h11 : op = 11
          · have hqe : q = cutAt xs i := by
              rcases Nat.lt_or_ge (cutAt xs i) q with h | h
              · exact absurd h11 (hend h)
              · omega
            refine wgow ?_
            refine Fin.next (q + 1) wsub ⟨by omega, by omega, hxz1⟩ (by omega)
          · rcases (show op = 4 ∨ op = 5 ∨ op = 12 ∨ op = 13 ∨ op = 14 ∨ op = 15 ∨ op = 0 ∨ op = 3 ∨ (op ≠ 4 ∧ op ≠ 5 ∧ op ≠ 12 ∧ op ≠ 13 ∧ op ≠ 14 ∧ op ≠ 15 ∧ op ≠ 0 ∧ op ≠ 3) from by omega) with hc_ | hc_ | hc_ | hc_ | hc_ | hc_ | hc_ | hc_ | ⟨hc4_, hc5_, hc12_, hc13_, hc14_, hc15_, hc0_, hc3_⟩
            case inr.inr.inr.inr.inr.inr.inr.inr =>
              refine wgow ?_
              refine Fin.next (q + 1) wsub ⟨by omega, by omega, hxz1⟩ (by omega)
            all_goals
              have hle := hlst (by rw [hc_]; rfl)
              refine wgow ?_
              refine Fin.next (q + 1) wsub ⟨by omega, by omega, hxz1⟩ (by omega)
        · have hqe : q = cutAt xs (i + 1) := by omega
          refine wgow ?_
          refine Fin.next (i + 1) wsub ⟨by omega, hxq⟩ (by omega)
      · have hie : i = (blocksB xs).length := by omega
        subst hie
        refine wgow ?_
        refine Ops.callg rfl rfl rfl rfl (cfg_At (blocksB xs) nvs _ _ wr (hB.ext hxr)) ?_
        rintro _ wz ⟨rfl, hxz⟩
        refine ⟨_, rfl, ?_⟩
        rw [hce, bl_at_len]
        refine wgow ?_
        refine Ops.callg rfl rfl rfl rfl (cfg_At (blocksB xs) nvs _ (-1) wz (hB.ext (hxr.trans hxz))) ?_
        rintro _ wy ⟨rfl, hxy⟩
        refine ⟨_, rfl, ?_⟩
        rw [bl_at_neg]
        refine wgow ?_
        refine Ops.callg rfl rfl rfl rfl (law_alive _) ?_
        rintro _ w2 ⟨rfl, hx2⟩
        refine ⟨_, rfl, ?_⟩
        refine wgow ?_
        exact Fin.ret1 rfl rfl ⟨rfl, (((hx1.trans hxr).trans hxz).trans hxy).trans hx2⟩
end Go.Proofs.Ytfeakkicihlplaa
