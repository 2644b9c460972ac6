/- law36.alive: the chapter's example. -/
import Derived.Test.YtfeakkicihlplaaC7
import Derived.Test.YtfeakkicihlplaaC4
namespace Go.Proofs.Ytfeakkicihlplaa
open Go.RowKit

def exI (op : Int) : Ins := { op := op, a := 0, b := 0, n := 0, kind := 0, val := 0, index := 0, types := [], labels := [] }
def exS : List Ins := [exI 65, exI 4, exI 1, exI 5, exI 1, exI 11, exI 11]
theorem ex_check : (checkR exS).2 = 0 := by decide
theorem ex_ok : ∀ p, p < exS.length → okN exS p = true := by decide
theorem ex_bad : ¬ badB exS := fun h => by
  obtain ⟨p, hp, hN⟩ := (bad_iff ex_check).1 h
  rw [ex_ok p hp] at hN; cases hN
def exB : List Bk := [⟨0, 2, [1, 2], true⟩, ⟨2, 4, [3], true⟩, ⟨4, 5, [3], true⟩, ⟨5, 6, [4], true⟩, ⟨6, 7, [], true⟩]
theorem ex_blocks : blocksB exS = exB := by kernel_rfl
theorem ex_at : atB exB 3 = 1 := by kernel_rfl

def exC (op : Int) : List Value := [.int .i64 op, .int .i64 0, .int .i64 0, .int .u64 0, .int .i64 0, .int .i64 0, .int .i64 0, .slice none 0 0, .slice none 0 0]
theorem ex_body {w w1 : World} (hn : New w w1 [.int .i64 65, .int .i64 0, .int .i64 0, .int .u64 0, .int .i64 0, .int .i64 0, .int .i64 0, .slice none 0 0, .slice none 0 0, .int .i64 4, .int .i64 0, .int .i64 0, .int .u64 0, .int .i64 0, .int .i64 0, .int .i64 0, .slice none 0 0, .slice none 0 0, .int .i64 1, .int .i64 0, .int .i64 0, .int .u64 0, .int .i64 0, .int .i64 0, .int .i64 0, .slice none 0 0, .slice none 0 0, .int .i64 5, .int .i64 0, .int .i64 0, .int .u64 0, .int .i64 0, .int .i64 0, .int .i64 0, .slice none 0 0, .slice none 0 0, .int .i64 1, .int .i64 0, .int .i64 0, .int .u64 0, .int .i64 0, .int .i64 0, .int .i64 0, .slice none 0 0, .slice none 0 0, .int .i64 11, .int .i64 0, .int .i64 0, .int .u64 0, .int .i64 0, .int .i64 0, .int .i64 0, .slice none 0 0, .slice none 0 0, .int .i64 11, .int .i64 0, .int .i64 0, .int .u64 0, .int .i64 0, .int .i64 0, .int .i64 0, .slice none 0 0, .slice none 0 0] 44) : Body w1 (.slice (some ⟨w.heap.size, 0, none⟩) 7 7) exS := by
  have hnil : IntsR (fun _ => True) w1 (.slice none 0 0) [] := ⟨none, 0, rfl, by simp, .inl rfl⟩
  refine ⟨_, _, rfl, by simp [exS], .inr ⟨_, _, rfl, trivial, fun i hi => ?_⟩⟩
  have hi' : i < 7 := hi
  match i, hi' with
  | 0, _ => exact ⟨hn.blk.cell rfl, hn.blk.cell rfl, hn.blk.cell rfl, hn.blk.cell rfl, hn.blk.cell rfl, hn.blk.cell rfl, hn.blk.cell rfl, ⟨_, hn.blk.cell rfl, hnil⟩, ⟨_, hn.blk.cell rfl, hnil⟩, by unfold R64; exact ⟨by decide, by decide⟩, by unfold R64; exact ⟨by decide, by decide⟩⟩
  | 1, _ => exact ⟨hn.blk.cell rfl, hn.blk.cell rfl, hn.blk.cell rfl, hn.blk.cell rfl, hn.blk.cell rfl, hn.blk.cell rfl, hn.blk.cell rfl, ⟨_, hn.blk.cell rfl, hnil⟩, ⟨_, hn.blk.cell rfl, hnil⟩, by unfold R64; exact ⟨by decide, by decide⟩, by unfold R64; exact ⟨by decide, by decide⟩⟩
  | 2, _ => exact ⟨hn.blk.cell rfl, hn.blk.cell rfl, hn.blk.cell rfl, hn.blk.cell rfl, hn.blk.cell rfl, hn.blk.cell rfl, hn.blk.cell rfl, ⟨_, hn.blk.cell rfl, hnil⟩, ⟨_, hn.blk.cell rfl, hnil⟩, by unfold R64; exact ⟨by decide, by decide⟩, by unfold R64; exact ⟨by decide, by decide⟩⟩
  | 3, _ => exact ⟨hn.blk.cell rfl, hn.blk.cell rfl, hn.blk.cell rfl, hn.blk.cell rfl, hn.blk.cell rfl, hn.blk.cell rfl, hn.blk.cell rfl, ⟨_, hn.blk.cell rfl, hnil⟩, ⟨_, hn.blk.cell rfl, hnil⟩, by unfold R64; exact ⟨by decide, by decide⟩, by unfold R64; exact ⟨by decide, by decide⟩⟩
  | 4, _ => exact ⟨hn.blk.cell rfl, hn.blk.cell rfl, hn.blk.cell rfl, hn.blk.cell rfl, hn.blk.cell rfl, hn.blk.cell rfl, hn.blk.cell rfl, ⟨_, hn.blk.cell rfl, hnil⟩, ⟨_, hn.blk.cell rfl, hnil⟩, by unfold R64; exact ⟨by decide, by decide⟩, by unfold R64; exact ⟨by decide, by decide⟩⟩
  | 5, _ => exact ⟨hn.blk.cell rfl, hn.blk.cell rfl, hn.blk.cell rfl, hn.blk.cell rfl, hn.blk.cell rfl, hn.blk.cell rfl, hn.blk.cell rfl, ⟨_, hn.blk.cell rfl, hnil⟩, ⟨_, hn.blk.cell rfl, hnil⟩, by unfold R64; exact ⟨by decide, by decide⟩, by unfold R64; exact ⟨by decide, by decide⟩⟩
  | 6, _ => exact ⟨hn.blk.cell rfl, hn.blk.cell rfl, hn.blk.cell rfl, hn.blk.cell rfl, hn.blk.cell rfl, hn.blk.cell rfl, hn.blk.cell rfl, ⟨_, hn.blk.cell rfl, hnil⟩, ⟨_, hn.blk.cell rfl, hnil⟩, by unfold R64; exact ⟨by decide, by decide⟩, by unfold R64; exact ⟨by decide, by decide⟩⟩

set_option maxRecDepth 100000 in
theorem law_alive (w : World) : Calls G.P 9 #[] w fun e w' => e = .returned (.bool true) ∧ Ext w w' := by
  refine enter (G := G) Try.func9 rfl Try.ntmps9 rfl ?_
  refine wgo ?_
  refine Ops.y (Yl.build (v := .agg #[.int .i64 65, .int .i64 0, .int .i64 0, .int .u64 0, .int .i64 0, .int .i64 0, .int .i64 0, .slice none 0 0, .slice none 0 0]) rfl (fun _ => by kernel_rfl)) rfl ?_
  refine Ops.y (Yl.build (v := .agg #[.int .i64 4, .int .i64 0, .int .i64 0, .int .u64 0, .int .i64 0, .int .i64 0, .int .i64 0, .slice none 0 0, .slice none 0 0]) rfl (fun _ => by kernel_rfl)) rfl ?_
  refine Ops.y (Yl.build (v := .agg #[.int .i64 1, .int .i64 0, .int .i64 0, .int .u64 0, .int .i64 0, .int .i64 0, .int .i64 0, .slice none 0 0, .slice none 0 0]) rfl (fun _ => by kernel_rfl)) rfl ?_
  refine Ops.y (Yl.build (v := .agg #[.int .i64 5, .int .i64 0, .int .i64 0, .int .u64 0, .int .i64 0, .int .i64 0, .int .i64 0, .slice none 0 0, .slice none 0 0]) rfl (fun _ => by kernel_rfl)) rfl ?_
  refine Ops.y (Yl.build (v := .agg #[.int .i64 1, .int .i64 0, .int .i64 0, .int .u64 0, .int .i64 0, .int .i64 0, .int .i64 0, .slice none 0 0, .slice none 0 0]) rfl (fun _ => by kernel_rfl)) rfl ?_
  refine Ops.y (Yl.build (v := .agg #[.int .i64 11, .int .i64 0, .int .i64 0, .int .u64 0, .int .i64 0, .int .i64 0, .int .i64 0, .slice none 0 0, .slice none 0 0]) rfl (fun _ => by kernel_rfl)) rfl ?_
  refine Ops.y (Yl.build (v := .agg #[.int .i64 11, .int .i64 0, .int .i64 0, .int .u64 0, .int .i64 0, .int .i64 0, .int .i64 0, .slice none 0 0, .slice none 0 0]) rfl (fun _ => by kernel_rfl)) rfl ?_
  refine Ops.e (Eff.buildSlice (cs := [.int .i64 65, .int .i64 0, .int .i64 0, .int .u64 0, .int .i64 0, .int .i64 0, .int .i64 0, .slice none 0 0, .slice none 0 0, .int .i64 4, .int .i64 0, .int .i64 0, .int .u64 0, .int .i64 0, .int .i64 0, .int .i64 0, .slice none 0 0, .slice none 0 0, .int .i64 1, .int .i64 0, .int .i64 0, .int .u64 0, .int .i64 0, .int .i64 0, .int .i64 0, .slice none 0 0, .slice none 0 0, .int .i64 5, .int .i64 0, .int .i64 0, .int .u64 0, .int .i64 0, .int .i64 0, .int .i64 0, .slice none 0 0, .slice none 0 0, .int .i64 1, .int .i64 0, .int .i64 0, .int .u64 0, .int .i64 0, .int .i64 0, .int .i64 0, .slice none 0 0, .slice none 0 0, .int .i64 11, .int .i64 0, .int .i64 0, .int .u64 0, .int .i64 0, .int .i64 0, .int .i64 0, .slice none 0 0, .slice none 0 0, .int .i64 11, .int .i64 0, .int .i64 0, .int .u64 0, .int .i64 0, .int .i64 0, .int .i64 0, .slice none 0 0, .slice none 0 0]) (e := 44) rfl (by kernel_rfl)) rfl ?_
  rintro _ w1 ⟨rfl, hn1⟩
  have hbody := ex_body hn1
  refine Ops.call rfl rfl rfl (cfg_Of exS _ w1 hbody (by simp [exS]) (by decide)) ?_
  rintro _ w2 (⟨h, _⟩ | ⟨_, r, nvs, rfl, hB, hx2⟩)
  · exact absurd ⟨ex_check, ex_bad⟩ h
  refine ⟨_, rfl, ?_⟩
  rw [ex_blocks] at hB
  obtain ⟨p, cap, rfl, -⟩ := hB.slice
  obtain ⟨b, off, rfl, -, hI⟩ := hB.at (i := 0) (by decide)
  have hBT : BlocksN (fun _ => True) w2 (.slice (some ⟨b, off, none⟩) exB.length cap) exB nvs := by
    obtain ⟨a1, a2, a3, a4, a5, a6, a7⟩ := hB
    refine ⟨a1, a2, a3, a4, a5, fun j hj => (a6 j hj).mono (fun _ _ _ => trivial), ?_⟩
    rcases a7 with a7 | ⟨c1, c2, c3, _, c5⟩
    · exact .inl a7
    · exact .inr ⟨c1, c2, c3, trivial, c5⟩
  have h0 := hI 0 (by decide)
  have h1 := hI 1 (by decide)
  have h4 := hI 4 (by decide)
  have hl : exB.length = 5 := rfl
  rw [hl] at hBT ⊢
  obtain ⟨p0, c0, e0, -⟩ := h0.next.slice
  obtain ⟨p1, c1, e1, -⟩ := h1.next.slice
  obtain ⟨p4, c4, e4, -⟩ := h4.next.slice
  have k0 : w2.cell? ⟨b, off + 0 * 4 + 2, none⟩ = some (.slice p0 2 c0) := by have := h0.nx; rw [e0] at this; exact this
  have k1 : w2.cell? ⟨b, off + 1 * 4 + 2, none⟩ = some (.slice p1 1 c1) := by have := h1.nx; rw [e1] at this; exact this
  have k4 : w2.cell? ⟨b, off + 4 * 4 + 2, none⟩ = some (.slice p4 0 c4) := by have := h4.nx; rw [e4] at this; exact this
  have t0 : w2.cell? ⟨b, off + 0 * 4 + 1, none⟩ = some (.int .i64 2) := h0.to
  have l4 : w2.cell? ⟨b, off + 4 * 4 + 3, none⟩ = some (.bool true) := h4.live
  have hr0 : IntsR (fun _ => True) w2 (.slice p0 2 c0) [1, 2] := by have := h0.next; rw [e0] at this; exact this.mono (fun _ _ _ => trivial)
  have hr1 : IntsR (fun _ => True) w2 (.slice p1 1 c1) [3] := by have := h1.next; rw [e1] at this; exact this.mono (fun _ _ _ => trivial)
  refine wgo ?_
  refine Ops.y (Yl.idx rfl rfl rfl rfl rfl (i := 0) rfl (by omega)) rfl ?_
  refine wgo ?_
  refine Ops.e (Eff.buildSlice (cs := [.int .i64 1, .int .i64 2]) (e := 3) rfl (by kernel_rfl)) rfl ?_
  rintro _ w3 ⟨rfl, hn3⟩
  have hx3 : Ext w2 w3 := hn3.ext
  refine Ops.call rfl rfl rfl (ref_Ints [1, 2] [1, 2] _ _ w3 (hr0.chg hx3 (fun _ _ _ h => h)) (((OwnI.ofNew (xs := [1, 2]) (base := 0) hn3 rfl (by omega) (by simp [maxLen])).reads (by simp)).mono (fun _ _ _ => trivial))) ?_
  rintro _ _ ⟨rfl, q, rfl⟩
  refine ⟨_, rfl, ?_⟩
  rw [show decide (([1, 2] : List Int) = [1, 2]) = true by decide]
  have hx4 : Ext w2 (w3.drewN q) := Chg.drewN hx3 q
  generalize w3.drewN q = w4 at *
  have t0' := hx4.cell t0
  have k1' := hx4.cell k1
  refine wgo ?_
  refine Ops.yg rfl (Yl.idx rfl rfl rfl rfl rfl (i := 0) rfl (by omega)) rfl ?_
  refine wgo ?_
  refine Ops.yg rfl (Yl.idx rfl rfl rfl rfl rfl (i := 1) rfl (by omega)) rfl ?_
  refine wgo ?_
  refine Ops.eg rfl (Eff.buildSlice (cs := [.int .i64 3]) (e := 3) rfl (by kernel_rfl)) rfl ?_
  rintro _ w5 ⟨rfl, hn5⟩
  have hx5 : Ext w2 w5 := hx4.trans hn5.ext
  refine Ops.callg rfl rfl rfl rfl (ref_Ints [3] [3] _ _ w5 (hr1.chg hx5 (fun _ _ _ h => h)) (((OwnI.ofNew (xs := [3]) (base := 0) hn5 rfl (by omega) (by simp [maxLen])).reads (by simp)).mono (fun _ _ _ => trivial))) ?_
  rintro _ _ ⟨rfl, q2, rfl⟩
  refine ⟨_, rfl, ?_⟩
  rw [show decide (([3] : List Int) = [3]) = true by decide]
  have hx6 : Ext w2 (w5.drewN q2) := Chg.drewN hx5 q2
  generalize w5.drewN q2 = w6 at *
  have l4' := hx6.cell l4
  have k4' := hx6.cell k4
  refine wgo ?_
  refine Ops.yg rfl (Yl.idx rfl rfl rfl rfl rfl (i := 4) rfl (by omega)) rfl ?_
  refine wgo ?_
  refine Ops.yg rfl (Yl.idx rfl rfl rfl rfl rfl (i := 4) rfl (by omega)) rfl ?_
  refine wgo ?_
  refine Ops.callg rfl rfl rfl rfl (cfg_At exB nvs _ 3 w6 (hBT.chg hx6 (fun _ _ _ h => h))) ?_
  rintro _ w7 ⟨rfl, hx7⟩
  refine ⟨_, rfl, ?_⟩
  rw [ex_at]
  refine wgo ?_
  exact Fin.ret1 rfl rfl ⟨rfl, ((hn1.ext.trans hx2).trans hx6).trans hx7⟩
end Go.Proofs.Ytfeakkicihlplaa
