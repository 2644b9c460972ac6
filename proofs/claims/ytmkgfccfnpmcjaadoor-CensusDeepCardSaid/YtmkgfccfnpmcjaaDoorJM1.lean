/- Counters: census.plus, Add; ref57.Add. -/
import Derived.Test.YtmkgfccfnpmcjaaDoorJH7
import Derived.Test.YtmkgfccfnpmcjaaDoorJB3
namespace Go.Proofs.YtmkgfccfnpmcjaaDoor
open Go.RowKit
set_option maxRecDepth 100000

/-- the counters of a module -/
structure Cen where
  funcs : Int
  instrs : Int
  blocks : Int
  loops : Int
  calls : Int
  loads : Int
  stores : Int
  consts : Int
  deriving Inhabited, DecidableEq
def cenC (c : Cen) : List Value := [.int .i64 c.funcs, .int .i64 c.instrs, .int .i64 c.blocks, .int .i64 c.loops, .int .i64 c.calls, .int .i64 c.loads, .int .i64 c.stores, .int .i64 c.consts]
abbrev wr64 (n : Int) : Int := IntKind.i64.wrap n
/-- field by field -/
def addC (a b : Cen) : Cen := ⟨wr64 (a.funcs + b.funcs), wr64 (a.instrs + b.instrs), wr64 (a.blocks + b.blocks), wr64 (a.loops + b.loops), wr64 (a.calls + b.calls), wr64 (a.loads + b.loads), wr64 (a.stores + b.stores), wr64 (a.consts + b.consts)⟩

theorem census_plus (a b : Int) (w : World) : Calls G.P 25 #[.int .i64 a, .int .i64 b] w fun e w' => e = .returned (.int .i64 (wr64 (a + b))) ∧ w = w' := by
  refine enter (G := G) Tryd.func25 rfl Tryd.ntmps25 rfl ?_
  refine wgx ?_
  refine Ops.y (Yl.addw rfl rfl) rfl ?_
  refine wgx ?_
  exact Fin.ret1 rfl rfl ⟨rfl, rfl⟩
theorem census_plus_C (a b : Int) {w0 : World} : ∀ w, (∃ k, w = w0.drewN k) → Calls G.P 25 #[.int .i64 a, .int .i64 b] w (fun e w' => e = .returned (.int .i64 (wr64 (a + b))) ∧ ∃ k, w' = w0.drewN k) := by
  rintro _ ⟨k, rfl⟩
  refine (census_plus a b _).mono ?_
  rintro _ _ ⟨rfl, rfl⟩
  exact ⟨rfl, k, rfl⟩

set_option maxHeartbeats 4000000 in
theorem census_Add (a b : Cen) (w : World) : Calls G.P 11 #[.agg (cenC a).toArray, .agg (cenC b).toArray] w fun e w' => e = .returned (.agg (cenC (addC a b)).toArray) ∧ Ext w w' := by
  refine enter (G := G) Tryd.func11 rfl Tryd.ntmps11 rfl ?_
  refine wgx ?_
  refine Ops.e (Eff.box (cs := cenC a) rfl rfl) rfl ?_
  rintro _ w1 ⟨rfl, hn1⟩
  refine Ops.e (Eff.box (cs := cenC b) rfl rfl) rfl ?_
  rintro _ w2 ⟨rfl, hn2⟩
  refine Ops.e (Eff.alloc rfl) rfl ?_
  rintro _ w3 ⟨rfl, hn3⟩
  have ba := (hn1.blk.chg hn2.ext id).chg hn3.ext id
  have bb := hn2.blk.chg hn3.ext id
  have bc := hn3.blk
  have hx3 : Ext w w3 := (hn1.ext.trans hn2.ext).trans hn3.ext
  have hs1 := hn1.size
  have hs2 := hn2.size
  have a0 : w3.cell? ⟨w.heap.size, 0, none⟩ = some (.int .i64 a.funcs) := ba.cell rfl
  have b0 : w3.cell? ⟨w1.heap.size, 0, none⟩ = some (.int .i64 b.funcs) := bb.cell rfl
  have a1 : w3.cell? ⟨w.heap.size, 0 + 1, none⟩ = some (.int .i64 a.instrs) := ba.cell rfl
  have b1 : w3.cell? ⟨w1.heap.size, 0 + 1, none⟩ = some (.int .i64 b.instrs) := bb.cell rfl
  have a2 : w3.cell? ⟨w.heap.size, 0 + 2, none⟩ = some (.int .i64 a.blocks) := ba.cell rfl
  have b2 : w3.cell? ⟨w1.heap.size, 0 + 2, none⟩ = some (.int .i64 b.blocks) := bb.cell rfl
  have a3 : w3.cell? ⟨w.heap.size, 0 + 3, none⟩ = some (.int .i64 a.loops) := ba.cell rfl
  have b3 : w3.cell? ⟨w1.heap.size, 0 + 3, none⟩ = some (.int .i64 b.loops) := bb.cell rfl
  have a4 : w3.cell? ⟨w.heap.size, 0 + 4, none⟩ = some (.int .i64 a.calls) := ba.cell rfl
  have b4 : w3.cell? ⟨w1.heap.size, 0 + 4, none⟩ = some (.int .i64 b.calls) := bb.cell rfl
  have a5 : w3.cell? ⟨w.heap.size, 0 + 5, none⟩ = some (.int .i64 a.loads) := ba.cell rfl
  have b5 : w3.cell? ⟨w1.heap.size, 0 + 5, none⟩ = some (.int .i64 b.loads) := bb.cell rfl
  have a6 : w3.cell? ⟨w.heap.size, 0 + 6, none⟩ = some (.int .i64 a.stores) := ba.cell rfl
  have b6 : w3.cell? ⟨w1.heap.size, 0 + 6, none⟩ = some (.int .i64 b.stores) := bb.cell rfl
  have a7 : w3.cell? ⟨w.heap.size, 0 + 7, none⟩ = some (.int .i64 a.consts) := ba.cell rfl
  have b7 : w3.cell? ⟨w1.heap.size, 0 + 7, none⟩ = some (.int .i64 b.consts) := bb.cell rfl
  refine wgx ?_
  refine Cd.regionS [0, 1, 2, 3, 5, 6, 7, 8, 10, 11, 12, 13, 15, 16, 17, 18, 20, 21, 22, 23, 25, 26, 27, 28, 30, 31, 32, 33, 35, 36, 37, 38, 4, 9, 14, 19, 24, 29, 34, 39, 40] 41 (fun w' => Ext w3 w') (by kernel_rfl) ((Chg.refl _ w3).drew) ?_
  refine wgx ?_
  refine Ops.callM rfl rfl rfl (census_plus _ _ _) ?_
  rintro _ _ ⟨rfl, rfl⟩
  refine ⟨_, rfl, (Chg.refl _ w3).drew, ?_⟩
  refine wgx ?_
  refine Ops.callM rfl rfl rfl (census_plus _ _ _) ?_
  rintro _ _ ⟨rfl, rfl⟩
  refine ⟨_, rfl, (Chg.refl _ w3).drew, ?_⟩
  refine wgx ?_
  refine Ops.callM rfl rfl rfl (census_plus _ _ _) ?_
  rintro _ _ ⟨rfl, rfl⟩
  refine ⟨_, rfl, (Chg.refl _ w3).drew, ?_⟩
  refine wgx ?_
  refine Ops.callM rfl rfl rfl (census_plus _ _ _) ?_
  rintro _ _ ⟨rfl, rfl⟩
  refine ⟨_, rfl, (Chg.refl _ w3).drew, ?_⟩
  refine wgx ?_
  refine Ops.callM rfl rfl rfl (census_plus _ _ _) ?_
  rintro _ _ ⟨rfl, rfl⟩
  refine ⟨_, rfl, (Chg.refl _ w3).drew, ?_⟩
  refine wgx ?_
  refine Ops.callM rfl rfl rfl (census_plus _ _ _) ?_
  rintro _ _ ⟨rfl, rfl⟩
  refine ⟨_, rfl, (Chg.refl _ w3).drew, ?_⟩
  refine wgx ?_
  refine Ops.callM rfl rfl rfl (census_plus _ _ _) ?_
  rintro _ _ ⟨rfl, rfl⟩
  refine ⟨_, rfl, (Chg.refl _ w3).drew, ?_⟩
  refine wgx ?_
  refine Ops.callM rfl rfl rfl (census_plus _ _ _) ?_
  rintro _ _ ⟨rfl, rfl⟩
  refine ⟨_, rfl, (Chg.refl _ w3).drew, ?_⟩
  refine wgx ?_
  refine Ops.mz0 (Eff.storeB (ti := ti62) (cs := cenC (addC a b)) rfl rfl rfl rfl rfl (by simp [cenC, Value.oneCell']) (bc.chg ((Chg.refl _ w3).drew : Ext w3 w3.drew) id) rfl) rfl ?_
  rintro _ wD ⟨hbD, hcD, -⟩
  refine wgx ?_
  exact Fin.ret1c (.inl rfl) rfl rfl rfl rfl rfl hbD rfl ⟨rfl, Chg.trans' (Chg.drew hx3) hcD (fun k hk e => by omega)⟩

end Go.Proofs.YtmkgfccfnpmcjaaDoor
/- census.one: the counters of one instruction. -/
namespace Go.Proofs.YtmkgfccfnpmcjaaDoor
open Go.RowKit
set_option maxRecDepth 100000

def loadO (op : Int) : Bool := decide (0 < widthO op) && !((sigO op).getD ⟨[], []⟩).results.isEmpty
def storO (op : Int) : Bool := decide (0 < widthO op) && ((sigO op).getD ⟨[], []⟩).results.isEmpty
def b01 (b : Bool) : Int := if b then 1 else 0
def oneC (op : Int) : Cen := ⟨0, 1, 0, b01 (op == 3), b01 (op == 16 || op == 17), b01 (loadO op), b01 (storO op), b01 (op == 65 || op == 66)⟩
theorem width_few : widthO 3 = 0 ∧ widthO 16 = 0 ∧ widthO 17 = 0 ∧ widthO 65 = 0 ∧ widthO 66 = 0 := by decide +kernel

theorem Blk.all {w : World} {b : Nat} {cs : List Value} {T : TypeId} (h : Blk w b cs T) {n : Nat} (hn : cs.length = n) : ∀ w', w' = w → ∀ j, j < n → w'.cell? ⟨b, 0 + j, none⟩ = cs[j]? := by
  rintro _ rfl j hj
  rw [Nat.zero_add, List.getElem?_eq_getElem (by omega)]
  exact h.cell (List.getElem?_eq_getElem (by omega))

set_option maxHeartbeats 4000000 in
theorem census_one (op : Int) (w : World) (h0 : Env0 w) : Calls G.P 12 #[.int .i64 op] w fun e w' => e = .returned (.agg (cenC (oneC op)).toArray) ∧ Ext w w' := by
  obtain ⟨z1, z2, z3, z4, z5⟩ := width_few
  refine enter (G := G) Tryd.func12 rfl Tryd.ntmps12 rfl ?_
  refine wgx ?_
  refine Ops.e (Eff.alloc rfl) rfl ?_
  rintro _ w1 ⟨rfl, hn1⟩
  refine wgx ?_
  refine Ops.e (Eff.alloc rfl) rfl ?_
  rintro _ w2 ⟨rfl, hn2⟩
  refine Ops.e0 (Eff.storeB (ti := ti62) (cs := cenC ⟨0, 1, 0, 0, 0, 0, 0, 0⟩) rfl rfl rfl rfl rfl (by simp [cenC, Value.oneCell']) hn2.blk rfl) ?_
  rintro _ w3 ⟨hb3, hc3, hz3⟩
  have hs1 := hn1.size
  have hs2 := hn2.size
  have hx3 : Ext w w3 := Chg.trans' (hn1.ext.trans hn2.ext) hc3 (fun k hk e => by omega)
  have hr3 : Blk w3 w.heap.size _ _ := (hn1.blk.chg hn2.ext id).chg hc3 (by omega)
  generalize w1.heap.size = b2 at *
  generalize hgb : w.heap.size = b1 at *
  rcases (show op = 3 ∨ op = 16 ∨ op = 17 ∨ op = 65 ∨ op = 66 ∨ (op ≠ 3 ∧ op ≠ 16 ∧ op ≠ 17 ∧ op ≠ 65 ∧ op ≠ 66) from by omega) with hc_ | hc_ | hc_ | hc_ | hc_ | ⟨hc3_, hc16_, hc17_, hc65_, hc66_⟩
  · have hone : oneC op = ⟨0, 1, 0, 1, 0, 0, 0, 0⟩ := by rw [hc_]; simp [oneC, loadO, storO, b01, z1]
    refine wgx ?_
    refine Ops.e0 (Eff.storeW (ti := ti3) rfl rfl rfl rfl rfl hb3 (by simp [cenC])) ?_
    rintro _ w4 ⟨hb4, hc4, hz4⟩
    have hx4 : Ext w w4 := Chg.trans' hx3 hc4 (fun k hk e => by omega)
    have hr4 := hr3.chg hc4 (by omega)
    refine wgx ?_
    refine Ops.call rfl rfl rfl (opcode_Width op w4 (h0.ext hx4)) ?_
    rintro _ w5 ⟨rfl, hx5⟩
    refine ⟨_, rfl, ?_⟩
    have hzw : widthO op = 0 := by rw [hc_]; exact z1
    refine wgx ?_
    refine Ops.y (Yl.loadA (cs := cenC ⟨0, 1, 0, 1, 0, 0, 0, 0⟩) rfl rfl rfl rfl rfl (Blk.all (hb4.chg hx5 id) rfl)) rfl ?_
    refine Ops.e0 (Eff.storeB (ti := ti62) (cs := cenC ⟨0, 1, 0, 1, 0, 0, 0, 0⟩) rfl rfl rfl rfl rfl (by simp [cenC, Value.oneCell']) (hr4.chg hx5 id) rfl) ?_
    rintro _ wD ⟨hbD, hcD, -⟩
    refine wgx ?_
    refine Fin.ret1c (.inl rfl) rfl rfl rfl rfl rfl hbD rfl ⟨?_, Chg.trans' (hx4.trans hx5) hcD (fun k hk e => by omega)⟩
    rw [hone]
  · have hone : oneC op = ⟨0, 1, 0, 0, 1, 0, 0, 0⟩ := by rw [hc_]; simp [oneC, loadO, storO, b01, z2]
    refine wgx ?_
    refine Ops.e0 (Eff.storeW (ti := ti3) rfl rfl rfl rfl rfl hb3 (by simp [cenC])) ?_
    rintro _ w4 ⟨hb4, hc4, hz4⟩
    have hx4 : Ext w w4 := Chg.trans' hx3 hc4 (fun k hk e => by omega)
    have hr4 := hr3.chg hc4 (by omega)
    refine wgx ?_
    refine Ops.call rfl rfl rfl (opcode_Width op w4 (h0.ext hx4)) ?_
    rintro _ w5 ⟨rfl, hx5⟩
    refine ⟨_, rfl, ?_⟩
    have hzw : widthO op = 0 := by rw [hc_]; exact z2
    refine wgx ?_
    refine Ops.y (Yl.loadA (cs := cenC ⟨0, 1, 0, 0, 1, 0, 0, 0⟩) rfl rfl rfl rfl rfl (Blk.all (hb4.chg hx5 id) rfl)) rfl ?_
    refine Ops.e0 (Eff.storeB (ti := ti62) (cs := cenC ⟨0, 1, 0, 0, 1, 0, 0, 0⟩) rfl rfl rfl rfl rfl (by simp [cenC, Value.oneCell']) (hr4.chg hx5 id) rfl) ?_
    rintro _ wD ⟨hbD, hcD, -⟩
    refine wgx ?_
    refine Fin.ret1c (.inl rfl) rfl rfl rfl rfl rfl hbD rfl ⟨?_, Chg.trans' (hx4.trans hx5) hcD (fun k hk e => by omega)⟩
    rw [hone]
  · have hone : oneC op = ⟨0, 1, 0, 0, 1, 0, 0, 0⟩ := by rw [hc_]; simp [oneC, loadO, storO, b01, z3]
    refine wgx ?_
    refine Ops.e0 (Eff.storeW (ti := ti3) rfl rfl rfl rfl rfl hb3 (by simp [cenC])) ?_
    rintro _ w4 ⟨hb4, hc4, hz4⟩
    have hx4 : Ext w w4 := Chg.trans' hx3 hc4 (fun k hk e => by omega)
    have hr4 := hr3.chg hc4 (by omega)
    refine wgx ?_
    refine Ops.call rfl rfl rfl (opcode_Width op w4 (h0.ext hx4)) ?_
    rintro _ w5 ⟨rfl, hx5⟩
    refine ⟨_, rfl, ?_⟩
    have hzw : widthO op = 0 := by rw [hc_]; exact z3
    refine wgx ?_
    refine Ops.y (Yl.loadA (cs := cenC ⟨0, 1, 0, 0, 1, 0, 0, 0⟩) rfl rfl rfl rfl rfl (Blk.all (hb4.chg hx5 id) rfl)) rfl ?_
    refine Ops.e0 (Eff.storeB (ti := ti62) (cs := cenC ⟨0, 1, 0, 0, 1, 0, 0, 0⟩) rfl rfl rfl rfl rfl (by simp [cenC, Value.oneCell']) (hr4.chg hx5 id) rfl) ?_
    rintro _ wD ⟨hbD, hcD, -⟩
    refine wgx ?_
    refine Fin.ret1c (.inl rfl) rfl rfl rfl rfl rfl hbD rfl ⟨?_, Chg.trans' (hx4.trans hx5) hcD (fun k hk e => by omega)⟩
    rw [hone]
  · have hone : oneC op = ⟨0, 1, 0, 0, 0, 0, 0, 1⟩ := by rw [hc_]; simp [oneC, loadO, storO, b01, z4]
    refine wgx ?_
    refine Ops.e0 (Eff.storeW (ti := ti3) rfl rfl rfl rfl rfl hb3 (by simp [cenC])) ?_
    rintro _ w4 ⟨hb4, hc4, hz4⟩
    have hx4 : Ext w w4 := Chg.trans' hx3 hc4 (fun k hk e => by omega)
    have hr4 := hr3.chg hc4 (by omega)
    refine wgx ?_
    refine Ops.call rfl rfl rfl (opcode_Width op w4 (h0.ext hx4)) ?_
    rintro _ w5 ⟨rfl, hx5⟩
    refine ⟨_, rfl, ?_⟩
    have hzw : widthO op = 0 := by rw [hc_]; exact z4
    refine wgx ?_
    refine Ops.y (Yl.loadA (cs := cenC ⟨0, 1, 0, 0, 0, 0, 0, 1⟩) rfl rfl rfl rfl rfl (Blk.all (hb4.chg hx5 id) rfl)) rfl ?_
    refine Ops.e0 (Eff.storeB (ti := ti62) (cs := cenC ⟨0, 1, 0, 0, 0, 0, 0, 1⟩) rfl rfl rfl rfl rfl (by simp [cenC, Value.oneCell']) (hr4.chg hx5 id) rfl) ?_
    rintro _ wD ⟨hbD, hcD, -⟩
    refine wgx ?_
    refine Fin.ret1c (.inl rfl) rfl rfl rfl rfl rfl hbD rfl ⟨?_, Chg.trans' (hx4.trans hx5) hcD (fun k hk e => by omega)⟩
    rw [hone]
  · have hone : oneC op = ⟨0, 1, 0, 0, 0, 0, 0, 1⟩ := by rw [hc_]; simp [oneC, loadO, storO, b01, z5]
    refine wgx ?_
    refine Ops.e0 (Eff.storeW (ti := ti3) rfl rfl rfl rfl rfl hb3 (by simp [cenC])) ?_
    rintro _ w4 ⟨hb4, hc4, hz4⟩
    have hx4 : Ext w w4 := Chg.trans' hx3 hc4 (fun k hk e => by omega)
    have hr4 := hr3.chg hc4 (by omega)
    refine wgx ?_
    refine Ops.call rfl rfl rfl (opcode_Width op w4 (h0.ext hx4)) ?_
    rintro _ w5 ⟨rfl, hx5⟩
    refine ⟨_, rfl, ?_⟩
    have hzw : widthO op = 0 := by rw [hc_]; exact z5
    refine wgx ?_
    refine Ops.y (Yl.loadA (cs := cenC ⟨0, 1, 0, 0, 0, 0, 0, 1⟩) rfl rfl rfl rfl rfl (Blk.all (hb4.chg hx5 id) rfl)) rfl ?_
    refine Ops.e0 (Eff.storeB (ti := ti62) (cs := cenC ⟨0, 1, 0, 0, 0, 0, 0, 1⟩) rfl rfl rfl rfl rfl (by simp [cenC, Value.oneCell']) (hr4.chg hx5 id) rfl) ?_
    rintro _ wD ⟨hbD, hcD, -⟩
    refine wgx ?_
    refine Fin.ret1c (.inl rfl) rfl rfl rfl rfl rfl hbD rfl ⟨?_, Chg.trans' (hx4.trans hx5) hcD (fun k hk e => by omega)⟩
    rw [hone]
  · refine wgx ?_
    refine Ops.call rfl rfl rfl (opcode_Width op w3 (h0.ext hx3)) ?_
    rintro _ w5 ⟨rfl, hx5⟩
    refine ⟨_, rfl, ?_⟩
    have hcs : b01 (op == 3) = 0 ∧ b01 (op == 16 || op == 17) = 0 ∧ b01 (op == 65 || op == 66) = 0 := by
      simp [b01, hc3_, hc16_, hc17_, hc65_, hc66_]
    by_cases hw : 0 < widthO op
    · refine wgx ?_
      refine Ops.call rfl rfl rfl (opcode_Sig op w5 (h0.ext (hx3.trans hx5))) ?_
      rintro _ w6 ⟨⟨v, rfl, cs, rfl, hv⟩, hx6⟩
      refine ⟨_, rfl, ?_⟩
      obtain ⟨v0, v1, rfl, q0, q1⟩ := hv
      obtain ⟨p0, c0, rfl, -⟩ := q0.slice
      obtain ⟨p1, c1, rfl, -⟩ := q1.slice
      refine wgx ?_
      refine Ops.e (Eff.alloc rfl) rfl ?_
      rintro _ w7 ⟨rfl, hn7⟩
      refine Ops.e0 (Eff.storeB (ti := ti97) (cs := [_, _]) rfl rfl rfl rfl rfl (by simp [Value.oneCell']) hn7.blk rfl) ?_
      rintro _ w8 ⟨hb8, hc8, hz8⟩
      have hx8 : Ext w5 w8 := Chg.trans' (hx6.trans hn7.ext) hc8 (fun k hk e => by have := hx6.size; omega)
      have hlt : w.heap.size ≤ w5.heap.size := (hx3.trans hx5).size
      have c1' : w8.cell? ⟨w6.heap.size, 0 + 1, none⟩ = some _ := hb8.cell rfl
      have hb2l : b2 < w5.heap.size := Nat.lt_of_lt_of_le hb3.lt hx5.size
      cases hres : ((sigO op).getD ⟨[], []⟩).results with
      | nil =>
        have hone : oneC op = ⟨0, 1, 0, 0, 0, 0, 1, 0⟩ := by simp [oneC, loadO, storO, hres, hw, hcs]; simp [b01]
        rw [hres] at c1'
        have hl0 : ([] : List Int).length = 0 := rfl
        refine wgx ?_
        refine Ops.e0 (Eff.storeW (ti := ti3) rfl rfl rfl rfl rfl ((hb3.chg hx5 id).chg hx8 (fun e => e)) (by simp [cenC])) ?_
        rintro _ w9 ⟨hb9, hc9, hz9⟩
        have hx9 : Ext w w9 := Chg.trans' ((hx3.trans hx5).trans hx8) hc9 (fun k hk e => by omega)
        have hr9 := (((hr3.chg hx5 id).chg hx8 (fun e => e)).chg hc9 (by omega))
        refine wgx ?_
        refine Ops.y (Yl.loadA (cs := cenC ⟨0, 1, 0, 0, 0, 0, 1, 0⟩) rfl rfl rfl rfl rfl (Blk.all hb9 rfl)) rfl ?_
        refine Ops.e0 (Eff.storeB (ti := ti62) (cs := cenC ⟨0, 1, 0, 0, 0, 0, 1, 0⟩) rfl rfl rfl rfl rfl (by simp [cenC, Value.oneCell']) hr9 rfl) ?_
        rintro _ wD ⟨hbD, hcD, -⟩
        refine wgx ?_
        refine Fin.ret1c (.inl rfl) rfl rfl rfl rfl rfl hbD rfl ⟨?_, Chg.trans' hx9 hcD (fun k hk e => by omega)⟩
        rw [hone]
      | cons r0 rr =>
        have hone : oneC op = ⟨0, 1, 0, 0, 0, 1, 0, 0⟩ := by simp [oneC, loadO, storO, hres, hw, hcs]; simp [b01]
        rw [hres] at c1'
        have hl1 : (r0 :: rr).length = rr.length + 1 := rfl
        refine wgx ?_
        refine Ops.e0 (Eff.storeW (ti := ti3) rfl rfl rfl rfl rfl ((hb3.chg hx5 id).chg hx8 (fun e => e)) (by simp [cenC])) ?_
        rintro _ w9 ⟨hb9, hc9, hz9⟩
        have hx9 : Ext w w9 := Chg.trans' ((hx3.trans hx5).trans hx8) hc9 (fun k hk e => by omega)
        have hr9 := (((hr3.chg hx5 id).chg hx8 (fun e => e)).chg hc9 (by omega))
        refine wgx ?_
        refine Ops.y (Yl.loadA (cs := cenC ⟨0, 1, 0, 0, 0, 1, 0, 0⟩) rfl rfl rfl rfl rfl (Blk.all hb9 rfl)) rfl ?_
        refine Ops.e0 (Eff.storeB (ti := ti62) (cs := cenC ⟨0, 1, 0, 0, 0, 1, 0, 0⟩) rfl rfl rfl rfl rfl (by simp [cenC, Value.oneCell']) hr9 rfl) ?_
        rintro _ wD ⟨hbD, hcD, -⟩
        refine wgx ?_
        refine Fin.ret1c (.inl rfl) rfl rfl rfl rfl rfl hbD rfl ⟨?_, Chg.trans' hx9 hcD (fun k hk e => by omega)⟩
        rw [hone]
    · have hone : oneC op = ⟨0, 1, 0, 0, 0, 0, 0, 0⟩ := by simp [oneC, loadO, storO, hw, hcs]; simp [b01]
      refine wgx ?_
      refine Ops.y (Yl.loadA (cs := cenC ⟨0, 1, 0, 0, 0, 0, 0, 0⟩) rfl rfl rfl rfl rfl (Blk.all (hb3.chg hx5 id) rfl)) rfl ?_
      refine Ops.e0 (Eff.storeB (ti := ti62) (cs := cenC ⟨0, 1, 0, 0, 0, 0, 0, 0⟩) rfl rfl rfl rfl rfl (by simp [cenC, Value.oneCell']) (hr3.chg hx5 id) rfl) ?_
      rintro _ wD ⟨hbD, hcD, -⟩
      refine wgx ?_
      refine Fin.ret1c (.inl rfl) rfl rfl rfl rfl rfl hbD rfl ⟨?_, Chg.trans' (hx3.trans hx5) hcD (fun k hk e => by omega)⟩
      rw [hone]
end Go.Proofs.YtmkgfccfnpmcjaaDoor
/- Modules read; ref08.Imported; law07.rows, Light and law57.light, as far as the laws need them. -/
namespace Go.Proofs.YtmkgfccfnpmcjaaDoor
open Go.RowKit
set_option maxRecDepth 100000

theorem SlR.el {α : Type} [Inhabited α] {s N : Nat} {R : ElR α} {F : Nat → Prop} {w : World} {p : Option Addr} {n cap : Nat} {xs : List α} (h : SlR s N R F w (.slice p n cap) xs) {i : Nat} (hi : i < xs.length) : ∃ b off, p = some ⟨b, off, none⟩ ∧ F b ∧ R F w b (off + i * s) (ix xs i) := by
  obtain ⟨b, off, e, hF, hall⟩ := h.at hi
  exact ⟨b, off, e, hF, hall i hi⟩
/-- how many of the first n imports are of kind k -/
def impC (l : List ApiImport) (k : Int) (n : Nat) : Nat := ((l.take n).filter fun x => decide (x.kind = k)).length
def impN (m : ApiModule) (k : Int) : Nat := impC m.imports k m.imports.length
theorem impC_succ {l : List ApiImport} {k : Int} {n : Nat} (h : n < l.length) : impC l k (n + 1) = impC l k n + if (ix l n).kind = k then 1 else 0 := by
  unfold impC
  rw [take_succ_ix h, List.filter_append, List.length_append]
  by_cases e : (ix l n).kind = k <;> simp [e]
theorem impC_le (l : List ApiImport) (k : Int) (n : Nat) : impC l k n ≤ n := by
  unfold impC
  exact Nat.le_trans (List.length_filter_le _ _) (by rw [List.length_take]; omega)
abbrev TMod : Nat := 35

set_option maxHeartbeats 8000000 in
theorem ref08_Imported (F : Nat → Prop) (m : ApiModule) (k : Int) (cs : List Value) (w : World) (hm : ApiModuleV F w cs m) :
    Calls G.P 5 #[.agg cs.toArray, .int .i64 k] w fun e w' => e = .returned (.int .i64 (impN m k)) ∧ Ext w w' := by
  obtain ⟨v0, v1, v2, v3, v4, v5, v6, v7, v8, v9, rfl, r0, r1, r2, r3, r4, r5, r6, r7, r8, r9, g0⟩ := hm
  obtain ⟨p1, c1, rfl, l1⟩ := r1.slice
  refine enterH (l := [.agg ([v0, .slice p1 m.imports.length c1, v2, v3, v4, v5, v6, .bool m.hasStart, .int .i64 m.start, v7, v8, v9]).toArray, .int .i64 k]) Tryd.func5 rfl Tryd.ntmps5 rfl (Ok.start w) ?_
  refine wgh ?_
  refine OpsH.box [v0, .slice p1 m.imports.length c1, v2, v3, v4, v5, v6, .bool m.hasStart, .int .i64 m.start, v7, v8, v9] rfl rfl rfl fun b => ?_
  refine wgh ?_
  refine CdH.loop (σ := Nat) (fun i => [(1, .int .i64 k), (2, .pointer (some ⟨b, 0, none⟩)), (5, .int .i64 (impC m.imports k i)), (6, .int .i64 i)]) (fun _ => [.blk b [v0, .slice p1 m.imports.length c1, v2, v3, v4, v5, v6, .bool m.hasStart, .int .i64 m.start, v7, v8, v9] TMod]) (fun _ => [Ext w]) (fun i => i ≤ m.imports.length) (fun i => m.imports.length - i) 0 wsub wsl wsr (by omega) ?_
  intro i hi
  by_cases hlt : i < m.imports.length
  · obtain ⟨b1, o1, rfl, hF, he⟩ := r1.el hlt
    have c := he.kind
    have hs := impC_succ (k := k) hlt
    have hle := impC_le m.imports k i
    by_cases hk : (ix m.imports i).kind = k
    · rw [if_pos hk] at hs
      refine wgh ?_
      exact FinH.next (i + 1) wsub wsl wsr (by omega) (by omega)
    · rw [if_neg hk] at hs
      refine wgh ?_
      exact FinH.next (i + 1) wsub wsl wsr (by omega) (by omega)
  · obtain rfl : i = m.imports.length := by omega
    refine wgh ?_
    exact FinH.ret1 rfl rfl fun w' hw' => ⟨rfl, hw'.at⟩
end Go.Proofs.YtmkgfccfnpmcjaaDoor
