/- ref05.Plain: more kinds of immediates. Printed by gen_gq.py. -/
import Derived.Test.YtgbgnipidakdhaaGreatDoorJGq
namespace Go.Proofs.YtgbgnipidakdhaaGreatDoor
open Go.RowKit
set_option maxRecDepth 100000
attribute [local irreducible] indexK valK blockK
theorem qr6q {g g' : Prop} (h : g') (hw : Hold g' → g := by (intro hk_; (first | (refine OpsH.isBin ?_; refine OpsH.yg (by first | rfl | exact gdT rfl wrdq | exact gdF rfl wrdq) (Yl.neqBl rfl rfl) rfl ?_) | (refine OpsH.isCall (f := 86) ?_; refine OpsH.call1 rfl rfl rfl (fun w' hw' => ho w' hw'.at) ?_) | (refine OpsH.isCall (f := 87) ?_; refine OpsH.call1 rfl rfl rfl (fun w' hw' => hk w' hw'.at) ?_) | (refine OpsH.isCall (f := 89) ?_; refine OpsH.call1 rfl rfl rfl (fun w' hw' => ref05_index _ w') ?_) | (refine OpsH.isCallG (f := 89) ?_; refine OpsH.call1g wgd rfl rfl rfl (fun w' hw' => ref05_index _ w') ?_) | (refine OpsH.isCallG (f := 91) ?_; refine OpsH.call1g wgd rfl rfl rfl (fun w' hw' => ref05_val _ w') ?_) | (refine OpsH.isCallG (f := 88) ?_; refine OpsH.call1g wgd rfl rfl rfl (fun w' hw' => ref05_block _ _ _ w') ?_) | (refine OpsH.isCallG (f := 90) ?_; refine OpsH.call1g wgd rfl rfl rfl (fun w' hw' => hl w' hw'.at) ?_)); exact hk_.out)) : g := hw ⟨h⟩
set_option maxHeartbeats 16000000 in
theorem ref05_Plain_4 (op a b n kind val index t0 : Int) (nt nl : Nat) (pt pl : Option Addr) (ct cl : Nat) (lal : Bool) (w : World)
    (_hl : ∀ w', Ext w w' → Calls G.P 90 #[.slice pl nl cl] w' fun e w2 => e = .returned (.bool lal) ∧ Ext w' w2)
    (hk : ∀ w', Ext w w' → Calls G.P 87 #[.int .i64 op] w' fun e w2 => e = .returned (.bool true) ∧ Ext w' w2) (ho : ∀ w', Ext w w' → Calls G.P 86 #[.int .i64 op] w' fun e w2 => e = .returned (.int .i64 4) ∧ Ext w' w2) :
    Calls G.P 40 #[.agg #[Value.int .i64 op, Value.int .i64 a, Value.int .i64 b, Value.int .u64 n, Value.int .i64 kind, Value.int .i64 val, Value.int .i64 index, Value.slice pt nt ct, Value.slice pl nl cl]] w fun e w' => e = .returned (.bool (plainC true 4 a b n kind val index nt nl t0 lal)) ∧ Ext w w' := by
  refine enterH (l := [_]) Tryz.func40 rfl Tryz.ntmps40 rfl (Ok.start w) ?_
  repeat' (first | refine wav ?_ | (refine qbxq fun b_ => ?_) | refine qr6q ?_ | (refine wspv ?_ ?_ <;> (intro hc_; try subst hc_)))
  all_goals first | (exfalso; omega) | exact FinH.ret1 rfl rfl fun w' hw' => ⟨by clear hw' _hl hk ho; first | (simp_all [plainC]; done) | (simp_all [plainC] <;> (intros; omega)), hw'.at⟩
set_option maxHeartbeats 16000000 in
theorem ref05_Plain_5 (op a b n kind val index t0 : Int) (nt nl : Nat) (pt pl : Option Addr) (ct cl : Nat) (lal : Bool) (w : World)
    (_hl : ∀ w', Ext w w' → Calls G.P 90 #[.slice pl nl cl] w' fun e w2 => e = .returned (.bool lal) ∧ Ext w' w2)
    (hk : ∀ w', Ext w w' → Calls G.P 87 #[.int .i64 op] w' fun e w2 => e = .returned (.bool true) ∧ Ext w' w2) (ho : ∀ w', Ext w w' → Calls G.P 86 #[.int .i64 op] w' fun e w2 => e = .returned (.int .i64 5) ∧ Ext w' w2) :
    Calls G.P 40 #[.agg #[Value.int .i64 op, Value.int .i64 a, Value.int .i64 b, Value.int .u64 n, Value.int .i64 kind, Value.int .i64 val, Value.int .i64 index, Value.slice pt nt ct, Value.slice pl nl cl]] w fun e w' => e = .returned (.bool (plainC true 5 a b n kind val index nt nl t0 lal)) ∧ Ext w w' := by
  refine enterH (l := [_]) Tryz.func40 rfl Tryz.ntmps40 rfl (Ok.start w) ?_
  repeat' (first | refine wav ?_ | (refine qbxq fun b_ => ?_) | refine qr6q ?_ | (refine wspv ?_ ?_ <;> (intro hc_; try subst hc_)))
  all_goals first | (exfalso; omega) | exact FinH.ret1 rfl rfl fun w' hw' => ⟨by clear hw' _hl hk ho; first | (simp_all [plainC]; done) | (simp_all [plainC] <;> (intros; omega)), hw'.at⟩
set_option maxHeartbeats 16000000 in
theorem ref05_Plain_6a (op a b n kind val index t0 : Int) (bt ot nl : Nat) (pl : Option Addr) (ct cl : Nat) (lal : Bool) (w : World) (hcell : w.cell? ⟨bt, ot + 0, none⟩ = some (.int .i64 t0))
    (_hl : ∀ w', Ext w w' → Calls G.P 90 #[.slice pl nl cl] w' fun e w2 => e = .returned (.bool lal) ∧ Ext w' w2)
    (hk : ∀ w', Ext w w' → Calls G.P 87 #[.int .i64 op] w' fun e w2 => e = .returned (.bool true) ∧ Ext w' w2) (ho : ∀ w', Ext w w' → Calls G.P 86 #[.int .i64 op] w' fun e w2 => e = .returned (.int .i64 6) ∧ Ext w' w2) :
    Calls G.P 40 #[.agg #[Value.int .i64 op, Value.int .i64 a, Value.int .i64 b, Value.int .u64 n, Value.int .i64 kind, Value.int .i64 val, Value.int .i64 index, Value.slice (some ⟨bt, ot, none⟩) 1 ct, Value.slice pl nl cl]] w fun e w' => e = .returned (.bool (plainC true 6 a b n kind val index 1 nl t0 lal)) ∧ Ext w w' := by
  refine enterH (l := [_]) Tryz.func40 rfl Tryz.ntmps40 rfl (Ok.start w) ?_
  repeat' (first | refine wav ?_ | (refine OpsH.isG ?_; refine OpsH.isIdx ?_; refine OpsH.yg (by first | rfl | exact gdT rfl wrdq) (Yl.idx1 (i := 0) rfl rfl rfl rfl rfl rfl (by decide)) rfl ?_) | (refine qbxq fun b_ => ?_) | refine qr6q ?_ | (refine wspv ?_ ?_ <;> (intro hc_; try subst hc_)))
  all_goals first | (exfalso; omega) | exact FinH.ret1 rfl rfl fun w' hw' => ⟨by clear hw' _hl hk ho; first | (simp_all [plainC]; done) | (simp_all [plainC] <;> (intros; omega)), hw'.at⟩
set_option maxHeartbeats 16000000 in
theorem ref05_Plain_6b (op a b n kind val index t0 : Int) (nt nl : Nat) (pt pl : Option Addr) (ct cl : Nat) (lal : Bool) (w : World) (h1 : ¬ ((nt : Int) = 1))
    (_hl : ∀ w', Ext w w' → Calls G.P 90 #[.slice pl nl cl] w' fun e w2 => e = .returned (.bool lal) ∧ Ext w' w2)
    (hk : ∀ w', Ext w w' → Calls G.P 87 #[.int .i64 op] w' fun e w2 => e = .returned (.bool true) ∧ Ext w' w2) (ho : ∀ w', Ext w w' → Calls G.P 86 #[.int .i64 op] w' fun e w2 => e = .returned (.int .i64 6) ∧ Ext w' w2) :
    Calls G.P 40 #[.agg #[Value.int .i64 op, Value.int .i64 a, Value.int .i64 b, Value.int .u64 n, Value.int .i64 kind, Value.int .i64 val, Value.int .i64 index, Value.slice pt nt ct, Value.slice pl nl cl]] w fun e w' => e = .returned (.bool (plainC true 6 a b n kind val index nt nl t0 lal)) ∧ Ext w w' := by
  refine enterH (l := [_]) Tryz.func40 rfl Tryz.ntmps40 rfl (Ok.start w) ?_
  repeat' (first | refine wav ?_ | (refine qbxq fun b_ => ?_) | refine qr6q ?_ | (refine wspv ?_ ?_ <;> (intro hc_; try subst hc_)))
  all_goals first | (exfalso; omega) | exact FinH.ret1 rfl rfl fun w' hw' => ⟨by clear hw' _hl hk ho; first | (simp_all [plainC]; done) | (simp_all [plainC] <;> (intros; omega)), hw'.at⟩
set_option maxHeartbeats 16000000 in
theorem ref05_Plain_7 (op a b n kind val index t0 : Int) (nt nl : Nat) (pt pl : Option Addr) (ct cl : Nat) (lal : Bool) (w : World)
    (_hl : ∀ w', Ext w w' → Calls G.P 90 #[.slice pl nl cl] w' fun e w2 => e = .returned (.bool lal) ∧ Ext w' w2)
    (hk : ∀ w', Ext w w' → Calls G.P 87 #[.int .i64 op] w' fun e w2 => e = .returned (.bool true) ∧ Ext w' w2) (ho : ∀ w', Ext w w' → Calls G.P 86 #[.int .i64 op] w' fun e w2 => e = .returned (.int .i64 7) ∧ Ext w' w2) :
    Calls G.P 40 #[.agg #[Value.int .i64 op, Value.int .i64 a, Value.int .i64 b, Value.int .u64 n, Value.int .i64 kind, Value.int .i64 val, Value.int .i64 index, Value.slice pt nt ct, Value.slice pl nl cl]] w fun e w' => e = .returned (.bool (plainC true 7 a b n kind val index nt nl t0 lal)) ∧ Ext w w' := by
  refine enterH (l := [_]) Tryz.func40 rfl Tryz.ntmps40 rfl (Ok.start w) ?_
  repeat' (first | refine wav ?_ | (refine qbxq fun b_ => ?_) | refine qr6q ?_ | (refine wspv ?_ ?_ <;> (intro hc_; try subst hc_)))
  all_goals first | (exfalso; omega) | exact FinH.ret1 rfl rfl fun w' hw' => ⟨by clear hw' _hl hk ho; first | (simp_all [plainC]; done) | (simp_all [plainC] <;> (intros; omega)), hw'.at⟩
set_option maxHeartbeats 16000000 in
theorem ref05_Plain_8 (op a b n kind val index t0 : Int) (nt nl : Nat) (pt pl : Option Addr) (ct cl : Nat) (lal : Bool) (w : World)
    (_hl : ∀ w', Ext w w' → Calls G.P 90 #[.slice pl nl cl] w' fun e w2 => e = .returned (.bool lal) ∧ Ext w' w2)
    (hk : ∀ w', Ext w w' → Calls G.P 87 #[.int .i64 op] w' fun e w2 => e = .returned (.bool true) ∧ Ext w' w2) (ho : ∀ w', Ext w w' → Calls G.P 86 #[.int .i64 op] w' fun e w2 => e = .returned (.int .i64 8) ∧ Ext w' w2) :
    Calls G.P 40 #[.agg #[Value.int .i64 op, Value.int .i64 a, Value.int .i64 b, Value.int .u64 n, Value.int .i64 kind, Value.int .i64 val, Value.int .i64 index, Value.slice pt nt ct, Value.slice pl nl cl]] w fun e w' => e = .returned (.bool (plainC true 8 a b n kind val index nt nl t0 lal)) ∧ Ext w w' := by
  refine enterH (l := [_]) Tryz.func40 rfl Tryz.ntmps40 rfl (Ok.start w) ?_
  repeat' (first | refine wav ?_ | (refine qbxq fun b_ => ?_) | refine qr6q ?_ | (refine wspv ?_ ?_ <;> (intro hc_; try subst hc_)))
  all_goals first | (exfalso; omega) | exact FinH.ret1 rfl rfl fun w' hw' => ⟨by clear hw' _hl hk ho; first | (simp_all [plainC]; done) | (simp_all [plainC] <;> (intros; omega)), hw'.at⟩
end Go.Proofs.YtgbgnipidakdhaaGreatDoor
