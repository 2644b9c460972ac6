/- The reference's tables, memories and globals. Printed by gen_gc.py. -/
import Derived.Test.YtgbgnipidakdhaaGreatDoorJGi
namespace Go.Proofs.YtgbgnipidakdhaaGreatDoor
open Go.RowKit
set_option maxRecDepth 100000
set_option maxHeartbeats 8000000 in
theorem ref08_Table (F : Nat → Prop) (m : ApiModule) (i : Int) (cs : List Value) (w : World) (hm : ApiModuleV F w cs m) (h0 : 0 ≤ i) (hi : R64 i) : Calls G.P 147 #[.agg cs.toArray, .int .i64 i] w fun e w' => e = .returned (.tuple #[.agg (tblC ((atK (tablesM m) i).getD noT)).toArray, .bool (atK (tablesM m) i).isSome]) ∧ Ext w w' := by
  have hm0 := hm
  obtain ⟨v0, v1, v2, v3, v4, v5, v6, v7, v8, v9, rfl, r0, r1, r2, r3, r4, r5, r6, r7, r8, r9, g0⟩ := hm
  obtain ⟨p3, c3, rfl, l3⟩ := r3.slice
  have hat : atK (tablesM m) i = _ := atK_own (·.table) m 1 m.tables h0
  cases hn : nthK m.imports 1 i with
  | some x =>
    rw [hn] at hat
    rw [hat]
    refine enterH (l := [_, _]) Tryz.func147 rfl Tryz.ntmps147 rfl (Ok.start w) ?_
    repeat' (first | refine wau ?_ | (refine qbxq fun b_ => ?_) | (refine qal2q fun b_ => ?_) | (refine qal5q fun b_ => ?_) | (refine qal4q fun b_ => ?_) | (refine qal3q fun b_ => ?_) | (refine OpsH.isAlloc (t := TImp) ?_; refine OpsH.alloc (t := TImp) [Value.string ⟨#[]⟩, Value.string ⟨#[]⟩, Value.int .i64 0, Value.int .i64 0, Value.int .i64 0, Value.int .i64 0, Value.int .i64 0, Value.bool false, Value.int .i64 0, Value.int .i64 0, Value.bool false, Value.int .i64 0, Value.bool false] rfl rfl rfl fun b_ => ?_) | (refine OpsH.isCall (f := 170) ?_; refine OpsH.call1 (v := .tuple #[.agg #[Value.string x.module, Value.string x.name, Value.int .i64 x.kind, Value.int .i64 x.func, Value.int .i64 x.table.elem, Value.int .i64 x.table.lim.min, Value.int .i64 x.table.lim.max, Value.bool x.table.lim.has, Value.int .i64 x.mem.min, Value.int .i64 x.mem.max, Value.bool x.mem.has, Value.int .i64 x.global_.val_, Value.bool x.global_.mut_], .bool true]) rfl rfl rfl (fun w' hw' => by have := ref08_nth F m 1 i _ w' (hm0.chg (show Ext w w' from hw'.at) (fun _ _ _ h => h)) h0 hi; rw [hn] at this; exact this) ?_) | (refine wspl ?_ ?_ <;> intro hc_))
    all_goals exact FinH.ret2c (.inl rfl) rfl rfl rfl rfl rfl wup rfl rfl fun w' hw' => ⟨by rfl, hw'.at⟩
  | none =>
    rw [hn] at hat
    by_cases hin : 0 ≤ i - impN m 1 ∧ i - impN m 1 < m.tables.length
    · have ho : ownP m 1 i m.tables.length = i - impN m 1 := if_pos hin
      obtain ⟨j, hj⟩ := Int.eq_ofNat_of_zero_le hin.1
      rw [hj] at hin hat ho
      have hlt : j < m.tables.length := by omega
      obtain ⟨b, o, rfl, hF, he⟩ := r3.el hlt
      have hcc : ∀ k, k < 4 → w.cell? ⟨b, o + j * 4 + k, none⟩ = (tblC (ix m.tables j))[k]? := table_rd he
      have hat2 : atK (tablesM m) i = some (ix m.tables j) := by rw [hat]; dsimp only; exact atK_in hlt
      rw [hat2]
      refine enterH (l := [_, _]) Tryz.func147 rfl Tryz.ntmps147 rfl (Ok.start w) ?_
      refine CdH.der (Cs b (o + j * 4) (tblC (ix m.tables j))) (cs_ext hcc rfl wmem) ?_
      dsimp only [tblC]
      repeat' (first | refine wau ?_ | (refine qbxq fun b_ => ?_) | (refine qal2q fun b_ => ?_) | (refine qal5q fun b_ => ?_) | (refine qal4q fun b_ => ?_) | (refine qal3q fun b_ => ?_) | (refine OpsH.isAlloc (t := TImp) ?_; refine OpsH.alloc (t := TImp) [Value.string ⟨#[]⟩, Value.string ⟨#[]⟩, Value.int .i64 0, Value.int .i64 0, Value.int .i64 0, Value.int .i64 0, Value.int .i64 0, Value.bool false, Value.int .i64 0, Value.int .i64 0, Value.bool false, Value.int .i64 0, Value.bool false] rfl rfl rfl fun b_ => ?_) | (refine OpsH.isCall (f := 170) ?_; refine OpsH.call1 (v := .tuple #[.agg #[Value.string ⟨#[]⟩, Value.string ⟨#[]⟩, Value.int .i64 0, Value.int .i64 0, Value.int .i64 0, Value.int .i64 0, Value.int .i64 0, Value.bool false, Value.int .i64 0, Value.int .i64 0, Value.bool false, Value.int .i64 0, Value.bool false], .bool false]) rfl rfl rfl (fun w' hw' => by have := ref08_nth F m 1 i _ w' (hm0.chg (show Ext w w' from hw'.at) (fun _ _ _ h => h)) h0 hi; rw [hn] at this; exact this) ?_) | (refine OpsH.isCall (f := 171) ?_; refine OpsH.call1 (v := .int .i64 (j : Nat)) rfl rfl rfl (fun w' hw' => by have := ref08_own F m 1 i m.tables.length _ w' (hm0.chg (show Ext w w' from hw'.at) (fun _ _ _ h => h)) h0 hi; rw [ho] at this; exact this) ?_) | (refine wspl ?_ ?_ <;> intro hc_))
      all_goals exact FinH.ret2c (.inl rfl) rfl rfl rfl rfl rfl wup rfl rfl fun w' hw' => ⟨by rfl, hw'.at⟩
    · have ho : ownP m 1 i m.tables.length = -1 := if_neg hin
      have hat2 : atK (tablesM m) i = none := by rw [hat]; dsimp only; exact atK_out (by simpa using hin)
      rw [hat2]
      refine enterH (l := [_, _]) Tryz.func147 rfl Tryz.ntmps147 rfl (Ok.start w) ?_
      repeat' (first | refine wau ?_ | (refine qbxq fun b_ => ?_) | (refine qal2q fun b_ => ?_) | (refine qal5q fun b_ => ?_) | (refine qal4q fun b_ => ?_) | (refine qal3q fun b_ => ?_) | (refine OpsH.isAlloc (t := TImp) ?_; refine OpsH.alloc (t := TImp) [Value.string ⟨#[]⟩, Value.string ⟨#[]⟩, Value.int .i64 0, Value.int .i64 0, Value.int .i64 0, Value.int .i64 0, Value.int .i64 0, Value.bool false, Value.int .i64 0, Value.int .i64 0, Value.bool false, Value.int .i64 0, Value.bool false] rfl rfl rfl fun b_ => ?_) | (refine OpsH.isCall (f := 170) ?_; refine OpsH.call1 (v := .tuple #[.agg #[Value.string ⟨#[]⟩, Value.string ⟨#[]⟩, Value.int .i64 0, Value.int .i64 0, Value.int .i64 0, Value.int .i64 0, Value.int .i64 0, Value.bool false, Value.int .i64 0, Value.int .i64 0, Value.bool false, Value.int .i64 0, Value.bool false], .bool false]) rfl rfl rfl (fun w' hw' => by have := ref08_nth F m 1 i _ w' (hm0.chg (show Ext w w' from hw'.at) (fun _ _ _ h => h)) h0 hi; rw [hn] at this; exact this) ?_) | (refine OpsH.isCall (f := 171) ?_; refine OpsH.call1 (v := .int .i64 (-1)) rfl rfl rfl (fun w' hw' => by have := ref08_own F m 1 i m.tables.length _ w' (hm0.chg (show Ext w w' from hw'.at) (fun _ _ _ h => h)) h0 hi; rw [ho] at this; exact this) ?_) | (refine wspl ?_ ?_ <;> intro hc_))
      all_goals first | omega | exact FinH.ret2c (.inl rfl) rfl rfl rfl rfl rfl wup rfl rfl fun w' hw' => ⟨by rfl, hw'.at⟩
set_option maxHeartbeats 8000000 in
theorem ref08_Mem (F : Nat → Prop) (m : ApiModule) (i : Int) (cs : List Value) (w : World) (hm : ApiModuleV F w cs m) (h0 : 0 ≤ i) (hi : R64 i) : Calls G.P 174 #[.agg cs.toArray, .int .i64 i] w fun e w' => e = .returned (.tuple #[.agg (limC ((atK (memsM m) i).getD noL)).toArray, .bool (atK (memsM m) i).isSome]) ∧ Ext w w' := by
  have hm0 := hm
  obtain ⟨v0, v1, v2, v3, v4, v5, v6, v7, v8, v9, rfl, r0, r1, r2, r3, r4, r5, r6, r7, r8, r9, g0⟩ := hm
  obtain ⟨p4, c4, rfl, l4⟩ := r4.slice
  have hat : atK (memsM m) i = _ := atK_own (·.mem) m 2 m.mems h0
  cases hn : nthK m.imports 2 i with
  | some x =>
    rw [hn] at hat
    rw [hat]
    refine enterH (l := [_, _]) Tryz.func174 rfl Tryz.ntmps174 rfl (Ok.start w) ?_
    repeat' (first | refine wau ?_ | (refine qbxq fun b_ => ?_) | (refine qal2q fun b_ => ?_) | (refine qal5q fun b_ => ?_) | (refine qal4q fun b_ => ?_) | (refine qal3q fun b_ => ?_) | (refine OpsH.isAlloc (t := TImp) ?_; refine OpsH.alloc (t := TImp) [Value.string ⟨#[]⟩, Value.string ⟨#[]⟩, Value.int .i64 0, Value.int .i64 0, Value.int .i64 0, Value.int .i64 0, Value.int .i64 0, Value.bool false, Value.int .i64 0, Value.int .i64 0, Value.bool false, Value.int .i64 0, Value.bool false] rfl rfl rfl fun b_ => ?_) | (refine OpsH.isCall (f := 170) ?_; refine OpsH.call1 (v := .tuple #[.agg #[Value.string x.module, Value.string x.name, Value.int .i64 x.kind, Value.int .i64 x.func, Value.int .i64 x.table.elem, Value.int .i64 x.table.lim.min, Value.int .i64 x.table.lim.max, Value.bool x.table.lim.has, Value.int .i64 x.mem.min, Value.int .i64 x.mem.max, Value.bool x.mem.has, Value.int .i64 x.global_.val_, Value.bool x.global_.mut_], .bool true]) rfl rfl rfl (fun w' hw' => by have := ref08_nth F m 2 i _ w' (hm0.chg (show Ext w w' from hw'.at) (fun _ _ _ h => h)) h0 hi; rw [hn] at this; exact this) ?_) | (refine wspl ?_ ?_ <;> intro hc_))
    all_goals exact FinH.ret2c (.inl rfl) rfl rfl rfl rfl rfl wup rfl rfl fun w' hw' => ⟨by rfl, hw'.at⟩
  | none =>
    rw [hn] at hat
    by_cases hin : 0 ≤ i - impN m 2 ∧ i - impN m 2 < m.mems.length
    · have ho : ownP m 2 i m.mems.length = i - impN m 2 := if_pos hin
      obtain ⟨j, hj⟩ := Int.eq_ofNat_of_zero_le hin.1
      rw [hj] at hin hat ho
      have hlt : j < m.mems.length := by omega
      obtain ⟨b, o, rfl, hF, he⟩ := r4.el hlt
      have hcc : ∀ k, k < 3 → w.cell? ⟨b, o + j * 3 + k, none⟩ = (limC (ix m.mems j))[k]? := limits_rd he
      have hat2 : atK (memsM m) i = some (ix m.mems j) := by rw [hat]; dsimp only; exact atK_in hlt
      rw [hat2]
      refine enterH (l := [_, _]) Tryz.func174 rfl Tryz.ntmps174 rfl (Ok.start w) ?_
      refine CdH.der (Cs b (o + j * 3) (limC (ix m.mems j))) (cs_ext hcc rfl wmem) ?_
      dsimp only [limC]
      repeat' (first | refine wau ?_ | (refine qbxq fun b_ => ?_) | (refine qal2q fun b_ => ?_) | (refine qal5q fun b_ => ?_) | (refine qal4q fun b_ => ?_) | (refine qal3q fun b_ => ?_) | (refine OpsH.isAlloc (t := TImp) ?_; refine OpsH.alloc (t := TImp) [Value.string ⟨#[]⟩, Value.string ⟨#[]⟩, Value.int .i64 0, Value.int .i64 0, Value.int .i64 0, Value.int .i64 0, Value.int .i64 0, Value.bool false, Value.int .i64 0, Value.int .i64 0, Value.bool false, Value.int .i64 0, Value.bool false] rfl rfl rfl fun b_ => ?_) | (refine OpsH.isCall (f := 170) ?_; refine OpsH.call1 (v := .tuple #[.agg #[Value.string ⟨#[]⟩, Value.string ⟨#[]⟩, Value.int .i64 0, Value.int .i64 0, Value.int .i64 0, Value.int .i64 0, Value.int .i64 0, Value.bool false, Value.int .i64 0, Value.int .i64 0, Value.bool false, Value.int .i64 0, Value.bool false], .bool false]) rfl rfl rfl (fun w' hw' => by have := ref08_nth F m 2 i _ w' (hm0.chg (show Ext w w' from hw'.at) (fun _ _ _ h => h)) h0 hi; rw [hn] at this; exact this) ?_) | (refine OpsH.isCall (f := 171) ?_; refine OpsH.call1 (v := .int .i64 (j : Nat)) rfl rfl rfl (fun w' hw' => by have := ref08_own F m 2 i m.mems.length _ w' (hm0.chg (show Ext w w' from hw'.at) (fun _ _ _ h => h)) h0 hi; rw [ho] at this; exact this) ?_) | (refine wspl ?_ ?_ <;> intro hc_))
      all_goals exact FinH.ret2c (.inl rfl) rfl rfl rfl rfl rfl wup rfl rfl fun w' hw' => ⟨by rfl, hw'.at⟩
    · have ho : ownP m 2 i m.mems.length = -1 := if_neg hin
      have hat2 : atK (memsM m) i = none := by rw [hat]; dsimp only; exact atK_out (by simpa using hin)
      rw [hat2]
      refine enterH (l := [_, _]) Tryz.func174 rfl Tryz.ntmps174 rfl (Ok.start w) ?_
      repeat' (first | refine wau ?_ | (refine qbxq fun b_ => ?_) | (refine qal2q fun b_ => ?_) | (refine qal5q fun b_ => ?_) | (refine qal4q fun b_ => ?_) | (refine qal3q fun b_ => ?_) | (refine OpsH.isAlloc (t := TImp) ?_; refine OpsH.alloc (t := TImp) [Value.string ⟨#[]⟩, Value.string ⟨#[]⟩, Value.int .i64 0, Value.int .i64 0, Value.int .i64 0, Value.int .i64 0, Value.int .i64 0, Value.bool false, Value.int .i64 0, Value.int .i64 0, Value.bool false, Value.int .i64 0, Value.bool false] rfl rfl rfl fun b_ => ?_) | (refine OpsH.isCall (f := 170) ?_; refine OpsH.call1 (v := .tuple #[.agg #[Value.string ⟨#[]⟩, Value.string ⟨#[]⟩, Value.int .i64 0, Value.int .i64 0, Value.int .i64 0, Value.int .i64 0, Value.int .i64 0, Value.bool false, Value.int .i64 0, Value.int .i64 0, Value.bool false, Value.int .i64 0, Value.bool false], .bool false]) rfl rfl rfl (fun w' hw' => by have := ref08_nth F m 2 i _ w' (hm0.chg (show Ext w w' from hw'.at) (fun _ _ _ h => h)) h0 hi; rw [hn] at this; exact this) ?_) | (refine OpsH.isCall (f := 171) ?_; refine OpsH.call1 (v := .int .i64 (-1)) rfl rfl rfl (fun w' hw' => by have := ref08_own F m 2 i m.mems.length _ w' (hm0.chg (show Ext w w' from hw'.at) (fun _ _ _ h => h)) h0 hi; rw [ho] at this; exact this) ?_) | (refine wspl ?_ ?_ <;> intro hc_))
      all_goals first | omega | exact FinH.ret2c (.inl rfl) rfl rfl rfl rfl rfl wup rfl rfl fun w' hw' => ⟨by rfl, hw'.at⟩
set_option maxHeartbeats 8000000 in
theorem ref08_Global (F : Nat → Prop) (m : ApiModule) (i : Int) (cs : List Value) (w : World) (hm : ApiModuleV F w cs m) (h0 : 0 ≤ i) (hi : R64 i) : Calls G.P 148 #[.agg cs.toArray, .int .i64 i] w fun e w' => e = .returned (.tuple #[.agg (gloC ((atK (globalsM m) i).getD noG)).toArray, .bool (atK (globalsM m) i).isSome]) ∧ Ext w w' := by
  have hm0 := hm
  obtain ⟨v0, v1, v2, v3, v4, v5, v6, v7, v8, v9, rfl, r0, r1, r2, r3, r4, r5, r6, r7, r8, r9, g0⟩ := hm
  obtain ⟨p5, c5, rfl, l5⟩ := r5.slice
  have hat : atK (globalsM m) i = _ := atK_own (fun x : ApiImport => x.global_) m 3 (m.globals.map fun x : ApiGlobalDef => x.type_) h0
  cases hn : nthK m.imports 3 i with
  | some x =>
    rw [hn] at hat
    rw [hat]
    refine enterH (l := [_, _]) Tryz.func148 rfl Tryz.ntmps148 rfl (Ok.start w) ?_
    repeat' (first | refine wau ?_ | (refine qbxq fun b_ => ?_) | (refine qal2q fun b_ => ?_) | (refine qal5q fun b_ => ?_) | (refine qal4q fun b_ => ?_) | (refine qal3q fun b_ => ?_) | (refine OpsH.isAlloc (t := TImp) ?_; refine OpsH.alloc (t := TImp) [Value.string ⟨#[]⟩, Value.string ⟨#[]⟩, Value.int .i64 0, Value.int .i64 0, Value.int .i64 0, Value.int .i64 0, Value.int .i64 0, Value.bool false, Value.int .i64 0, Value.int .i64 0, Value.bool false, Value.int .i64 0, Value.bool false] rfl rfl rfl fun b_ => ?_) | (refine OpsH.isCall (f := 170) ?_; refine OpsH.call1 (v := .tuple #[.agg #[Value.string x.module, Value.string x.name, Value.int .i64 x.kind, Value.int .i64 x.func, Value.int .i64 x.table.elem, Value.int .i64 x.table.lim.min, Value.int .i64 x.table.lim.max, Value.bool x.table.lim.has, Value.int .i64 x.mem.min, Value.int .i64 x.mem.max, Value.bool x.mem.has, Value.int .i64 x.global_.val_, Value.bool x.global_.mut_], .bool true]) rfl rfl rfl (fun w' hw' => by have := ref08_nth F m 3 i _ w' (hm0.chg (show Ext w w' from hw'.at) (fun _ _ _ h => h)) h0 hi; rw [hn] at this; exact this) ?_) | (refine wspl ?_ ?_ <;> intro hc_))
    all_goals exact FinH.ret2c (.inl rfl) rfl rfl rfl rfl rfl wup rfl rfl fun w' hw' => ⟨by rfl, hw'.at⟩
  | none =>
    rw [hn] at hat
    by_cases hin : 0 ≤ i - impN m 3 ∧ i - impN m 3 < m.globals.length
    · have ho : ownP m 3 i m.globals.length = i - impN m 3 := if_pos hin
      obtain ⟨j, hj⟩ := Int.eq_ofNat_of_zero_le hin.1
      rw [hj] at hin hat ho
      have hlt : j < m.globals.length := by omega
      obtain ⟨b, o, rfl, hF, he⟩ := r5.el hlt
      have hcc : ∀ k, k < 2 → w.cell? ⟨b, o + j * 3 + k, none⟩ = (gloC (ix m.globals j).type_)[k]? := global_rd he
      have hat2 : atK (globalsM m) i = some (ix m.globals j).type_ := by rw [hat]; dsimp only; rw [atK_in (by simpa using hlt), ix_map hlt]
      rw [hat2]
      refine enterH (l := [_, _]) Tryz.func148 rfl Tryz.ntmps148 rfl (Ok.start w) ?_
      refine CdH.der (Cs b (o + j * 3) (gloC (ix m.globals j).type_)) (cs_ext hcc rfl wmem) ?_
      dsimp only [gloC]
      repeat' (first | refine wau ?_ | (refine qbxq fun b_ => ?_) | (refine qal2q fun b_ => ?_) | (refine qal5q fun b_ => ?_) | (refine qal4q fun b_ => ?_) | (refine qal3q fun b_ => ?_) | (refine OpsH.isAlloc (t := TImp) ?_; refine OpsH.alloc (t := TImp) [Value.string ⟨#[]⟩, Value.string ⟨#[]⟩, Value.int .i64 0, Value.int .i64 0, Value.int .i64 0, Value.int .i64 0, Value.int .i64 0, Value.bool false, Value.int .i64 0, Value.int .i64 0, Value.bool false, Value.int .i64 0, Value.bool false] rfl rfl rfl fun b_ => ?_) | (refine OpsH.isCall (f := 170) ?_; refine OpsH.call1 (v := .tuple #[.agg #[Value.string ⟨#[]⟩, Value.string ⟨#[]⟩, Value.int .i64 0, Value.int .i64 0, Value.int .i64 0, Value.int .i64 0, Value.int .i64 0, Value.bool false, Value.int .i64 0, Value.int .i64 0, Value.bool false, Value.int .i64 0, Value.bool false], .bool false]) rfl rfl rfl (fun w' hw' => by have := ref08_nth F m 3 i _ w' (hm0.chg (show Ext w w' from hw'.at) (fun _ _ _ h => h)) h0 hi; rw [hn] at this; exact this) ?_) | (refine OpsH.isCall (f := 171) ?_; refine OpsH.call1 (v := .int .i64 (j : Nat)) rfl rfl rfl (fun w' hw' => by have := ref08_own F m 3 i m.globals.length _ w' (hm0.chg (show Ext w w' from hw'.at) (fun _ _ _ h => h)) h0 hi; rw [ho] at this; exact this) ?_) | (refine wspl ?_ ?_ <;> intro hc_))
      all_goals exact FinH.ret2c (.inl rfl) rfl rfl rfl rfl rfl wup rfl rfl fun w' hw' => ⟨by rfl, hw'.at⟩
    · have ho : ownP m 3 i m.globals.length = -1 := if_neg hin
      have hat2 : atK (globalsM m) i = none := by rw [hat]; dsimp only; exact atK_out (by simpa using hin)
      rw [hat2]
      refine enterH (l := [_, _]) Tryz.func148 rfl Tryz.ntmps148 rfl (Ok.start w) ?_
      repeat' (first | refine wau ?_ | (refine qbxq fun b_ => ?_) | (refine qal2q fun b_ => ?_) | (refine qal5q fun b_ => ?_) | (refine qal4q fun b_ => ?_) | (refine qal3q fun b_ => ?_) | (refine OpsH.isAlloc (t := TImp) ?_; refine OpsH.alloc (t := TImp) [Value.string ⟨#[]⟩, Value.string ⟨#[]⟩, Value.int .i64 0, Value.int .i64 0, Value.int .i64 0, Value.int .i64 0, Value.int .i64 0, Value.bool false, Value.int .i64 0, Value.int .i64 0, Value.bool false, Value.int .i64 0, Value.bool false] rfl rfl rfl fun b_ => ?_) | (refine OpsH.isCall (f := 170) ?_; refine OpsH.call1 (v := .tuple #[.agg #[Value.string ⟨#[]⟩, Value.string ⟨#[]⟩, Value.int .i64 0, Value.int .i64 0, Value.int .i64 0, Value.int .i64 0, Value.int .i64 0, Value.bool false, Value.int .i64 0, Value.int .i64 0, Value.bool false, Value.int .i64 0, Value.bool false], .bool false]) rfl rfl rfl (fun w' hw' => by have := ref08_nth F m 3 i _ w' (hm0.chg (show Ext w w' from hw'.at) (fun _ _ _ h => h)) h0 hi; rw [hn] at this; exact this) ?_) | (refine OpsH.isCall (f := 171) ?_; refine OpsH.call1 (v := .int .i64 (-1)) rfl rfl rfl (fun w' hw' => by have := ref08_own F m 3 i m.globals.length _ w' (hm0.chg (show Ext w w' from hw'.at) (fun _ _ _ h => h)) h0 hi; rw [ho] at this; exact this) ?_) | (refine wspl ?_ ?_ <;> intro hc_))
      all_goals first | omega | exact FinH.ret2c (.inl rfl) rfl rfl rfl rfl rfl wup rfl rfl fun w' hw' => ⟨by rfl, hw'.at⟩
end Go.Proofs.YtgbgnipidakdhaaGreatDoor
