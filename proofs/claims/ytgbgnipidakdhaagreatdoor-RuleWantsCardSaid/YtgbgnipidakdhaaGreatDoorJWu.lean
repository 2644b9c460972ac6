/- The reference's functions, block types, and what is declared. Printed by gen_wz.py. -/
import Derived.Test.YtgbgnipidakdhaaGreatDoorJWb
import Derived.Test.YtgbgnipidakdhaaGreatDoorJWc
import Derived.Test.YtgbgnipidakdhaaGreatDoorJWn
namespace Go.Proofs.YtgbgnipidakdhaaGreatDoor
open Go.RowKit
set_option maxRecDepth 100000
set_option maxHeartbeats 8000000 in
theorem ref08_Func (F : Nat → Prop) (m : ApiModule) (i : Int) (cs : List Value) (w : World) (hm : ApiModuleV F w cs m) (hF : ∀ k, F k → k < w.heap.size) (h0 : 0 ≤ i) (hi : R64 i) : Calls G.P 145 #[.agg cs.toArray, .int .i64 i] w (FGives (funcTy m i) F w) := by
  have hm0 := hm
  obtain ⟨v0, v1, v2, v3, v4, v5, v6, v7, v8, v9, rfl, r0, r1, r2, r3, r4, r5, r6, r7, r8, r9, g0⟩ := hm
  obtain ⟨p2, c2, rfl, l2⟩ := r2.slice
  have hat : atK (funcsM m) i = _ := atK_own (fun x : ApiImport => x.func) m 0 (m.funcs.map fun x : ApiCode => x.type_) h0
  cases hn : nthK m.imports 0 i with
  | some x =>
    rw [hn] at hat
    have ef : funcTy m i = atK m.types x.func := by unfold funcTy; rw [hat]; rfl
    rw [ef]
    refine enterH (l := [_, _]) Tryz.func145 rfl Tryz.ntmps145 rfl (Ok.start w) ?_
    repeat' (first | refine wau ?_ | (refine qbxq fun b_ => ?_) | (refine qal2q fun b_ => ?_) | (refine OpsH.isAlloc (t := TImp) ?_; refine OpsH.alloc (t := TImp) [Value.string ⟨#[]⟩, Value.string ⟨#[]⟩, Value.int .i64 0, Value.int .i64 0, Value.int .i64 0, Value.int .i64 0, Value.int .i64 0, Value.bool false, Value.int .i64 0, Value.int .i64 0, Value.bool false, Value.int .i64 0, Value.bool false] rfl rfl rfl fun b_ => ?_) | (refine OpsH.isCall (f := 170) ?_; refine OpsH.call1 (v := .tuple #[.agg #[Value.string x.module, Value.string x.name, Value.int .i64 x.kind, Value.int .i64 x.func, Value.int .i64 x.table.elem, Value.int .i64 x.table.lim.min, Value.int .i64 x.table.lim.max, Value.bool x.table.lim.has, Value.int .i64 x.mem.min, Value.int .i64 x.mem.max, Value.bool x.mem.has, Value.int .i64 x.global_.val_, Value.bool x.global_.mut_], .bool true]) rfl rfl rfl (fun w' hw' => by have := ref08_nth F m 0 i _ w' (hm0.chg (show Ext w w' from hw'.at) (fun _ _ _ h => h)) h0 hi; rw [hn] at this; exact this) ?_) | (refine wspl ?_ ?_ <;> intro hc_))
    refine OpsH.he (HE.sgO (r := atK m.types (x.func)) (F := F) wmem hF rfl rfl (fun w' hw' => ref08_Type F m (x.func) _ w' (hm0.chg (show Ext w w' from hw'.at) (fun _ _ _ h => h)))) rfl ?_
    rintro ⟨D_, p_, c_, q_, d_⟩ hD_
    dsimp only
    repeat' (first | refine wau ?_ | (refine wspl ?_ ?_ <;> intro hc_))
    all_goals (refine FinH.ret2c (.inl rfl) rfl rfl rfl rfl rfl wup rfl rfl ?_; exact fun w' hw' => Gives.ofS (f0 := (atK m.types (x.func)).getD noF) (tf := fun y : Value × Value => .tuple #[.agg #[y.1, y.2], .bool (atK m.types (x.func)).isSome]) ⟨D_, p_, c_, q_, d_⟩ hw' wmem wmem hD_)
  | none =>
    rw [hn] at hat
    by_cases hin : 0 ≤ i - impN m 0 ∧ i - impN m 0 < m.funcs.length
    · have ho : ownP m 0 i m.funcs.length = i - impN m 0 := if_pos hin
      obtain ⟨j, hj⟩ := Int.eq_ofNat_of_zero_le hin.1
      rw [hj] at hin hat ho
      have hlt : j < m.funcs.length := by omega
      obtain ⟨b, o, rfl, hFb, he⟩ := r2.el hlt
      have hty := he.type_
      have ef : funcTy m i = atK m.types (ix m.funcs j).type_ := by unfold funcTy; rw [hat]; dsimp only; rw [atK_in (by simpa using hlt), ix_map hlt]; rfl
      rw [ef]
      refine enterH (l := [_, _]) Tryz.func145 rfl Tryz.ntmps145 rfl (Ok.start w) ?_
      repeat' (first | refine wau ?_ | (refine qbxq fun b_ => ?_) | (refine qal2q fun b_ => ?_) | (refine OpsH.isAlloc (t := TImp) ?_; refine OpsH.alloc (t := TImp) [Value.string ⟨#[]⟩, Value.string ⟨#[]⟩, Value.int .i64 0, Value.int .i64 0, Value.int .i64 0, Value.int .i64 0, Value.int .i64 0, Value.bool false, Value.int .i64 0, Value.int .i64 0, Value.bool false, Value.int .i64 0, Value.bool false] rfl rfl rfl fun b_ => ?_) | (refine OpsH.isCall (f := 170) ?_; refine OpsH.call1 (v := .tuple #[.agg #[Value.string ⟨#[]⟩, Value.string ⟨#[]⟩, Value.int .i64 0, Value.int .i64 0, Value.int .i64 0, Value.int .i64 0, Value.int .i64 0, Value.bool false, Value.int .i64 0, Value.int .i64 0, Value.bool false, Value.int .i64 0, Value.bool false], .bool false]) rfl rfl rfl (fun w' hw' => by have := ref08_nth F m 0 i _ w' (hm0.chg (show Ext w w' from hw'.at) (fun _ _ _ h => h)) h0 hi; rw [hn] at this; exact this) ?_) | (refine OpsH.isCall (f := 171) ?_; refine OpsH.call1 (v := .int .i64 (j : Nat)) rfl rfl rfl (fun w' hw' => by have := ref08_own F m 0 i m.funcs.length _ w' (hm0.chg (show Ext w w' from hw'.at) (fun _ _ _ h => h)) h0 hi; rw [ho] at this; exact this) ?_) | (refine wspl ?_ ?_ <;> intro hc_))
      rename_i bm bf
      refine CdH.regionR [.blk bm [v0, v1, Value.slice (some ⟨b, o, none⟩) m.funcs.length c2, v3, v4, v5, v6, Value.bool m.hasStart, Value.int .i64 m.start, v7, v8, v9] TMod] [Ext w] wsl wsr ?_
      repeat' (first | refine wgt ?_ | (refine StepT.isCl 119 ?_; refine StepT.he rfl rfl (HE.sgO (r := atK m.types ((ix m.funcs j).type_)) (F := F) wmem hF rfl rfl (fun w' hw' => ref08_Type F m ((ix m.funcs j).type_) _ w' (hm0.chg (show Ext w w' from hw'.at) (fun _ _ _ h => h)))) (fun _ => wsl) (fun _ => wsr) ?_; rintro ⟨D_, p_, c_, q_, d_⟩ hD_; dsimp only) | (refine StepT.isSt ?_; refine StepT.he0 rfl (HE0.storeB _ rfl rfl rfl rfl rfl rfl wup rfl) (fun _ => wsl) (fun _ => wsr) ?_; rintro ⟨⟩ _) | refine OpsT.nil (by decide +kernel) ?_ | refine OpsT.any (by decide +kernel) ?_ | exact StepsT.fin rfl | refine StepsT.skip (by decide +kernel) ?_ | refine StepsT.go ?_ ?_)
      all_goals repeat' (first | refine wau ?_ | (refine wspl ?_ ?_ <;> intro hc_))
      all_goals (refine FinH.ret2c (.inl rfl) rfl rfl rfl rfl rfl wup rfl rfl ?_; exact fun w' hw' => Gives.ofS (f0 := (atK m.types ((ix m.funcs j).type_)).getD noF) (tf := fun y : Value × Value => .tuple #[.agg #[y.1, y.2], .bool (atK m.types ((ix m.funcs j).type_)).isSome]) ⟨D_, p_, c_, q_, d_⟩ hw' wmem wmem hD_)
    · have ho : ownP m 0 i m.funcs.length = -1 := if_neg hin
      have ef : funcTy m i = none := by unfold funcTy; rw [hat]; dsimp only; rw [atK_out (by simpa using hin)]; rfl
      rw [ef]
      refine enterH (l := [_, _]) Tryz.func145 rfl Tryz.ntmps145 rfl (Ok.start w) ?_
      repeat' (first | refine wau ?_ | (refine qbxq fun b_ => ?_) | (refine qal2q fun b_ => ?_) | (refine OpsH.isAlloc (t := TImp) ?_; refine OpsH.alloc (t := TImp) [Value.string ⟨#[]⟩, Value.string ⟨#[]⟩, Value.int .i64 0, Value.int .i64 0, Value.int .i64 0, Value.int .i64 0, Value.int .i64 0, Value.bool false, Value.int .i64 0, Value.int .i64 0, Value.bool false, Value.int .i64 0, Value.bool false] rfl rfl rfl fun b_ => ?_) | (refine OpsH.isCall (f := 170) ?_; refine OpsH.call1 (v := .tuple #[.agg #[Value.string ⟨#[]⟩, Value.string ⟨#[]⟩, Value.int .i64 0, Value.int .i64 0, Value.int .i64 0, Value.int .i64 0, Value.int .i64 0, Value.bool false, Value.int .i64 0, Value.int .i64 0, Value.bool false, Value.int .i64 0, Value.bool false], .bool false]) rfl rfl rfl (fun w' hw' => by have := ref08_nth F m 0 i _ w' (hm0.chg (show Ext w w' from hw'.at) (fun _ _ _ h => h)) h0 hi; rw [hn] at this; exact this) ?_) | (refine OpsH.isCall (f := 171) ?_; refine OpsH.call1 (v := .int .i64 (-1)) rfl rfl rfl (fun w' hw' => by have := ref08_own F m 0 i m.funcs.length _ w' (hm0.chg (show Ext w w' from hw'.at) (fun _ _ _ h => h)) h0 hi; rw [ho] at this; exact this) ?_) | (refine wspl ?_ ?_ <;> intro hc_))
      all_goals first | omega | exact FinH.ret2c (.inl rfl) rfl rfl rfl rfl rfl wup rfl rfl fun w' hw' => Gives.ofN (tf := fun x : Value × Value => .tuple #[.agg #[x.1, x.2], .bool false]) hw' wmem
theorem qr18q {g g' : Prop} (h : g') (hw : Hold g' → g := by (intro hk_; (first | (refine OpsH.isCall (f := 147) ?_; refine OpsH.call1 (v := .tuple #[.agg #[.int .i64 te, .int .i64 l1, .int .i64 l2, .bool l3], .bool true]) rfl rfl rfl (fun w' hw' => by have := ref08_Table F m a _ w' (hm0.chg (show Ext w w' from hw'.at) (fun _ _ _ h => h)) ha hi; rw [hg] at this; exact this) ?_)); exact hk_.out)) : g := hw ⟨h⟩
set_option maxHeartbeats 4000000 in
theorem ref23_table (F : Nat → Prop) (m : ApiModule) (cs : List Value) (x : Ins) (pt pl : Option Addr) (ct cl : Nat) (w : World) (hm : ApiModuleV F w cs m) (ha : 0 ≤ x.a) (hi : R64 x.a) (hb : 0 ≤ x.b) (hj : R64 x.b) : Calls G.P 99 #[.agg cs.toArray, .agg #[Value.int .i64 x.op, Value.int .i64 x.a, Value.int .i64 x.b, Value.int .u64 x.n, Value.int .i64 x.kind, Value.int .i64 x.val, Value.int .i64 x.index, Value.slice pt x.types.length ct, Value.slice pl x.labels.length cl]] w (RPost (tableK m x) (fun _ => False) w) := by
  have hm0 := hm
  obtain ⟨v0, v1, v2, v3, v4, v5, v6, v7, v8, v9, rfl, r0, r1, r2, r3, r4, r5, r6, r7, r8, r9, g0⟩ := hm
  obtain ⟨op, a, b, n, kind, val, index, types, labels⟩ := x
  dsimp only at ha hi ⊢
  cases hg : atK (tablesM m) a with
  | none =>
    rw [show tableK m ⟨op, a, b, n, kind, val, index, types, labels⟩ = (noF, 11) from by unfold tableK; dsimp only; rw [hg]]
    refine enterH (l := [_, _]) Tryz.func99 rfl Tryz.ntmps99 rfl (Ok.start w) ?_
    repeat' (first | refine wau ?_ | (refine qbxq fun b_ => ?_) | (refine qal1q fun b_ => ?_) | (refine qal2q fun b_ => ?_) | (refine qal5q fun b_ => ?_) | (refine qal4q fun b_ => ?_) | (refine qal3q fun b_ => ?_) | (refine qbsq fun b_ _ => ?_) | refine qk1q ?_ | (refine OpsH.isCall (f := 147) ?_; refine OpsH.call1 (v := .tuple #[.agg #[.int .i64 0, .int .i64 0, .int .i64 0, .bool false], .bool false]) rfl rfl rfl (fun w' hw' => by have := ref08_Table F m a _ w' (hm0.chg (show Ext w w' from hw'.at) (fun _ _ _ h => h)) ha hi; rw [hg] at this; exact this) ?_) | (refine wspl ?_ ?_ <;> intro hc_))
    all_goals first | omega | exact FinH.ret1c (.inl rfl) rfl rfl rfl rfl rfl wup rfl fun w' hw' => ⟨⟨(_, _), rfl, qclq, qclq⟩, hw'.at⟩
  | some g =>
    obtain ⟨te, l1, l2, l3⟩ := g
    by_cases k0 : op = 37
    · subst k0
      rw [show tableK m ⟨37, a, b, n, kind, val, index, types, labels⟩ = (⟨[1], [te]⟩, 0) from by unfold tableK; dsimp only; rw [hg]; rfl]
      refine enterH (l := [_, _]) Tryz.func99 rfl Tryz.ntmps99 rfl (Ok.start w) ?_
      repeat' (first | refine wau ?_ | (refine qbxq fun b_ => ?_) | (refine qal1q fun b_ => ?_) | (refine qal2q fun b_ => ?_) | (refine qal5q fun b_ => ?_) | (refine qal4q fun b_ => ?_) | (refine qal3q fun b_ => ?_) | refine qr18q ?_ | (refine wspl ?_ ?_ <;> intro hc_))
      obtain ⟨b5, rfl⟩ : ∃ y : Nat, y = b_ := ⟨_, rfl⟩
      refine CdH.regionR [.blk b5 [.int .i64 te, .int .i64 l1, .int .i64 l2, .bool l3] TTbl] [Ext w] wsl wsr ?_
      repeat' (first | refine wgt ?_ | (refine StepT.isBs ?_; refine StepT.he rfl rfl (HE.bsl rfl rfl rfl rfl rfl wcel (by rfl) (by rfl)) (fun _ => wsl) (fun _ => wsr) ?_; rintro b7 _) | (refine StepT.isCl 96 ?_; refine StepT.he rfl rfl (HE.callV rfl rfl (fun w' hw' => ref23_list _ _ _ w')) (fun _ => wsl) (fun _ => wsr) ?_; rintro ⟨⟩ _) | (refine StepT.isCl 95 ?_; refine StepT.he rfl rfl (HE.callV rfl rfl (fun w' hw' => ref23_gives _ _ _ _ _ _ w')) (fun _ => wsl) (fun _ => wsr) ?_; rintro ⟨⟩ _) | (refine StepT.isSt ?_; refine StepT.he0 rfl (HE0.storeB _ rfl rfl rfl rfl rfl rfl wup rfl) (fun _ => wsl) (fun _ => wsr) ?_; rintro ⟨⟩ _) | refine OpsT.nil (by decide +kernel) ?_ | refine OpsT.any (by decide +kernel) ?_ | exact StepsT.fin rfl | refine StepsT.skip (by decide +kernel) ?_ | refine StepsT.go ?_ ?_)
      all_goals repeat' (first | refine wau ?_ | (refine wspl ?_ ?_ <;> intro hc_))
      all_goals first | omega | exact FinH.ret1c (.inl rfl) rfl rfl rfl rfl rfl wup rfl fun w' hw' => ⟨⟨(_, _), rfl, qclq, qclq⟩, hw'.at⟩
    by_cases k1 : op = 38
    · subst k1
      rw [show tableK m ⟨38, a, b, n, kind, val, index, types, labels⟩ = (⟨[1, te], []⟩, 0) from by unfold tableK; dsimp only; rw [hg]; rfl]
      refine enterH (l := [_, _]) Tryz.func99 rfl Tryz.ntmps99 rfl (Ok.start w) ?_
      repeat' (first | refine wau ?_ | (refine qbxq fun b_ => ?_) | (refine qal1q fun b_ => ?_) | (refine qal2q fun b_ => ?_) | (refine qal5q fun b_ => ?_) | (refine qal4q fun b_ => ?_) | (refine qal3q fun b_ => ?_) | (refine qbsq fun b_ _ => ?_) | refine qk1q ?_ | refine qr18q ?_ | (refine wspl ?_ ?_ <;> intro hc_))
      all_goals first | omega | exact FinH.ret1c (.inl rfl) rfl rfl rfl rfl rfl wup rfl fun w' hw' => ⟨⟨(_, _), rfl, qclq, qclq⟩, hw'.at⟩
    by_cases k2 : op = 64528
    · subst k2
      rw [show tableK m ⟨64528, a, b, n, kind, val, index, types, labels⟩ = (⟨[], [1]⟩, 0) from by unfold tableK; dsimp only; rw [hg]; rfl]
      refine enterH (l := [_, _]) Tryz.func99 rfl Tryz.ntmps99 rfl (Ok.start w) ?_
      repeat' (first | refine wau ?_ | (refine qbxq fun b_ => ?_) | (refine qal1q fun b_ => ?_) | (refine qal2q fun b_ => ?_) | (refine qal5q fun b_ => ?_) | (refine qal4q fun b_ => ?_) | (refine qal3q fun b_ => ?_) | (refine qbsq fun b_ _ => ?_) | refine qk1q ?_ | refine qr18q ?_ | (refine wspl ?_ ?_ <;> intro hc_))
      all_goals first | omega | exact FinH.ret1c (.inl rfl) rfl rfl rfl rfl rfl wup rfl fun w' hw' => ⟨⟨(_, _), rfl, qclq, qclq⟩, hw'.at⟩
    by_cases k3 : op = 64527
    · subst k3
      rw [show tableK m ⟨64527, a, b, n, kind, val, index, types, labels⟩ = (⟨[te, 1], [1]⟩, 0) from by unfold tableK; dsimp only; rw [hg]; rfl]
      refine enterH (l := [_, _]) Tryz.func99 rfl Tryz.ntmps99 rfl (Ok.start w) ?_
      repeat' (first | refine wau ?_ | (refine qbxq fun b_ => ?_) | (refine qal1q fun b_ => ?_) | (refine qal2q fun b_ => ?_) | (refine qal5q fun b_ => ?_) | (refine qal4q fun b_ => ?_) | (refine qal3q fun b_ => ?_) | (refine qbsq fun b_ _ => ?_) | refine qk1q ?_ | refine qr18q ?_ | (refine wspl ?_ ?_ <;> intro hc_))
      all_goals first | omega | exact FinH.ret1c (.inl rfl) rfl rfl rfl rfl rfl wup rfl fun w' hw' => ⟨⟨(_, _), rfl, qclq, qclq⟩, hw'.at⟩
    rw [show tableK m ⟨op, a, b, n, kind, val, index, types, labels⟩ = (⟨[1, te, 1], []⟩, 0) from by unfold tableK; dsimp only; rw [hg]; dsimp only; rw [if_neg k0, if_neg k1, if_neg k2, if_neg k3]]
    refine enterH (l := [_, _]) Tryz.func99 rfl Tryz.ntmps99 rfl (Ok.start w) ?_
    repeat' (first | refine wau ?_ | (refine qbxq fun b_ => ?_) | (refine qal1q fun b_ => ?_) | (refine qal2q fun b_ => ?_) | (refine qal5q fun b_ => ?_) | (refine qal4q fun b_ => ?_) | (refine qal3q fun b_ => ?_) | (refine qbsq fun b_ _ => ?_) | refine qk1q ?_ | refine qr18q ?_ | (refine wspl ?_ ?_ <;> intro hc_))
    all_goals first | omega | exact FinH.ret1c (.inl rfl) rfl rfl rfl rfl rfl wup rfl fun w' hw' => ⟨⟨(_, _), rfl, qclq, qclq⟩, hw'.at⟩
set_option maxHeartbeats 4000000 in
theorem ref23_has (F : Nat → Prop) (m : ApiModule) (i : Int) (cs : List Value) (w : World) (hm : ApiModuleV F w cs m) (h0 : 0 ≤ i) (hi : R64 i) : Calls G.P 149 #[.agg cs.toArray, .int .i64 i] w fun e w' => e = .returned (.bool (atK (memsM m) i).isSome) ∧ Ext w w' := by
  have hm0 := hm
  obtain ⟨v0, v1, v2, v3, v4, v5, v6, v7, v8, v9, rfl, r0, r1, r2, r3, r4, r5, r6, r7, r8, r9, g0⟩ := hm
  obtain ⟨L, hL⟩ : ∃ L, (atK (memsM m) i).getD noL = L := ⟨_, rfl⟩
  obtain ⟨S, hS⟩ : ∃ S, (atK (memsM m) i).isSome = S := ⟨_, rfl⟩
  rw [hS]
  refine enterH (l := [_, _]) Tryz.func149 rfl Tryz.ntmps149 rfl (Ok.start w) ?_
  repeat' (first | refine wau ?_ | (refine qbxq fun b_ => ?_) | (refine qal1q fun b_ => ?_) | (refine qal2q fun b_ => ?_) | (refine qal5q fun b_ => ?_) | (refine qal4q fun b_ => ?_) | (refine qal3q fun b_ => ?_) | (refine qbsq fun b_ _ => ?_) | refine qk1q ?_ | (refine OpsH.isCall (f := 174) ?_; refine OpsH.call1 (v := .tuple #[.agg #[.int .i64 L.min, .int .i64 L.max, .bool L.has], .bool S]) rfl rfl rfl (fun w' hw' => by have := ref08_Mem F m i _ w' (hm0.chg (show Ext w w' from hw'.at) (fun _ _ _ h => h)) h0 hi; rw [hL, hS] at this; exact this) ?_) | (refine wspl ?_ ?_ <;> intro hc_))
  all_goals exact FinH.ret1 rfl rfl fun w' hw' => ⟨rfl, hw'.at⟩
def twoK (m : ApiModule) (x : Ins) : ApiFunc × Int := match (if x.op = 64526 then (atK (tablesM m) x.a).map (·.elem) else atK (elemsM m) x.a), atK (tablesM m) x.b with
  | some a, some b => if a ≠ b.elem then (noF, 12) else sigW x.op
  | _, _ => (noF, 11)
theorem qr17q {g g' : Prop} (h : g') (hw : Hold g' → g := by (intro hk_; (first | (refine OpsH.isCall (f := 101) ?_; refine OpsH.call1 (v := .tuple #[.int .i64 e0, .bool s0]) rfl rfl rfl (fun w' hw' => by have := ref08_Elem F m a _ w' (hm0.chg (show Ext w w' from hw'.at) (fun _ _ _ h => h)); rw [he0, hs0] at this; exact this) ?_) | (refine OpsH.isCall (f := 147) ?_; refine OpsH.call1 rfl rfl rfl (fun w' hw' => hT _ w' hw'.at (by assumption) (by assumption)) ?_)); exact hk_.out)) : g := hw ⟨h⟩
set_option maxHeartbeats 4000000 in
theorem ref23_two (F : Nat → Prop) (m : ApiModule) (cs : List Value) (x : Ins) (pt pl : Option Addr) (ct cl : Nat) (w : World) (hm : ApiModuleV F w cs m) (ha : 0 ≤ x.a) (hi : R64 x.a) (hb : 0 ≤ x.b) (hj : R64 x.b) : Calls G.P 100 #[.agg cs.toArray, .agg #[Value.int .i64 x.op, Value.int .i64 x.a, Value.int .i64 x.b, Value.int .u64 x.n, Value.int .i64 x.kind, Value.int .i64 x.val, Value.int .i64 x.index, Value.slice pt x.types.length ct, Value.slice pl x.labels.length cl]] w (RPost (twoK m x) (fun _ => False) w) := by
  have hm0 := hm
  obtain ⟨v0, v1, v2, v3, v4, v5, v6, v7, v8, v9, rfl, r0, r1, r2, r3, r4, r5, r6, r7, r8, r9, g0⟩ := hm
  obtain ⟨op, a, b, n, kind, val, index, types, labels⟩ := x
  dsimp only at ha hi hb hj ⊢
  obtain ⟨e0, he0⟩ : ∃ e, (atK (elemsM m) a).getD 0 = e := ⟨_, rfl⟩
  obtain ⟨s0, hs0⟩ : ∃ e, (atK (elemsM m) a).isSome = e := ⟨_, rfl⟩
  have hT : ∀ (i : Int) (w' : World), Ext w w' → 0 ≤ i → R64 i → Calls G.P 147 #[.agg #[v0, v1, v2, v3, v4, v5, v6, .bool m.hasStart, .int .i64 m.start, v7, v8, v9], .int .i64 i] w' fun e w2 => e = .returned (.tuple #[.agg #[.int .i64 ((atK (tablesM m) i).getD noT).elem, .int .i64 ((atK (tablesM m) i).getD noT).lim.min, .int .i64 ((atK (tablesM m) i).getD noT).lim.max, .bool ((atK (tablesM m) i).getD noT).lim.has], .bool (atK (tablesM m) i).isSome]) ∧ Ext w' w2 := fun i w' hx h1 h2 => ref08_Table F m i _ w' (hm0.chg hx (fun _ _ _ h => h)) h1 h2
  obtain ⟨T, hTT⟩ : ∃ T : Int → ApiTable, ∀ i, (atK (tablesM m) i).getD noT = T i := ⟨_, fun _ => rfl⟩
  obtain ⟨S, hSS⟩ : ∃ T : Int → Bool, ∀ i, (atK (tablesM m) i).isSome = T i := ⟨_, fun _ => rfl⟩
  simp only [hTT, hSS] at hT
  by_cases h1 : op = 64526
  · subst h1
    have hsp : twoK m ⟨64526, a, b, n, kind, val, index, types, labels⟩ = if (S a && S b) = false then (noF, 11) else if (T a).elem ≠ (T b).elem then (noF, 12) else sigW 64526 := by
      unfold twoK
      dsimp only
      rw [if_pos rfl, ← hSS, ← hSS, ← hTT, ← hTT]
      cases atK (tablesM m) a <;> cases atK (tablesM m) b <;> rfl
    rw [hsp]
    clear hsp
    rcases Bool.eq_false_or_eq_true (S a) with g1 | g1
    · rcases Bool.eq_false_or_eq_true (S b) with g2 | g2
      · have n2 : (!S b) = false := by rw [g2]; rfl
        have n1 : (!S a) = false := by rw [g1]; rfl
        by_cases g3 : (T a).elem = (T b).elem
        · rw [if_neg (by rw [g1, g2]; decide), if_neg (fun h => h g3)]
          refine enterH (l := [_, _]) Tryz.func100 rfl Tryz.ntmps100 rfl (Ok.start w) ?_
          repeat' (first | refine wau ?_ | (refine qbxq fun b_ => ?_) | (refine qal1q fun b_ => ?_) | (refine qal2q fun b_ => ?_) | (refine qal5q fun b_ => ?_) | (refine qal4q fun b_ => ?_) | (refine qal3q fun b_ => ?_) | (refine qbsq fun b_ _ => ?_) | refine qk1q ?_ | refine qr17q ?_ | (refine OpsH.isCall (f := 104) ?_; refine OpsH.he (HE.rg (F := fun _ => False) (r := sigW 64526) wmem (fun _ h => h.elim) rfl rfl (fun w' hw' => ref23_sig 64526 w')) rfl ?_; rintro ⟨D_, p_, c_, q_, d_⟩ hD_; dsimp only) | (refine wspl ?_ ?_ <;> intro hc_))
          all_goals first | omega | (refine FinH.ret1c (.inl rfl) rfl rfl rfl rfl rfl wup rfl ?_; exact fun w' hw' => Gives.ofS (f0 := (sigW 64526).1) (tf := fun x : Value × Value => .agg #[x.1, x.2, .int .i64 (sigW 64526).2]) ⟨D_, p_, c_, q_, d_⟩ hw' wmem wmem hD_) | exact FinH.ret1c (.inl rfl) rfl rfl rfl rfl rfl wup rfl fun w' hw' => ⟨⟨(_, _), rfl, qclq, qclq⟩, hw'.at⟩
        · rw [if_neg (by rw [g1, g2]; decide), if_pos g3]
          refine enterH (l := [_, _]) Tryz.func100 rfl Tryz.ntmps100 rfl (Ok.start w) ?_
          repeat' (first | refine wau ?_ | (refine qbxq fun b_ => ?_) | (refine qal1q fun b_ => ?_) | (refine qal2q fun b_ => ?_) | (refine qal5q fun b_ => ?_) | (refine qal4q fun b_ => ?_) | (refine qal3q fun b_ => ?_) | (refine qbsq fun b_ _ => ?_) | refine qk1q ?_ | refine qr17q ?_ | (refine OpsH.isCall (f := 104) ?_; refine OpsH.he (HE.rg (F := fun _ => False) (r := sigW 64526) wmem (fun _ h => h.elim) rfl rfl (fun w' hw' => ref23_sig 64526 w')) rfl ?_; rintro ⟨D_, p_, c_, q_, d_⟩ hD_; dsimp only) | (refine wspl ?_ ?_ <;> intro hc_))
          all_goals first | omega | (refine FinH.ret1c (.inl rfl) rfl rfl rfl rfl rfl wup rfl ?_; exact fun w' hw' => Gives.ofS (f0 := (sigW 64526).1) (tf := fun x : Value × Value => .agg #[x.1, x.2, .int .i64 (sigW 64526).2]) ⟨D_, p_, c_, q_, d_⟩ hw' wmem wmem hD_) | exact FinH.ret1c (.inl rfl) rfl rfl rfl rfl rfl wup rfl fun w' hw' => ⟨⟨(_, _), rfl, qclq, qclq⟩, hw'.at⟩
      · rw [if_pos (by rw [g2, Bool.and_false])]
        have n2 : (!S b) = true := by rw [g2]; rfl
        have n1 : (!S a) = false := by rw [g1]; rfl
        refine enterH (l := [_, _]) Tryz.func100 rfl Tryz.ntmps100 rfl (Ok.start w) ?_
        repeat' (first | refine wau ?_ | (refine qbxq fun b_ => ?_) | (refine qal1q fun b_ => ?_) | (refine qal2q fun b_ => ?_) | (refine qal5q fun b_ => ?_) | (refine qal4q fun b_ => ?_) | (refine qal3q fun b_ => ?_) | (refine qbsq fun b_ _ => ?_) | refine qk1q ?_ | refine qr17q ?_ | (refine OpsH.isCall (f := 104) ?_; refine OpsH.he (HE.rg (F := fun _ => False) (r := sigW 64526) wmem (fun _ h => h.elim) rfl rfl (fun w' hw' => ref23_sig 64526 w')) rfl ?_; rintro ⟨D_, p_, c_, q_, d_⟩ hD_; dsimp only) | (refine wspl ?_ ?_ <;> intro hc_))
        all_goals first | omega | (refine FinH.ret1c (.inl rfl) rfl rfl rfl rfl rfl wup rfl ?_; exact fun w' hw' => Gives.ofS (f0 := (sigW 64526).1) (tf := fun x : Value × Value => .agg #[x.1, x.2, .int .i64 (sigW 64526).2]) ⟨D_, p_, c_, q_, d_⟩ hw' wmem wmem hD_) | exact FinH.ret1c (.inl rfl) rfl rfl rfl rfl rfl wup rfl fun w' hw' => ⟨⟨(_, _), rfl, qclq, qclq⟩, hw'.at⟩
    · rw [if_pos (by rw [g1, Bool.false_and])]
      have n1 : (!S a) = true := by rw [g1]; rfl
      refine enterH (l := [_, _]) Tryz.func100 rfl Tryz.ntmps100 rfl (Ok.start w) ?_
      repeat' (first | refine wau ?_ | (refine qbxq fun b_ => ?_) | (refine qal1q fun b_ => ?_) | (refine qal2q fun b_ => ?_) | (refine qal5q fun b_ => ?_) | (refine qal4q fun b_ => ?_) | (refine qal3q fun b_ => ?_) | (refine qbsq fun b_ _ => ?_) | refine qk1q ?_ | refine qr17q ?_ | (refine OpsH.isCall (f := 104) ?_; refine OpsH.he (HE.rg (F := fun _ => False) (r := sigW 64526) wmem (fun _ h => h.elim) rfl rfl (fun w' hw' => ref23_sig 64526 w')) rfl ?_; rintro ⟨D_, p_, c_, q_, d_⟩ hD_; dsimp only) | (refine wspl ?_ ?_ <;> intro hc_))
      all_goals first | omega | (refine FinH.ret1c (.inl rfl) rfl rfl rfl rfl rfl wup rfl ?_; exact fun w' hw' => Gives.ofS (f0 := (sigW 64526).1) (tf := fun x : Value × Value => .agg #[x.1, x.2, .int .i64 (sigW 64526).2]) ⟨D_, p_, c_, q_, d_⟩ hw' wmem wmem hD_) | exact FinH.ret1c (.inl rfl) rfl rfl rfl rfl rfl wup rfl fun w' hw' => ⟨⟨(_, _), rfl, qclq, qclq⟩, hw'.at⟩
  · have hsp : twoK m ⟨op, a, b, n, kind, val, index, types, labels⟩ = if (s0 && S b) = false then (noF, 11) else if e0 ≠ (T b).elem then (noF, 12) else sigW op := by
      unfold twoK
      dsimp only
      rw [if_neg h1, ← hSS, ← hTT, ← hs0, ← he0]
      cases atK (elemsM m) a <;> cases atK (tablesM m) b <;> rfl
    rw [hsp]
    clear hsp
    rcases Bool.eq_false_or_eq_true (s0) with g1 | g1
    · rcases Bool.eq_false_or_eq_true (S b) with g2 | g2
      · have n2 : (!S b) = false := by rw [g2]; rfl
        have n1 : (!s0) = false := by rw [g1]; rfl
        by_cases g3 : e0 = (T b).elem
        · rw [if_neg (by rw [g1, g2]; decide), if_neg (fun h => h g3)]
          refine enterH (l := [_, _]) Tryz.func100 rfl Tryz.ntmps100 rfl (Ok.start w) ?_
          repeat' (first | refine wau ?_ | (refine qbxq fun b_ => ?_) | (refine qal1q fun b_ => ?_) | (refine qal2q fun b_ => ?_) | (refine qal5q fun b_ => ?_) | (refine qal4q fun b_ => ?_) | (refine qal3q fun b_ => ?_) | (refine qbsq fun b_ _ => ?_) | refine qk1q ?_ | refine qr17q ?_ | (refine OpsH.isCall (f := 104) ?_; refine OpsH.he (HE.rg (F := fun _ => False) (r := sigW op) wmem (fun _ h => h.elim) rfl rfl (fun w' hw' => ref23_sig op w')) rfl ?_; rintro ⟨D_, p_, c_, q_, d_⟩ hD_; dsimp only) | (refine wspl ?_ ?_ <;> intro hc_))
          all_goals first | omega | (refine FinH.ret1c (.inl rfl) rfl rfl rfl rfl rfl wup rfl ?_; exact fun w' hw' => Gives.ofS (f0 := (sigW op).1) (tf := fun x : Value × Value => .agg #[x.1, x.2, .int .i64 (sigW op).2]) ⟨D_, p_, c_, q_, d_⟩ hw' wmem wmem hD_) | exact FinH.ret1c (.inl rfl) rfl rfl rfl rfl rfl wup rfl fun w' hw' => ⟨⟨(_, _), rfl, qclq, qclq⟩, hw'.at⟩
        · rw [if_neg (by rw [g1, g2]; decide), if_pos g3]
          refine enterH (l := [_, _]) Tryz.func100 rfl Tryz.ntmps100 rfl (Ok.start w) ?_
          repeat' (first | refine wau ?_ | (refine qbxq fun b_ => ?_) | (refine qal1q fun b_ => ?_) | (refine qal2q fun b_ => ?_) | (refine qal5q fun b_ => ?_) | (refine qal4q fun b_ => ?_) | (refine qal3q fun b_ => ?_) | (refine qbsq fun b_ _ => ?_) | refine qk1q ?_ | refine qr17q ?_ | (refine OpsH.isCall (f := 104) ?_; refine OpsH.he (HE.rg (F := fun _ => False) (r := sigW op) wmem (fun _ h => h.elim) rfl rfl (fun w' hw' => ref23_sig op w')) rfl ?_; rintro ⟨D_, p_, c_, q_, d_⟩ hD_; dsimp only) | (refine wspl ?_ ?_ <;> intro hc_))
          all_goals first | omega | (refine FinH.ret1c (.inl rfl) rfl rfl rfl rfl rfl wup rfl ?_; exact fun w' hw' => Gives.ofS (f0 := (sigW op).1) (tf := fun x : Value × Value => .agg #[x.1, x.2, .int .i64 (sigW op).2]) ⟨D_, p_, c_, q_, d_⟩ hw' wmem wmem hD_) | exact FinH.ret1c (.inl rfl) rfl rfl rfl rfl rfl wup rfl fun w' hw' => ⟨⟨(_, _), rfl, qclq, qclq⟩, hw'.at⟩
      · rw [if_pos (by rw [g2, Bool.and_false])]
        have n2 : (!S b) = true := by rw [g2]; rfl
        have n1 : (!s0) = false := by rw [g1]; rfl
        refine enterH (l := [_, _]) Tryz.func100 rfl Tryz.ntmps100 rfl (Ok.start w) ?_
        repeat' (first | refine wau ?_ | (refine qbxq fun b_ => ?_) | (refine qal1q fun b_ => ?_) | (refine qal2q fun b_ => ?_) | (refine qal5q fun b_ => ?_) | (refine qal4q fun b_ => ?_) | (refine qal3q fun b_ => ?_) | (refine qbsq fun b_ _ => ?_) | refine qk1q ?_ | refine qr17q ?_ | (refine OpsH.isCall (f := 104) ?_; refine OpsH.he (HE.rg (F := fun _ => False) (r := sigW op) wmem (fun _ h => h.elim) rfl rfl (fun w' hw' => ref23_sig op w')) rfl ?_; rintro ⟨D_, p_, c_, q_, d_⟩ hD_; dsimp only) | (refine wspl ?_ ?_ <;> intro hc_))
        all_goals first | omega | (refine FinH.ret1c (.inl rfl) rfl rfl rfl rfl rfl wup rfl ?_; exact fun w' hw' => Gives.ofS (f0 := (sigW op).1) (tf := fun x : Value × Value => .agg #[x.1, x.2, .int .i64 (sigW op).2]) ⟨D_, p_, c_, q_, d_⟩ hw' wmem wmem hD_) | exact FinH.ret1c (.inl rfl) rfl rfl rfl rfl rfl wup rfl fun w' hw' => ⟨⟨(_, _), rfl, qclq, qclq⟩, hw'.at⟩
    · rw [if_pos (by rw [g1, Bool.false_and])]
      have n1 : (!s0) = true := by rw [g1]; rfl
      refine enterH (l := [_, _]) Tryz.func100 rfl Tryz.ntmps100 rfl (Ok.start w) ?_
      repeat' (first | refine wau ?_ | (refine qbxq fun b_ => ?_) | (refine qal1q fun b_ => ?_) | (refine qal2q fun b_ => ?_) | (refine qal5q fun b_ => ?_) | (refine qal4q fun b_ => ?_) | (refine qal3q fun b_ => ?_) | (refine qbsq fun b_ _ => ?_) | refine qk1q ?_ | refine qr17q ?_ | (refine OpsH.isCall (f := 104) ?_; refine OpsH.he (HE.rg (F := fun _ => False) (r := sigW op) wmem (fun _ h => h.elim) rfl rfl (fun w' hw' => ref23_sig op w')) rfl ?_; rintro ⟨D_, p_, c_, q_, d_⟩ hD_; dsimp only) | (refine wspl ?_ ?_ <;> intro hc_))
      all_goals first | omega | (refine FinH.ret1c (.inl rfl) rfl rfl rfl rfl rfl wup rfl ?_; exact fun w' hw' => Gives.ofS (f0 := (sigW op).1) (tf := fun x : Value × Value => .agg #[x.1, x.2, .int .i64 (sigW op).2]) ⟨D_, p_, c_, q_, d_⟩ hw' wmem wmem hD_) | exact FinH.ret1c (.inl rfl) rfl rfl rfl rfl rfl wup rfl fun w' hw' => ⟨⟨(_, _), rfl, qclq, qclq⟩, hw'.at⟩
end Go.Proofs.YtgbgnipidakdhaaGreatDoor
