/- The reference of layer 23: memories and calls. Printed by gen_wt.py. -/
import Derived.Test.YtgbgnipidakdhaaGreatDoorJWu
namespace Go.Proofs.YtgbgnipidakdhaaGreatDoor
open Go.RowKit
set_option maxRecDepth 100000
def memK (m : ApiModule) (k : Int) (x : Ins) : ApiFunc × Int :=
  if k = 14 ∧ (atK (memsM m) x.a).isNone then (noF, 11) else if k = 15 ∧ (m.datas.length : Int) ≤ x.a then (noF, 11) else if (atK (memsM m) x.b).isNone then (noF, 11) else if k = 17 ∧ alignK x.op < x.a then (noF, 19) else sigW x.op
theorem qr20q {g g' : Prop} (h : g') (hw : Hold g' → g := by (intro hk_; (first | (refine OpsH.isCall (f := 149) ?_; refine OpsH.call1 (v := .bool true) rfl rfl rfl (fun w' hw' => by have := ref23_has F m b _ w' (hm0.chg (show Ext w w' from hw'.at) (fun _ _ _ h => h)) hb hj; rw [gb] at this; exact this) ?_)); exact hk_.out)) : g := hw ⟨h⟩
set_option maxHeartbeats 8000000 in
theorem ref23_memory (F : Nat → Prop) (m : ApiModule) (cs : List Value) (x : Ins) (pt pl : Option Addr) (ct cl : Nat) (w : World) (hm : ApiModuleV F w cs m) (ha : 0 ≤ x.a) (hi : R64 x.a) (hb : 0 ≤ x.b) (hj : R64 x.b) (k : Int) (hk : ofK x.op = k) (h14 : k = 14 ↔ x.op = 64522) (h15 : k = 15 ↔ x.op = 64520) : Calls G.P 102 #[.agg cs.toArray, .agg #[Value.int .i64 x.op, Value.int .i64 x.a, Value.int .i64 x.b, Value.int .u64 x.n, Value.int .i64 x.kind, Value.int .i64 x.val, Value.int .i64 x.index, Value.slice pt x.types.length ct, Value.slice pl x.labels.length cl]] w (RPost (memK m k x) (fun _ => False) w) := by
  have hm0 := hm
  obtain ⟨v0, v1, v2, v3, v4, v5, v6, v7, v8, v9, rfl, r0, r1, r2, r3, r4, r5, r6, r7, r8, r9, g0⟩ := hm
  obtain ⟨op, a, b, n, kind, val, index, types, labels⟩ := x
  dsimp only at ha hi hb hj hk h14 h15 ⊢
  have hof : ∀ w', Calls G.P 86 #[.int .i64 op] w' fun e w2 => e = .returned (.int .i64 k) ∧ Ext w' w2 := fun w' => by have := ref05_Of op w'; rw [show (row5 op).2.2 = k from hk] at this; exact this
  have hal := fun w' => ref05_Align op w'
  have hda := fun w' (hx : Ext w w') => ref08_Datas F m _ w' (hm0.chg hx (fun _ _ _ h => h))
  unfold memK
  dsimp only
  obtain ⟨al, hal0⟩ : ∃ t, alignK op = t := ⟨_, rfl⟩
  rw [hal0] at hal ⊢
  obtain ⟨nd, hnd⟩ : ∃ t : Int, (m.datas.length : Int) = t := ⟨_, rfl⟩
  rw [hnd] at hda ⊢
  clear hal0 hk hnd
  by_cases c14 : op = 64522
  · obtain rfl := h14.2 c14
    subst c14
    cases ga : (atK (memsM m) a).isSome with
    | false =>
      rw [if_pos ⟨rfl, by cases hz : atK (memsM m) a <;> simp_all⟩]
      refine enterH (l := [_, _]) Tryz.func102 rfl Tryz.ntmps102 rfl (Ok.start w) ?_
      repeat' (first | refine wau ?_ | (refine qbxq fun b_ => ?_) | (refine qal1q fun b_ => ?_) | (refine qal2q fun b_ => ?_) | (refine qal5q fun b_ => ?_) | (refine qal4q fun b_ => ?_) | (refine qal3q fun b_ => ?_) | (refine qbsq fun b_ _ => ?_) | refine qk1q ?_ | (refine OpsH.isCallG (f := 149) ?_; refine OpsH.call1g (v := .bool false) rfl rfl rfl rfl (fun w' hw' => by have := ref23_has F m a _ w' (hm0.chg (show Ext w w' from hw'.at) (fun _ _ _ h => h)) ha hi; rw [ga] at this; exact this) ?_) | (refine wspl ?_ ?_ <;> intro hc_))
      all_goals first | omega | exact FinH.ret1c (.inl rfl) rfl rfl rfl rfl rfl wup rfl fun w' hw' => ⟨⟨(_, _), rfl, qclq, qclq⟩, hw'.at⟩
    | true =>
      rw [if_neg (by rintro ⟨-, h⟩; cases hz : atK (memsM m) a <;> simp_all), if_neg (by omega)]
      cases gb : (atK (memsM m) b).isSome with
      | false =>
        rw [if_pos (by cases hz : atK (memsM m) b <;> simp_all)]
        refine enterH (l := [_, _]) Tryz.func102 rfl Tryz.ntmps102 rfl (Ok.start w) ?_
        repeat' (first | refine wau ?_ | (refine qbxq fun b_ => ?_) | (refine qal1q fun b_ => ?_) | (refine qal2q fun b_ => ?_) | (refine qal5q fun b_ => ?_) | (refine qal4q fun b_ => ?_) | (refine qal3q fun b_ => ?_) | (refine qbsq fun b_ _ => ?_) | refine qk1q ?_ | (refine OpsH.isCallG (f := 149) ?_; refine OpsH.call1g (v := .bool true) rfl rfl rfl rfl (fun w' hw' => by have := ref23_has F m a _ w' (hm0.chg (show Ext w w' from hw'.at) (fun _ _ _ h => h)) ha hi; rw [ga] at this; exact this) ?_) | (refine wspl ?_ ?_ <;> intro hc_))
        refine CdH.regionQ (by kernel_rfl) ?_
        refine wgh ?_
        repeat' (first | refine wau ?_ | (refine qbxq fun b_ => ?_) | (refine qal1q fun b_ => ?_) | (refine qal2q fun b_ => ?_) | (refine qal5q fun b_ => ?_) | (refine qal4q fun b_ => ?_) | (refine qal3q fun b_ => ?_) | (refine qbsq fun b_ _ => ?_) | refine qk1q ?_ | (refine OpsH.isCall (f := 149) ?_; refine OpsH.call1 (v := .bool false) rfl rfl rfl (fun w' hw' => by have := ref23_has F m b _ w' (hm0.chg (show Ext w w' from hw'.at) (fun _ _ _ h => h)) hb hj; rw [gb] at this; exact this) ?_) | (refine wspl ?_ ?_ <;> intro hc_))
        all_goals first | omega | exact FinH.ret1c (.inl rfl) rfl rfl rfl rfl rfl wup rfl fun w' hw' => ⟨⟨(_, _), rfl, qclq, qclq⟩, hw'.at⟩
      | true =>
        rw [if_neg (by cases hz : atK (memsM m) b <;> simp_all), if_neg (by omega)]
        refine enterH (l := [_, _]) Tryz.func102 rfl Tryz.ntmps102 rfl (Ok.start w) ?_
        repeat' (first | refine wau ?_ | (refine qbxq fun b_ => ?_) | (refine qal1q fun b_ => ?_) | (refine qal2q fun b_ => ?_) | (refine qal5q fun b_ => ?_) | (refine qal4q fun b_ => ?_) | (refine qal3q fun b_ => ?_) | (refine qbsq fun b_ _ => ?_) | refine qk1q ?_ | (refine OpsH.isCallG (f := 149) ?_; refine OpsH.call1g (v := .bool true) rfl rfl rfl rfl (fun w' hw' => by have := ref23_has F m a _ w' (hm0.chg (show Ext w w' from hw'.at) (fun _ _ _ h => h)) ha hi; rw [ga] at this; exact this) ?_) | (refine wspl ?_ ?_ <;> intro hc_))
        refine CdH.regionQ (by kernel_rfl) ?_
        refine wgh ?_
        repeat' (first | refine wau ?_ | (refine qbxq fun b_ => ?_) | (refine qal1q fun b_ => ?_) | (refine qal2q fun b_ => ?_) | (refine qal5q fun b_ => ?_) | (refine qal4q fun b_ => ?_) | (refine qal3q fun b_ => ?_) | (refine qbsq fun b_ _ => ?_) | refine qk1q ?_ | refine qr20q ?_ | (refine wspl ?_ ?_ <;> intro hc_))
        refine CdH.regionQ (by kernel_rfl) ?_
        refine wgh ?_
        refine Ops.callH (v := .int .i64 14) rfl rfl rfl (fun w' hw' => hof w') ?_
        refine wgh ?_
        repeat' (first | refine wau ?_ | (refine qbxq fun b_ => ?_) | (refine qal1q fun b_ => ?_) | (refine qal2q fun b_ => ?_) | (refine qal5q fun b_ => ?_) | (refine qal4q fun b_ => ?_) | (refine qal3q fun b_ => ?_) | (refine qbsq fun b_ _ => ?_) | refine qk1q ?_ | (refine OpsH.isCall (f := 104) ?_; refine OpsH.he (HE.rg (F := fun _ => False) (r := sigW 64522) wmem (fun _ h => h.elim) rfl rfl (fun w' hw' => ref23_sig 64522 w')) rfl ?_; rintro ⟨D_, p_, c_, q_, d_⟩ hD_; dsimp only) | (refine wspl ?_ ?_ <;> intro hc_))
        all_goals first | omega | (refine FinH.ret1c (.inl rfl) rfl rfl rfl rfl rfl wup rfl ?_; exact fun w' hw' => Gives.ofS (f0 := (sigW 64522).1) (tf := fun x : Value × Value => .agg #[x.1, x.2, .int .i64 (sigW 64522).2]) ⟨D_, p_, c_, q_, d_⟩ hw' wmem wmem hD_)
  have n14 : ¬ k = 14 := fun h => c14 (h14.1 h)
  rw [if_neg (by omega)]
  by_cases c15 : op = 64520
  · obtain rfl := h15.2 c15
    subst c15
    by_cases hd : nd ≤ a
    · rw [if_pos ⟨rfl, hd⟩]
      refine enterH (l := [_, _]) Tryz.func102 rfl Tryz.ntmps102 rfl (Ok.start w) ?_
      repeat' (first | refine wau ?_ | (refine qbxq fun b_ => ?_) | (refine qal1q fun b_ => ?_) | (refine qal2q fun b_ => ?_) | (refine qal5q fun b_ => ?_) | (refine qal4q fun b_ => ?_) | (refine qal3q fun b_ => ?_) | (refine qbsq fun b_ _ => ?_) | refine qk1q ?_ | refine qr20q ?_ | (refine wspl ?_ ?_ <;> intro hc_))
      refine CdH.regionQ (by kernel_rfl) ?_
      refine wgh ?_
      refine Ops.callHg (v := .int .i64 nd) rfl rfl rfl rfl (fun w' hw' => hda w' hw'.at) ?_
      refine wgh ?_
      repeat' (first | refine wau ?_ | (refine qbxq fun b_ => ?_) | (refine qal1q fun b_ => ?_) | (refine qal2q fun b_ => ?_) | (refine qal5q fun b_ => ?_) | (refine qal4q fun b_ => ?_) | (refine qal3q fun b_ => ?_) | (refine qbsq fun b_ _ => ?_) | refine qk1q ?_ | (refine wspl ?_ ?_ <;> intro hc_))
      all_goals first | omega | exact FinH.ret1c (.inl rfl) rfl rfl rfl rfl rfl wup rfl fun w' hw' => ⟨⟨(_, _), rfl, qclq, qclq⟩, hw'.at⟩
    rw [if_neg (by omega)]
    cases gb : (atK (memsM m) b).isSome with
    | false =>
      rw [if_pos (by cases hz : atK (memsM m) b <;> simp_all)]
      refine enterH (l := [_, _]) Tryz.func102 rfl Tryz.ntmps102 rfl (Ok.start w) ?_
      repeat' (first | refine wau ?_ | (refine qbxq fun b_ => ?_) | (refine qal1q fun b_ => ?_) | (refine qal2q fun b_ => ?_) | (refine qal5q fun b_ => ?_) | (refine qal4q fun b_ => ?_) | (refine qal3q fun b_ => ?_) | (refine qbsq fun b_ _ => ?_) | refine qk1q ?_ | (refine wspl ?_ ?_ <;> intro hc_))
      refine CdH.regionQ (by kernel_rfl) ?_
      refine wgh ?_
      refine Ops.callHg (v := .int .i64 nd) rfl rfl rfl rfl (fun w' hw' => hda w' hw'.at) ?_
      refine wgh ?_
      repeat' (first | refine wau ?_ | (refine qbxq fun b_ => ?_) | (refine qal1q fun b_ => ?_) | (refine qal2q fun b_ => ?_) | (refine qal5q fun b_ => ?_) | (refine qal4q fun b_ => ?_) | (refine qal3q fun b_ => ?_) | (refine qbsq fun b_ _ => ?_) | refine qk1q ?_ | (refine OpsH.isCall (f := 149) ?_; refine OpsH.call1 (v := .bool false) rfl rfl rfl (fun w' hw' => by have := ref23_has F m b _ w' (hm0.chg (show Ext w w' from hw'.at) (fun _ _ _ h => h)) hb hj; rw [gb] at this; exact this) ?_) | (refine wspl ?_ ?_ <;> intro hc_))
      all_goals first | omega | exact FinH.ret1c (.inl rfl) rfl rfl rfl rfl rfl wup rfl fun w' hw' => ⟨⟨(_, _), rfl, qclq, qclq⟩, hw'.at⟩
    | true =>
      rw [if_neg (by cases hz : atK (memsM m) b <;> simp_all), if_neg (by omega)]
      refine enterH (l := [_, _]) Tryz.func102 rfl Tryz.ntmps102 rfl (Ok.start w) ?_
      repeat' (first | refine wau ?_ | (refine qbxq fun b_ => ?_) | (refine qal1q fun b_ => ?_) | (refine qal2q fun b_ => ?_) | (refine qal5q fun b_ => ?_) | (refine qal4q fun b_ => ?_) | (refine qal3q fun b_ => ?_) | (refine qbsq fun b_ _ => ?_) | refine qk1q ?_ | (refine wspl ?_ ?_ <;> intro hc_))
      refine CdH.regionQ (by kernel_rfl) ?_
      refine wgh ?_
      refine Ops.callHg (v := .int .i64 nd) rfl rfl rfl rfl (fun w' hw' => hda w' hw'.at) ?_
      refine wgh ?_
      repeat' (first | refine wau ?_ | (refine qbxq fun b_ => ?_) | (refine qal1q fun b_ => ?_) | (refine qal2q fun b_ => ?_) | (refine qal5q fun b_ => ?_) | (refine qal4q fun b_ => ?_) | (refine qal3q fun b_ => ?_) | (refine qbsq fun b_ _ => ?_) | refine qk1q ?_ | refine qr20q ?_ | (refine wspl ?_ ?_ <;> intro hc_))
      refine CdH.regionQ (by kernel_rfl) ?_
      refine wgh ?_
      refine Ops.callH (v := .int .i64 15) rfl rfl rfl (fun w' hw' => hof w') ?_
      refine wgh ?_
      repeat' (first | refine wau ?_ | (refine qbxq fun b_ => ?_) | (refine qal1q fun b_ => ?_) | (refine qal2q fun b_ => ?_) | (refine qal5q fun b_ => ?_) | (refine qal4q fun b_ => ?_) | (refine qal3q fun b_ => ?_) | (refine qbsq fun b_ _ => ?_) | refine qk1q ?_ | (refine OpsH.isCall (f := 104) ?_; refine OpsH.he (HE.rg (F := fun _ => False) (r := sigW 64520) wmem (fun _ h => h.elim) rfl rfl (fun w' hw' => ref23_sig 64520 w')) rfl ?_; rintro ⟨D_, p_, c_, q_, d_⟩ hD_; dsimp only) | (refine wspl ?_ ?_ <;> intro hc_))
      all_goals first | omega | (refine FinH.ret1c (.inl rfl) rfl rfl rfl rfl rfl wup rfl ?_; exact fun w' hw' => Gives.ofS (f0 := (sigW 64520).1) (tf := fun x : Value × Value => .agg #[x.1, x.2, .int .i64 (sigW 64520).2]) ⟨D_, p_, c_, q_, d_⟩ hw' wmem wmem hD_)
  have n15 : ¬ k = 15 := fun h => c15 (h15.1 h)
  rw [if_neg (by omega)]
  cases gb : (atK (memsM m) b).isSome with
  | false =>
    rw [if_pos (by cases hz : atK (memsM m) b <;> simp_all)]
    refine enterH (l := [_, _]) Tryz.func102 rfl Tryz.ntmps102 rfl (Ok.start w) ?_
    repeat' (first | refine wau ?_ | (refine qbxq fun b_ => ?_) | (refine qal1q fun b_ => ?_) | (refine qal2q fun b_ => ?_) | (refine qal5q fun b_ => ?_) | (refine qal4q fun b_ => ?_) | (refine qal3q fun b_ => ?_) | (refine qbsq fun b_ _ => ?_) | refine qk1q ?_ | (refine wspl ?_ ?_ <;> intro hc_))
    refine CdH.regionQ (by kernel_rfl) ?_
    refine wgh ?_
    repeat' (first | refine wau ?_ | (refine qbxq fun b_ => ?_) | (refine qal1q fun b_ => ?_) | (refine qal2q fun b_ => ?_) | (refine qal5q fun b_ => ?_) | (refine qal4q fun b_ => ?_) | (refine qal3q fun b_ => ?_) | (refine qbsq fun b_ _ => ?_) | refine qk1q ?_ | (refine OpsH.isCall (f := 149) ?_; refine OpsH.call1 (v := .bool false) rfl rfl rfl (fun w' hw' => by have := ref23_has F m b _ w' (hm0.chg (show Ext w w' from hw'.at) (fun _ _ _ h => h)) hb hj; rw [gb] at this; exact this) ?_) | (refine wspl ?_ ?_ <;> intro hc_))
    all_goals first | omega | exact FinH.ret1c (.inl rfl) rfl rfl rfl rfl rfl wup rfl fun w' hw' => ⟨⟨(_, _), rfl, qclq, qclq⟩, hw'.at⟩
  | true =>
    rw [if_neg (by cases hz : atK (memsM m) b <;> simp_all)]
    by_cases c17 : k = 17
    · subst c17
      by_cases hd : al < a
      · rw [if_pos ⟨rfl, hd⟩]
        refine enterH (l := [_, _]) Tryz.func102 rfl Tryz.ntmps102 rfl (Ok.start w) ?_
        repeat' (first | refine wau ?_ | (refine qbxq fun b_ => ?_) | (refine qal1q fun b_ => ?_) | (refine qal2q fun b_ => ?_) | (refine qal5q fun b_ => ?_) | (refine qal4q fun b_ => ?_) | (refine qal3q fun b_ => ?_) | (refine qbsq fun b_ _ => ?_) | refine qk1q ?_ | (refine wspl ?_ ?_ <;> intro hc_))
        refine CdH.regionQ (by kernel_rfl) ?_
        refine wgh ?_
        repeat' (first | refine wau ?_ | (refine qbxq fun b_ => ?_) | (refine qal1q fun b_ => ?_) | (refine qal2q fun b_ => ?_) | (refine qal5q fun b_ => ?_) | (refine qal4q fun b_ => ?_) | (refine qal3q fun b_ => ?_) | (refine qbsq fun b_ _ => ?_) | refine qk1q ?_ | refine qr20q ?_ | (refine wspl ?_ ?_ <;> intro hc_))
        refine CdH.regionQ (by kernel_rfl) ?_
        refine wgh ?_
        refine Ops.callH (v := .int .i64 17) rfl rfl rfl (fun w' hw' => hof w') ?_
        refine wgh ?_
        refine Ops.callHg (v := .int .i64 al) rfl rfl rfl rfl (fun w' hw' => hal w') ?_
        refine wgh ?_
        repeat' (first | refine wau ?_ | (refine qbxq fun b_ => ?_) | (refine qal1q fun b_ => ?_) | (refine qal2q fun b_ => ?_) | (refine qal5q fun b_ => ?_) | (refine qal4q fun b_ => ?_) | (refine qal3q fun b_ => ?_) | (refine qbsq fun b_ _ => ?_) | refine qk1q ?_ | (refine wspl ?_ ?_ <;> intro hc_))
        all_goals first | omega | exact FinH.ret1c (.inl rfl) rfl rfl rfl rfl rfl wup rfl fun w' hw' => ⟨⟨(_, _), rfl, qclq, qclq⟩, hw'.at⟩
      · rw [if_neg (by omega)]
        refine enterH (l := [_, _]) Tryz.func102 rfl Tryz.ntmps102 rfl (Ok.start w) ?_
        repeat' (first | refine wau ?_ | (refine qbxq fun b_ => ?_) | (refine qal1q fun b_ => ?_) | (refine qal2q fun b_ => ?_) | (refine qal5q fun b_ => ?_) | (refine qal4q fun b_ => ?_) | (refine qal3q fun b_ => ?_) | (refine qbsq fun b_ _ => ?_) | refine qk1q ?_ | (refine wspl ?_ ?_ <;> intro hc_))
        refine CdH.regionQ (by kernel_rfl) ?_
        refine wgh ?_
        repeat' (first | refine wau ?_ | (refine qbxq fun b_ => ?_) | (refine qal1q fun b_ => ?_) | (refine qal2q fun b_ => ?_) | (refine qal5q fun b_ => ?_) | (refine qal4q fun b_ => ?_) | (refine qal3q fun b_ => ?_) | (refine qbsq fun b_ _ => ?_) | refine qk1q ?_ | refine qr20q ?_ | (refine wspl ?_ ?_ <;> intro hc_))
        refine CdH.regionQ (by kernel_rfl) ?_
        refine wgh ?_
        refine Ops.callH (v := .int .i64 17) rfl rfl rfl (fun w' hw' => hof w') ?_
        refine wgh ?_
        refine Ops.callHg (v := .int .i64 al) rfl rfl rfl rfl (fun w' hw' => hal w') ?_
        refine wgh ?_
        repeat' (first | refine wau ?_ | (refine qbxq fun b_ => ?_) | (refine qal1q fun b_ => ?_) | (refine qal2q fun b_ => ?_) | (refine qal5q fun b_ => ?_) | (refine qal4q fun b_ => ?_) | (refine qal3q fun b_ => ?_) | (refine qbsq fun b_ _ => ?_) | refine qk1q ?_ | (refine OpsH.isCall (f := 104) ?_; refine OpsH.he (HE.rg (F := fun _ => False) (r := sigW op) wmem (fun _ h => h.elim) rfl rfl (fun w' hw' => ref23_sig op w')) rfl ?_; rintro ⟨D_, p_, c_, q_, d_⟩ hD_; dsimp only) | (refine wspl ?_ ?_ <;> intro hc_))
        all_goals first | omega | (refine FinH.ret1c (.inl rfl) rfl rfl rfl rfl rfl wup rfl ?_; exact fun w' hw' => Gives.ofS (f0 := (sigW op).1) (tf := fun x : Value × Value => .agg #[x.1, x.2, .int .i64 (sigW op).2]) ⟨D_, p_, c_, q_, d_⟩ hw' wmem wmem hD_)
    · rw [if_neg (by omega)]
      refine enterH (l := [_, _]) Tryz.func102 rfl Tryz.ntmps102 rfl (Ok.start w) ?_
      repeat' (first | refine wau ?_ | (refine qbxq fun b_ => ?_) | (refine qal1q fun b_ => ?_) | (refine qal2q fun b_ => ?_) | (refine qal5q fun b_ => ?_) | (refine qal4q fun b_ => ?_) | (refine qal3q fun b_ => ?_) | (refine qbsq fun b_ _ => ?_) | refine qk1q ?_ | (refine wspl ?_ ?_ <;> intro hc_))
      refine CdH.regionQ (by kernel_rfl) ?_
      refine wgh ?_
      repeat' (first | refine wau ?_ | (refine qbxq fun b_ => ?_) | (refine qal1q fun b_ => ?_) | (refine qal2q fun b_ => ?_) | (refine qal5q fun b_ => ?_) | (refine qal4q fun b_ => ?_) | (refine qal3q fun b_ => ?_) | (refine qbsq fun b_ _ => ?_) | refine qk1q ?_ | refine qr20q ?_ | (refine wspl ?_ ?_ <;> intro hc_))
      refine CdH.regionQ (by kernel_rfl) ?_
      refine wgh ?_
      refine Ops.callH (v := .int .i64 k) rfl rfl rfl (fun w' hw' => hof w') ?_
      refine wgh ?_
      repeat' (first | refine wau ?_ | (refine qbxq fun b_ => ?_) | (refine qal1q fun b_ => ?_) | (refine qal2q fun b_ => ?_) | (refine qal5q fun b_ => ?_) | (refine qal4q fun b_ => ?_) | (refine qal3q fun b_ => ?_) | (refine qbsq fun b_ _ => ?_) | refine qk1q ?_ | (refine OpsH.isCall (f := 104) ?_; refine OpsH.he (HE.rg (F := fun _ => False) (r := sigW op) wmem (fun _ h => h.elim) rfl rfl (fun w' hw' => ref23_sig op w')) rfl ?_; rintro ⟨D_, p_, c_, q_, d_⟩ hD_; dsimp only) | (refine wspl ?_ ?_ <;> intro hc_))
      all_goals first | omega | (refine FinH.ret1c (.inl rfl) rfl rfl rfl rfl rfl wup rfl ?_; exact fun w' hw' => Gives.ofS (f0 := (sigW op).1) (tf := fun x : Value × Value => .agg #[x.1, x.2, .int .i64 (sigW op).2]) ⟨D_, p_, c_, q_, d_⟩ hw' wmem wmem hD_)
theorem k10_op : ∀ {op : Int}, ofK op = 10 → op = 64526 := fun {op} h => by
  obtain ⟨r, hr, h1, h2⟩ := ofK_row (op := op) (by omega)
  have := List.all_eq_true.1 (show (r05.all fun r => !decide (r.2.2 = 10) || decide (r.1 = 64526)) = true by decide +kernel) r hr
  rw [h2, h, h1] at this
  simpa using this
theorem k14_op : ∀ {op : Int}, ofK op = 14 ↔ op = 64522 := fun {op} => ⟨fun h => by
  obtain ⟨r, hr, h1, h2⟩ := ofK_row (op := op) (by omega)
  have := List.all_eq_true.1 (show (r05.all fun r => !decide (r.2.2 = 14) || decide (r.1 = 64522)) = true by decide +kernel) r hr
  rw [h2, h, h1] at this
  simpa using this, fun h => by rw [h]; decide +kernel⟩
theorem k15_op : ∀ {op : Int}, ofK op = 15 ↔ op = 64520 := fun {op} => ⟨fun h => by
  obtain ⟨r, hr, h1, h2⟩ := ofK_row (op := op) (by omega)
  have := List.all_eq_true.1 (show (r05.all fun r => !decide (r.2.2 = 15) || decide (r.1 = 64520)) = true by decide +kernel) r hr
  rw [h2, h, h1] at this
  simpa using this, fun h => by rw [h]; decide +kernel⟩
theorem qr21q {g g' : Prop} (h : g') (hw : Hold g' → g := by (intro hk_; (first | (refine OpsH.isCall (f := 86) ?_; refine OpsH.call1 rfl rfl rfl (fun w' hw' => hof w') ?_)); exact hk_.out)) : g := hw ⟨h⟩
set_option maxHeartbeats 8000000 in
theorem ref23_wants_13 (F : Nat → Prop) (m : ApiModule) (cs : List Value) (locals : List Int) (x : Ins) (lp pt pl : Option Addr) (lc ct cl : Nat) (w : World) (hm : ApiModuleV F w cs m) (_hl : IntsR F w (.slice lp locals.length lc) locals) (_ht : IntsR F w (.slice pt x.types.length ct) x.types) (ha : 0 ≤ x.a) (hi : R64 x.a) (hb : 0 ≤ x.b) (hj : R64 x.b) (_hF : ∀ k, F k → k < w.heap.size) (_hT : TyB m) (hk : ofK x.op = 13) : Calls G.P 41 #[.agg cs.toArray, .slice lp locals.length lc, .agg #[Value.int .i64 x.op, Value.int .i64 x.a, Value.int .i64 x.b, Value.int .u64 x.n, Value.int .i64 x.kind, Value.int .i64 x.val, Value.int .i64 x.index, Value.slice pt x.types.length ct, Value.slice pl x.labels.length cl]] w (RPost (memK m 13 x) F w) := by
  have hm0 := hm
  obtain ⟨v0, v1, v2, v3, v4, v5, v6, v7, v8, v9, rfl, r0, r1, r2, r3, r4, r5, r6, r7, r8, r9, g0⟩ := hm
  have hof : ∀ w', Calls G.P 86 #[.int .i64 x.op] w' fun e w2 => e = .returned (.int .i64 13) ∧ Ext w' w2 := fun w' => by have := ref05_Of x.op w'; rw [show (row5 x.op).2.2 = 13 from hk] at this; exact this
  have h14 := k14_op (op := x.op)
  have h15 := k15_op (op := x.op)
  rw [hk] at h14 h15
  refine enterH (l := [_, _, _]) Tryz.func41 rfl Tryz.ntmps41 rfl (Ok.start w) ?_
  repeat' (first | refine wau ?_ | (refine qbxq fun b_ => ?_) | (refine qal1q fun b_ => ?_) | (refine qal2q fun b_ => ?_) | (refine qal5q fun b_ => ?_) | (refine qal4q fun b_ => ?_) | (refine qal3q fun b_ => ?_) | (refine qbsq fun b_ _ => ?_) | refine qk1q ?_ | refine qr21q ?_ | (refine OpsH.isCall (f := 102) ?_; refine OpsH.he (HE.rg (F := fun _ => False) (r := memK m 13 x) wmem (fun _ h => h.elim) rfl rfl (fun w' hw' => ref23_memory F m _ x pt pl ct cl w' (hm0.chg (show Ext w w' from hw'.at) (fun _ _ _ h => h)) ha hi hb hj 13 hk h14 h15)) rfl ?_; rintro ⟨D_, p_, c_, q_, d_⟩ hD_; dsimp only) | (refine wspl ?_ ?_ <;> intro hc_))
  all_goals first | omega | (refine FinH.ret1c (.inl rfl) rfl rfl rfl rfl rfl wup rfl ?_; exact fun w' hw' => Gives.ofS (f0 := (memK m 13 x).1) (tf := fun y : Value × Value => .agg #[y.1, y.2, .int .i64 (memK m 13 x).2]) ⟨D_, p_, c_, q_, d_⟩ hw' wmem wmem (fun k h => .inr ((hD_ k h).resolve_left id)))
set_option maxHeartbeats 8000000 in
theorem ref23_wants_14 (F : Nat → Prop) (m : ApiModule) (cs : List Value) (locals : List Int) (x : Ins) (lp pt pl : Option Addr) (lc ct cl : Nat) (w : World) (hm : ApiModuleV F w cs m) (_hl : IntsR F w (.slice lp locals.length lc) locals) (_ht : IntsR F w (.slice pt x.types.length ct) x.types) (ha : 0 ≤ x.a) (hi : R64 x.a) (hb : 0 ≤ x.b) (hj : R64 x.b) (_hF : ∀ k, F k → k < w.heap.size) (_hT : TyB m) (hk : ofK x.op = 14) : Calls G.P 41 #[.agg cs.toArray, .slice lp locals.length lc, .agg #[Value.int .i64 x.op, Value.int .i64 x.a, Value.int .i64 x.b, Value.int .u64 x.n, Value.int .i64 x.kind, Value.int .i64 x.val, Value.int .i64 x.index, Value.slice pt x.types.length ct, Value.slice pl x.labels.length cl]] w (RPost (memK m 14 x) F w) := by
  have hm0 := hm
  obtain ⟨v0, v1, v2, v3, v4, v5, v6, v7, v8, v9, rfl, r0, r1, r2, r3, r4, r5, r6, r7, r8, r9, g0⟩ := hm
  have hof : ∀ w', Calls G.P 86 #[.int .i64 x.op] w' fun e w2 => e = .returned (.int .i64 14) ∧ Ext w' w2 := fun w' => by have := ref05_Of x.op w'; rw [show (row5 x.op).2.2 = 14 from hk] at this; exact this
  have h14 := k14_op (op := x.op)
  have h15 := k15_op (op := x.op)
  rw [hk] at h14 h15
  refine enterH (l := [_, _, _]) Tryz.func41 rfl Tryz.ntmps41 rfl (Ok.start w) ?_
  repeat' (first | refine wau ?_ | (refine qbxq fun b_ => ?_) | (refine qal1q fun b_ => ?_) | (refine qal2q fun b_ => ?_) | (refine qal5q fun b_ => ?_) | (refine qal4q fun b_ => ?_) | (refine qal3q fun b_ => ?_) | (refine qbsq fun b_ _ => ?_) | refine qk1q ?_ | refine qr21q ?_ | (refine OpsH.isCall (f := 102) ?_; refine OpsH.he (HE.rg (F := fun _ => False) (r := memK m 14 x) wmem (fun _ h => h.elim) rfl rfl (fun w' hw' => ref23_memory F m _ x pt pl ct cl w' (hm0.chg (show Ext w w' from hw'.at) (fun _ _ _ h => h)) ha hi hb hj 14 hk h14 h15)) rfl ?_; rintro ⟨D_, p_, c_, q_, d_⟩ hD_; dsimp only) | (refine wspl ?_ ?_ <;> intro hc_))
  all_goals first | omega | (refine FinH.ret1c (.inl rfl) rfl rfl rfl rfl rfl wup rfl ?_; exact fun w' hw' => Gives.ofS (f0 := (memK m 14 x).1) (tf := fun y : Value × Value => .agg #[y.1, y.2, .int .i64 (memK m 14 x).2]) ⟨D_, p_, c_, q_, d_⟩ hw' wmem wmem (fun k h => .inr ((hD_ k h).resolve_left id)))
set_option maxHeartbeats 8000000 in
theorem ref23_wants_15 (F : Nat → Prop) (m : ApiModule) (cs : List Value) (locals : List Int) (x : Ins) (lp pt pl : Option Addr) (lc ct cl : Nat) (w : World) (hm : ApiModuleV F w cs m) (_hl : IntsR F w (.slice lp locals.length lc) locals) (_ht : IntsR F w (.slice pt x.types.length ct) x.types) (ha : 0 ≤ x.a) (hi : R64 x.a) (hb : 0 ≤ x.b) (hj : R64 x.b) (_hF : ∀ k, F k → k < w.heap.size) (_hT : TyB m) (hk : ofK x.op = 15) : Calls G.P 41 #[.agg cs.toArray, .slice lp locals.length lc, .agg #[Value.int .i64 x.op, Value.int .i64 x.a, Value.int .i64 x.b, Value.int .u64 x.n, Value.int .i64 x.kind, Value.int .i64 x.val, Value.int .i64 x.index, Value.slice pt x.types.length ct, Value.slice pl x.labels.length cl]] w (RPost (memK m 15 x) F w) := by
  have hm0 := hm
  obtain ⟨v0, v1, v2, v3, v4, v5, v6, v7, v8, v9, rfl, r0, r1, r2, r3, r4, r5, r6, r7, r8, r9, g0⟩ := hm
  have hof : ∀ w', Calls G.P 86 #[.int .i64 x.op] w' fun e w2 => e = .returned (.int .i64 15) ∧ Ext w' w2 := fun w' => by have := ref05_Of x.op w'; rw [show (row5 x.op).2.2 = 15 from hk] at this; exact this
  have h14 := k14_op (op := x.op)
  have h15 := k15_op (op := x.op)
  rw [hk] at h14 h15
  refine enterH (l := [_, _, _]) Tryz.func41 rfl Tryz.ntmps41 rfl (Ok.start w) ?_
  repeat' (first | refine wau ?_ | (refine qbxq fun b_ => ?_) | (refine qal1q fun b_ => ?_) | (refine qal2q fun b_ => ?_) | (refine qal5q fun b_ => ?_) | (refine qal4q fun b_ => ?_) | (refine qal3q fun b_ => ?_) | (refine qbsq fun b_ _ => ?_) | refine qk1q ?_ | refine qr21q ?_ | (refine OpsH.isCall (f := 102) ?_; refine OpsH.he (HE.rg (F := fun _ => False) (r := memK m 15 x) wmem (fun _ h => h.elim) rfl rfl (fun w' hw' => ref23_memory F m _ x pt pl ct cl w' (hm0.chg (show Ext w w' from hw'.at) (fun _ _ _ h => h)) ha hi hb hj 15 hk h14 h15)) rfl ?_; rintro ⟨D_, p_, c_, q_, d_⟩ hD_; dsimp only) | (refine wspl ?_ ?_ <;> intro hc_))
  all_goals first | omega | (refine FinH.ret1c (.inl rfl) rfl rfl rfl rfl rfl wup rfl ?_; exact fun w' hw' => Gives.ofS (f0 := (memK m 15 x).1) (tf := fun y : Value × Value => .agg #[y.1, y.2, .int .i64 (memK m 15 x).2]) ⟨D_, p_, c_, q_, d_⟩ hw' wmem wmem (fun k h => .inr ((hD_ k h).resolve_left id)))
set_option maxHeartbeats 8000000 in
theorem ref23_wants_17 (F : Nat → Prop) (m : ApiModule) (cs : List Value) (locals : List Int) (x : Ins) (lp pt pl : Option Addr) (lc ct cl : Nat) (w : World) (hm : ApiModuleV F w cs m) (_hl : IntsR F w (.slice lp locals.length lc) locals) (_ht : IntsR F w (.slice pt x.types.length ct) x.types) (ha : 0 ≤ x.a) (hi : R64 x.a) (hb : 0 ≤ x.b) (hj : R64 x.b) (_hF : ∀ k, F k → k < w.heap.size) (_hT : TyB m) (hk : ofK x.op = 17) : Calls G.P 41 #[.agg cs.toArray, .slice lp locals.length lc, .agg #[Value.int .i64 x.op, Value.int .i64 x.a, Value.int .i64 x.b, Value.int .u64 x.n, Value.int .i64 x.kind, Value.int .i64 x.val, Value.int .i64 x.index, Value.slice pt x.types.length ct, Value.slice pl x.labels.length cl]] w (RPost (memK m 17 x) F w) := by
  have hm0 := hm
  obtain ⟨v0, v1, v2, v3, v4, v5, v6, v7, v8, v9, rfl, r0, r1, r2, r3, r4, r5, r6, r7, r8, r9, g0⟩ := hm
  have hof : ∀ w', Calls G.P 86 #[.int .i64 x.op] w' fun e w2 => e = .returned (.int .i64 17) ∧ Ext w' w2 := fun w' => by have := ref05_Of x.op w'; rw [show (row5 x.op).2.2 = 17 from hk] at this; exact this
  have h14 := k14_op (op := x.op)
  have h15 := k15_op (op := x.op)
  rw [hk] at h14 h15
  refine enterH (l := [_, _, _]) Tryz.func41 rfl Tryz.ntmps41 rfl (Ok.start w) ?_
  repeat' (first | refine wau ?_ | (refine qbxq fun b_ => ?_) | (refine qal1q fun b_ => ?_) | (refine qal2q fun b_ => ?_) | (refine qal5q fun b_ => ?_) | (refine qal4q fun b_ => ?_) | (refine qal3q fun b_ => ?_) | (refine qbsq fun b_ _ => ?_) | refine qk1q ?_ | refine qr21q ?_ | (refine OpsH.isCall (f := 102) ?_; refine OpsH.he (HE.rg (F := fun _ => False) (r := memK m 17 x) wmem (fun _ h => h.elim) rfl rfl (fun w' hw' => ref23_memory F m _ x pt pl ct cl w' (hm0.chg (show Ext w w' from hw'.at) (fun _ _ _ h => h)) ha hi hb hj 17 hk h14 h15)) rfl ?_; rintro ⟨D_, p_, c_, q_, d_⟩ hD_; dsimp only) | (refine wspl ?_ ?_ <;> intro hc_))
  all_goals first | omega | (refine FinH.ret1c (.inl rfl) rfl rfl rfl rfl rfl wup rfl ?_; exact fun w' hw' => Gives.ofS (f0 := (memK m 17 x).1) (tf := fun y : Value × Value => .agg #[y.1, y.2, .int .i64 (memK m 17 x).2]) ⟨D_, p_, c_, q_, d_⟩ hw' wmem wmem (fun k h => .inr ((hD_ k h).resolve_left id)))
set_option maxHeartbeats 8000000 in
theorem ref23_wants_16 (F : Nat → Prop) (m : ApiModule) (cs : List Value) (locals : List Int) (x : Ins) (lp pt pl : Option Addr) (lc ct cl : Nat) (w : World) (hm : ApiModuleV F w cs m) (_hl : IntsR F w (.slice lp locals.length lc) locals) (_ht : IntsR F w (.slice pt x.types.length ct) x.types) (_ha : 0 ≤ x.a) (_hi : R64 x.a) (_hb : 0 ≤ x.b) (_hj : R64 x.b) (_hF : ∀ k, F k → k < w.heap.size) (_hT : TyB m) (hk : ofK x.op = 16) : Calls G.P 41 #[.agg cs.toArray, .slice lp locals.length lc, .agg #[Value.int .i64 x.op, Value.int .i64 x.a, Value.int .i64 x.b, Value.int .u64 x.n, Value.int .i64 x.kind, Value.int .i64 x.val, Value.int .i64 x.index, Value.slice pt x.types.length ct, Value.slice pl x.labels.length cl]] w (RPost (if (m.datas.length : Int) ≤ x.a then (noF, 11) else sigW x.op) F w) := by
  have hm0 := hm
  obtain ⟨v0, v1, v2, v3, v4, v5, v6, v7, v8, v9, rfl, r0, r1, r2, r3, r4, r5, r6, r7, r8, r9, g0⟩ := hm
  have hof : ∀ w', Calls G.P 86 #[.int .i64 x.op] w' fun e w2 => e = .returned (.int .i64 16) ∧ Ext w' w2 := fun w' => by have := ref05_Of x.op w'; rw [show (row5 x.op).2.2 = 16 from hk] at this; exact this
  have hda := fun w' (hx : Ext w w') => ref08_Datas F m _ w' (hm0.chg hx (fun _ _ _ h => h))
  obtain ⟨nd, hnd⟩ : ∃ t : Int, (m.datas.length : Int) = t := ⟨_, rfl⟩
  rw [hnd] at hda ⊢
  clear hnd
  by_cases hd : nd ≤ x.a
  · rw [if_pos hd]
    refine enterH (l := [_, _, _]) Tryz.func41 rfl Tryz.ntmps41 rfl (Ok.start w) ?_
    repeat' (first | refine wau ?_ | (refine qbxq fun b_ => ?_) | (refine qal1q fun b_ => ?_) | (refine qal2q fun b_ => ?_) | (refine qal5q fun b_ => ?_) | (refine qal4q fun b_ => ?_) | (refine qal3q fun b_ => ?_) | (refine qbsq fun b_ _ => ?_) | refine qk1q ?_ | refine qr21q ?_ | (refine wspl ?_ ?_ <;> intro hc_))
    refine CdH.regionQ (by kernel_rfl) ?_
    refine wgh ?_
    refine Ops.callH (v := .int .i64 nd) rfl rfl rfl (fun w' hw' => hda w' hw'.at) ?_
    refine wgh ?_
    repeat' (first | refine wau ?_ | (refine qbxq fun b_ => ?_) | (refine qal1q fun b_ => ?_) | (refine qal2q fun b_ => ?_) | (refine qal5q fun b_ => ?_) | (refine qal4q fun b_ => ?_) | (refine qal3q fun b_ => ?_) | (refine qbsq fun b_ _ => ?_) | refine qk1q ?_ | (refine wspl ?_ ?_ <;> intro hc_))
    all_goals first | omega | exact FinH.ret1c (.inl rfl) rfl rfl rfl rfl rfl wup rfl fun w' hw' => ⟨⟨(_, _), rfl, qclq, qclq⟩, hw'.at⟩
  · rw [if_neg hd]
    refine enterH (l := [_, _, _]) Tryz.func41 rfl Tryz.ntmps41 rfl (Ok.start w) ?_
    repeat' (first | refine wau ?_ | (refine qbxq fun b_ => ?_) | (refine qal1q fun b_ => ?_) | (refine qal2q fun b_ => ?_) | (refine qal5q fun b_ => ?_) | (refine qal4q fun b_ => ?_) | (refine qal3q fun b_ => ?_) | (refine qbsq fun b_ _ => ?_) | refine qk1q ?_ | refine qr21q ?_ | (refine wspl ?_ ?_ <;> intro hc_))
    refine CdH.regionQ (by kernel_rfl) ?_
    refine wgh ?_
    refine Ops.callH (v := .int .i64 nd) rfl rfl rfl (fun w' hw' => hda w' hw'.at) ?_
    refine wgh ?_
    repeat' (first | refine wau ?_ | (refine qbxq fun b_ => ?_) | (refine qal1q fun b_ => ?_) | (refine qal2q fun b_ => ?_) | (refine qal5q fun b_ => ?_) | (refine qal4q fun b_ => ?_) | (refine qal3q fun b_ => ?_) | (refine qbsq fun b_ _ => ?_) | refine qk1q ?_ | (refine OpsH.isCall (f := 104) ?_; refine OpsH.he (HE.rg (F := fun _ => False) (r := sigW x.op) wmem (fun _ h => h.elim) rfl rfl (fun w' hw' => ref23_sig x.op w')) rfl ?_; rintro ⟨D_, p_, c_, q_, d_⟩ hD_; dsimp only) | (refine wspl ?_ ?_ <;> intro hc_))
    all_goals first | omega | (refine FinH.ret1c (.inl rfl) rfl rfl rfl rfl rfl wup rfl ?_; exact fun w' hw' => Gives.ofS (f0 := (sigW x.op).1) (tf := fun y : Value × Value => .agg #[y.1, y.2, .int .i64 (sigW x.op).2]) ⟨D_, p_, c_, q_, d_⟩ hw' wmem wmem (fun k h => .inr ((hD_ k h).resolve_left id)))
set_option maxHeartbeats 8000000 in
theorem ref23_wants_20 (F : Nat → Prop) (m : ApiModule) (cs : List Value) (locals : List Int) (x : Ins) (lp pt pl : Option Addr) (lc ct cl : Nat) (w : World) (hm : ApiModuleV F w cs m) (_hl : IntsR F w (.slice lp locals.length lc) locals) (_ht : IntsR F w (.slice pt x.types.length ct) x.types) (_ha : 0 ≤ x.a) (_hi : R64 x.a) (_hb : 0 ≤ x.b) (_hj : R64 x.b) (_hF : ∀ k, F k → k < w.heap.size) (_hT : TyB m) (hk : ofK x.op = 20) : Calls G.P 41 #[.agg cs.toArray, .slice lp locals.length lc, .agg #[Value.int .i64 x.op, Value.int .i64 x.a, Value.int .i64 x.b, Value.int .u64 x.n, Value.int .i64 x.kind, Value.int .i64 x.val, Value.int .i64 x.index, Value.slice pt x.types.length ct, Value.slice pl x.labels.length cl]] w (RPost (⟨[], [x.a]⟩, 0) F w) := by
  have hm0 := hm
  obtain ⟨v0, v1, v2, v3, v4, v5, v6, v7, v8, v9, rfl, r0, r1, r2, r3, r4, r5, r6, r7, r8, r9, g0⟩ := hm
  have hof : ∀ w', Calls G.P 86 #[.int .i64 x.op] w' fun e w2 => e = .returned (.int .i64 20) ∧ Ext w' w2 := fun w' => by have := ref05_Of x.op w'; rw [show (row5 x.op).2.2 = 20 from hk] at this; exact this
  refine enterH (l := [_, _, _]) Tryz.func41 rfl Tryz.ntmps41 rfl (Ok.start w) ?_
  repeat' (first | refine wau ?_ | (refine qbxq fun b_ => ?_) | (refine qal1q fun b_ => ?_) | (refine qal2q fun b_ => ?_) | (refine qal5q fun b_ => ?_) | (refine qal4q fun b_ => ?_) | (refine qal3q fun b_ => ?_) | (refine qbsq fun b_ _ => ?_) | refine qk1q ?_ | refine qr21q ?_ | (refine wspl ?_ ?_ <;> intro hc_))
  all_goals first | omega | exact FinH.ret1c (.inl rfl) rfl rfl rfl rfl rfl wup rfl fun w' hw' => ⟨⟨(_, _), rfl, qclq, qclq⟩, hw'.at⟩
set_option maxHeartbeats 8000000 in
theorem ref23_wants_0 (F : Nat → Prop) (m : ApiModule) (cs : List Value) (locals : List Int) (x : Ins) (lp pt pl : Option Addr) (lc ct cl : Nat) (w : World) (hm : ApiModuleV F w cs m) (_hl : IntsR F w (.slice lp locals.length lc) locals) (_ht : IntsR F w (.slice pt x.types.length ct) x.types) (_ha : 0 ≤ x.a) (_hi : R64 x.a) (_hb : 0 ≤ x.b) (_hj : R64 x.b) (_hF : ∀ k, F k → k < w.heap.size) (_hT : TyB m) (hk : ofK x.op = 0) : Calls G.P 41 #[.agg cs.toArray, .slice lp locals.length lc, .agg #[Value.int .i64 x.op, Value.int .i64 x.a, Value.int .i64 x.b, Value.int .u64 x.n, Value.int .i64 x.kind, Value.int .i64 x.val, Value.int .i64 x.index, Value.slice pt x.types.length ct, Value.slice pl x.labels.length cl]] w (RPost (sigW x.op) F w) := by
  have hm0 := hm
  obtain ⟨v0, v1, v2, v3, v4, v5, v6, v7, v8, v9, rfl, r0, r1, r2, r3, r4, r5, r6, r7, r8, r9, g0⟩ := hm
  have hof : ∀ w', Calls G.P 86 #[.int .i64 x.op] w' fun e w2 => e = .returned (.int .i64 0) ∧ Ext w' w2 := fun w' => by have := ref05_Of x.op w'; rw [show (row5 x.op).2.2 = 0 from hk] at this; exact this
  refine enterH (l := [_, _, _]) Tryz.func41 rfl Tryz.ntmps41 rfl (Ok.start w) ?_
  repeat' (first | refine wau ?_ | (refine qbxq fun b_ => ?_) | (refine qal1q fun b_ => ?_) | (refine qal2q fun b_ => ?_) | (refine qal5q fun b_ => ?_) | (refine qal4q fun b_ => ?_) | (refine qal3q fun b_ => ?_) | (refine qbsq fun b_ _ => ?_) | refine qk1q ?_ | refine qr21q ?_ | (refine OpsH.isCall (f := 104) ?_; refine OpsH.he (HE.rg (F := fun _ => False) (r := sigW x.op) wmem (fun _ h => h.elim) rfl rfl (fun w' hw' => ref23_sig x.op w')) rfl ?_; rintro ⟨D_, p_, c_, q_, d_⟩ hD_; dsimp only) | (refine wspl ?_ ?_ <;> intro hc_))
  all_goals first | omega | (refine FinH.ret1c (.inl rfl) rfl rfl rfl rfl rfl wup rfl ?_; exact fun w' hw' => Gives.ofS (f0 := (sigW x.op).1) (tf := fun y : Value × Value => .agg #[y.1, y.2, .int .i64 (sigW x.op).2]) ⟨D_, p_, c_, q_, d_⟩ hw' wmem wmem (fun k h => .inr ((hD_ k h).resolve_left id)))
set_option maxHeartbeats 8000000 in
theorem ref23_wants_18 (F : Nat → Prop) (m : ApiModule) (cs : List Value) (locals : List Int) (x : Ins) (lp pt pl : Option Addr) (lc ct cl : Nat) (w : World) (hm : ApiModuleV F w cs m) (_hl : IntsR F w (.slice lp locals.length lc) locals) (_ht : IntsR F w (.slice pt x.types.length ct) x.types) (_ha : 0 ≤ x.a) (_hi : R64 x.a) (_hb : 0 ≤ x.b) (_hj : R64 x.b) (_hF : ∀ k, F k → k < w.heap.size) (_hT : TyB m) (hk : ofK x.op = 18) : Calls G.P 41 #[.agg cs.toArray, .slice lp locals.length lc, .agg #[Value.int .i64 x.op, Value.int .i64 x.a, Value.int .i64 x.b, Value.int .u64 x.n, Value.int .i64 x.kind, Value.int .i64 x.val, Value.int .i64 x.index, Value.slice pt x.types.length ct, Value.slice pl x.labels.length cl]] w (RPost (sigW x.op) F w) := by
  have hm0 := hm
  obtain ⟨v0, v1, v2, v3, v4, v5, v6, v7, v8, v9, rfl, r0, r1, r2, r3, r4, r5, r6, r7, r8, r9, g0⟩ := hm
  have hof : ∀ w', Calls G.P 86 #[.int .i64 x.op] w' fun e w2 => e = .returned (.int .i64 18) ∧ Ext w' w2 := fun w' => by have := ref05_Of x.op w'; rw [show (row5 x.op).2.2 = 18 from hk] at this; exact this
  refine enterH (l := [_, _, _]) Tryz.func41 rfl Tryz.ntmps41 rfl (Ok.start w) ?_
  repeat' (first | refine wau ?_ | (refine qbxq fun b_ => ?_) | (refine qal1q fun b_ => ?_) | (refine qal2q fun b_ => ?_) | (refine qal5q fun b_ => ?_) | (refine qal4q fun b_ => ?_) | (refine qal3q fun b_ => ?_) | (refine qbsq fun b_ _ => ?_) | refine qk1q ?_ | refine qr21q ?_ | (refine OpsH.isCall (f := 104) ?_; refine OpsH.he (HE.rg (F := fun _ => False) (r := sigW x.op) wmem (fun _ h => h.elim) rfl rfl (fun w' hw' => ref23_sig x.op w')) rfl ?_; rintro ⟨D_, p_, c_, q_, d_⟩ hD_; dsimp only) | (refine wspl ?_ ?_ <;> intro hc_))
  all_goals first | omega | (refine FinH.ret1c (.inl rfl) rfl rfl rfl rfl rfl wup rfl ?_; exact fun w' hw' => Gives.ofS (f0 := (sigW x.op).1) (tf := fun y : Value × Value => .agg #[y.1, y.2, .int .i64 (sigW x.op).2]) ⟨D_, p_, c_, q_, d_⟩ hw' wmem wmem (fun k h => .inr ((hD_ k h).resolve_left id)))
set_option maxHeartbeats 8000000 in
theorem ref23_wants_19 (F : Nat → Prop) (m : ApiModule) (cs : List Value) (locals : List Int) (x : Ins) (lp pt pl : Option Addr) (lc ct cl : Nat) (w : World) (hm : ApiModuleV F w cs m) (_hl : IntsR F w (.slice lp locals.length lc) locals) (_ht : IntsR F w (.slice pt x.types.length ct) x.types) (_ha : 0 ≤ x.a) (_hi : R64 x.a) (_hb : 0 ≤ x.b) (_hj : R64 x.b) (_hF : ∀ k, F k → k < w.heap.size) (_hT : TyB m) (hk : ofK x.op = 19) : Calls G.P 41 #[.agg cs.toArray, .slice lp locals.length lc, .agg #[Value.int .i64 x.op, Value.int .i64 x.a, Value.int .i64 x.b, Value.int .u64 x.n, Value.int .i64 x.kind, Value.int .i64 x.val, Value.int .i64 x.index, Value.slice pt x.types.length ct, Value.slice pl x.labels.length cl]] w (RPost (sigW x.op) F w) := by
  have hm0 := hm
  obtain ⟨v0, v1, v2, v3, v4, v5, v6, v7, v8, v9, rfl, r0, r1, r2, r3, r4, r5, r6, r7, r8, r9, g0⟩ := hm
  have hof : ∀ w', Calls G.P 86 #[.int .i64 x.op] w' fun e w2 => e = .returned (.int .i64 19) ∧ Ext w' w2 := fun w' => by have := ref05_Of x.op w'; rw [show (row5 x.op).2.2 = 19 from hk] at this; exact this
  refine enterH (l := [_, _, _]) Tryz.func41 rfl Tryz.ntmps41 rfl (Ok.start w) ?_
  repeat' (first | refine wau ?_ | (refine qbxq fun b_ => ?_) | (refine qal1q fun b_ => ?_) | (refine qal2q fun b_ => ?_) | (refine qal5q fun b_ => ?_) | (refine qal4q fun b_ => ?_) | (refine qal3q fun b_ => ?_) | (refine qbsq fun b_ _ => ?_) | refine qk1q ?_ | refine qr21q ?_ | (refine OpsH.isCall (f := 104) ?_; refine OpsH.he (HE.rg (F := fun _ => False) (r := sigW x.op) wmem (fun _ h => h.elim) rfl rfl (fun w' hw' => ref23_sig x.op w')) rfl ?_; rintro ⟨D_, p_, c_, q_, d_⟩ hD_; dsimp only) | (refine wspl ?_ ?_ <;> intro hc_))
  all_goals first | omega | (refine FinH.ret1c (.inl rfl) rfl rfl rfl rfl rfl wup rfl ?_; exact fun w' hw' => Gives.ofS (f0 := (sigW x.op).1) (tf := fun y : Value × Value => .agg #[y.1, y.2, .int .i64 (sigW x.op).2]) ⟨D_, p_, c_, q_, d_⟩ hw' wmem wmem (fun k h => .inr ((hD_ k h).resolve_left id)))
end Go.Proofs.YtgbgnipidakdhaaGreatDoor
