/- Layer 23: the things that an instruction names. Printed by gen_we.py. -/
import Derived.Test.YtgbgnipidakdhaaGreatDoorJWd
namespace Go.Proofs.YtgbgnipidakdhaaGreatDoor
open Go.RowKit
set_option maxRecDepth 100000
def thingsT (k : Int) (ba bb : Bool) (ta tb : Int) (be : Bool) (te : Int) (ma mb : Bool) (a nd al : Int) : Int :=
  if k = 10 then (if (ba && bb) = false then 11 else if ta ≠ tb then 12 else 0) else if k = 11 then (if (be && bb) = false then 11 else if te ≠ tb then 12 else 0) else
  if k = 12 then (if be = false then 11 else 0) else if k = 16 then (if a < nd then 0 else 11) else if k = 15 then (if mb = true ∧ a < nd then 0 else 11) else
  if k = 14 then (if ma = false ∨ mb = false then 11 else 0) else if k = 13 then (if mb = false then 11 else 0) else
  if k = 17 then (if mb = true ∧ al < a then 19 else if mb = false then 11 else 0) else 0
def thingsK (m : ApiModule) (x : Ins) : Int := thingsT (ofK x.op) (atK (tablesM m) x.a).isSome (atK (tablesM m) x.b).isSome ((atK (tablesM m) x.a).getD noT).elem ((atK (tablesM m) x.b).getD noT).elem (atK (elemsM m) x.a).isSome ((atK (elemsM m) x.a).getD 0) (atK (memsM m) x.a).isSome (atK (memsM m) x.b).isSome x.a m.datas.length (alignK x.op)
theorem qr12q {g g' : Prop} (h : g') (hw : Hold g' → g := by (intro hk_; (first | (refine OpsH.isCall (f := 76) ?_; refine OpsH.call1 rfl rfl rfl (fun w' hw' => ho w' hw'.at) ?_)); exact hk_.out)) : g := hw ⟨h⟩
set_option maxHeartbeats 8000000 in
theorem rule_things_10 (B : Nat) (m : ApiModule) (v : Value) (op a b n kind val index : Int) (pt pl : Option Addr) (nt nl ct cl : Nat) (k : Int) (al : Int) (w : World) (h : SpaceRd B m w v) (hk : k = 10)
    (ho : ∀ w', Ext w w' → Calls G.P 76 #[.int .i64 op] w' fun e w2 => e = .returned (.int .i64 k) ∧ Ext w' w2)
    (_ha : ∀ w', Ext w w' → Calls G.P 138 #[.int .i64 op] w' fun e w2 => e = .returned (.int .i64 al) ∧ Ext w' w2) :
    Calls G.P 83 #[v, .agg #[Value.int .i64 op, Value.int .i64 a, Value.int .i64 b, Value.int .u64 n, Value.int .i64 kind, Value.int .i64 val, Value.int .i64 index, Value.slice pt nt ct, Value.slice pl nl cl]] w fun e w' => e = .returned (.int .i64 (thingsT k (atK (tablesM m) a).isSome (atK (tablesM m) b).isSome ((atK (tablesM m) a).getD noT).elem ((atK (tablesM m) b).getD noT).elem (atK (elemsM m) a).isSome ((atK (elemsM m) a).getD 0) (atK (memsM m) a).isSome (atK (memsM m) b).isSome a m.datas.length al)) ∧ Ext w w' := by
  obtain ⟨T, hT⟩ : ∃ T : Int → ApiTable, ∀ i, (atK (tablesM m) i).getD noT = T i := ⟨_, fun _ => rfl⟩
  obtain ⟨S, hS⟩ : ∃ T : Int → Bool, ∀ i, (atK (tablesM m) i).isSome = T i := ⟨_, fun _ => rfl⟩
  obtain ⟨ML, hML⟩ : ∃ T : Int → ApiLimits, ∀ i, (atK (memsM m) i).getD noL = T i := ⟨_, fun _ => rfl⟩
  obtain ⟨MS, hMS⟩ : ∃ T : Int → Bool, ∀ i, (atK (memsM m) i).isSome = T i := ⟨_, fun _ => rfl⟩
  obtain ⟨te, hte⟩ : ∃ t, (atK (elemsM m) a).getD 0 = t := ⟨_, rfl⟩
  obtain ⟨be, hbe⟩ : ∃ t, (atK (elemsM m) a).isSome = t := ⟨_, rfl⟩
  obtain ⟨nd, hnd⟩ : ∃ t : Int, (m.datas.length : Int) = t := ⟨_, rfl⟩
  have gT : ∀ i w', Ext w w' → Calls G.P 132 #[v, .int .i64 i] w' fun e w2 => e = .returned (.tuple #[.agg #[.int .i64 (T i).elem, .int .i64 (T i).lim.min, .int .i64 (T i).lim.max, .bool (T i).lim.has], .bool (S i)]) ∧ Ext w' w2 := fun i w' hx => by have := space_Table B m v i w' (h.chg hx (fun _ _ h => h)); rw [hT, hS] at this; exact this
  have gM : ∀ i w', Ext w w' → Calls G.P 137 #[v, .int .i64 i] w' fun e w2 => e = .returned (.tuple #[.agg #[.int .i64 (ML i).min, .int .i64 (ML i).max, .bool (ML i).has], .bool (MS i)]) ∧ Ext w' w2 := fun i w' hx => by have := space_Mem B m v i w' (h.chg hx (fun _ _ h => h)); rw [hML, hMS] at this; exact this
  have gE : ∀ w', Ext w w' → Calls G.P 135 #[v, .int .i64 a] w' fun e w2 => e = .returned (.tuple #[.int .i64 te, .bool be]) ∧ Ext w' w2 := fun w' hx => by have := space_Elem B m v a w' (h.chg hx (fun _ _ h => h)); rw [hte, hbe] at this; exact this
  have gnd : ∀ w', Ext w w' → Calls G.P 136 #[v] w' fun e w2 => e = .returned (.int .i64 nd) ∧ Ext w' w2 := fun w' hx => by have := space_Datas B m v w' (h.chg hx (fun _ _ h => h)); rw [hnd] at this; exact this
  simp only [hT, hS, hMS, hte, hbe, hnd]
  clear hT hS hML hMS hte hbe hnd
  obtain rfl := hk
  skip
  refine enterH (l := [_, _]) Tryz.func83 rfl Tryz.ntmps83 rfl (Ok.start w) ?_
  repeat' (first | refine wau ?_ | (refine qbxq fun b_ => ?_) | (refine qal2q fun b_ => ?_) | (refine qal5q fun b_ => ?_) | (refine qal4q fun b_ => ?_) | (refine qal3q fun b_ => ?_) | refine qr12q ?_ | (refine OpsH.isCall (f := 132) ?_; refine OpsH.call1 rfl rfl rfl (fun w' hw' => gT _ w' hw'.at) ?_) | (refine OpsH.isCall (f := 134) ?_; refine OpsH.call1 rfl rfl rfl (fun w' hw' => rule_alike _ _ _ w') ?_) | (refine wspl ?_ ?_ <;> intro hc_))
  all_goals first | (exfalso; omega) | exact FinH.ret1 rfl rfl fun w' hw' => ⟨by clear hw' gT gM gE gnd ho _ha h; refine congrArg Ending.returned (congrArg (Value.int .i64) ?_); simp only [thingsT, if_true, if_false, Int.reduceEq, *]; first | done | rfl | simp_all | (simp_all <;> (intros; omega)), hw'.at⟩
set_option maxHeartbeats 8000000 in
theorem rule_things_11 (B : Nat) (m : ApiModule) (v : Value) (op a b n kind val index : Int) (pt pl : Option Addr) (nt nl ct cl : Nat) (k : Int) (al : Int) (w : World) (h : SpaceRd B m w v) (hk : k = 11)
    (ho : ∀ w', Ext w w' → Calls G.P 76 #[.int .i64 op] w' fun e w2 => e = .returned (.int .i64 k) ∧ Ext w' w2)
    (_ha : ∀ w', Ext w w' → Calls G.P 138 #[.int .i64 op] w' fun e w2 => e = .returned (.int .i64 al) ∧ Ext w' w2) :
    Calls G.P 83 #[v, .agg #[Value.int .i64 op, Value.int .i64 a, Value.int .i64 b, Value.int .u64 n, Value.int .i64 kind, Value.int .i64 val, Value.int .i64 index, Value.slice pt nt ct, Value.slice pl nl cl]] w fun e w' => e = .returned (.int .i64 (thingsT k (atK (tablesM m) a).isSome (atK (tablesM m) b).isSome ((atK (tablesM m) a).getD noT).elem ((atK (tablesM m) b).getD noT).elem (atK (elemsM m) a).isSome ((atK (elemsM m) a).getD 0) (atK (memsM m) a).isSome (atK (memsM m) b).isSome a m.datas.length al)) ∧ Ext w w' := by
  obtain ⟨T, hT⟩ : ∃ T : Int → ApiTable, ∀ i, (atK (tablesM m) i).getD noT = T i := ⟨_, fun _ => rfl⟩
  obtain ⟨S, hS⟩ : ∃ T : Int → Bool, ∀ i, (atK (tablesM m) i).isSome = T i := ⟨_, fun _ => rfl⟩
  obtain ⟨ML, hML⟩ : ∃ T : Int → ApiLimits, ∀ i, (atK (memsM m) i).getD noL = T i := ⟨_, fun _ => rfl⟩
  obtain ⟨MS, hMS⟩ : ∃ T : Int → Bool, ∀ i, (atK (memsM m) i).isSome = T i := ⟨_, fun _ => rfl⟩
  obtain ⟨te, hte⟩ : ∃ t, (atK (elemsM m) a).getD 0 = t := ⟨_, rfl⟩
  obtain ⟨be, hbe⟩ : ∃ t, (atK (elemsM m) a).isSome = t := ⟨_, rfl⟩
  obtain ⟨nd, hnd⟩ : ∃ t : Int, (m.datas.length : Int) = t := ⟨_, rfl⟩
  have gT : ∀ i w', Ext w w' → Calls G.P 132 #[v, .int .i64 i] w' fun e w2 => e = .returned (.tuple #[.agg #[.int .i64 (T i).elem, .int .i64 (T i).lim.min, .int .i64 (T i).lim.max, .bool (T i).lim.has], .bool (S i)]) ∧ Ext w' w2 := fun i w' hx => by have := space_Table B m v i w' (h.chg hx (fun _ _ h => h)); rw [hT, hS] at this; exact this
  have gM : ∀ i w', Ext w w' → Calls G.P 137 #[v, .int .i64 i] w' fun e w2 => e = .returned (.tuple #[.agg #[.int .i64 (ML i).min, .int .i64 (ML i).max, .bool (ML i).has], .bool (MS i)]) ∧ Ext w' w2 := fun i w' hx => by have := space_Mem B m v i w' (h.chg hx (fun _ _ h => h)); rw [hML, hMS] at this; exact this
  have gE : ∀ w', Ext w w' → Calls G.P 135 #[v, .int .i64 a] w' fun e w2 => e = .returned (.tuple #[.int .i64 te, .bool be]) ∧ Ext w' w2 := fun w' hx => by have := space_Elem B m v a w' (h.chg hx (fun _ _ h => h)); rw [hte, hbe] at this; exact this
  have gnd : ∀ w', Ext w w' → Calls G.P 136 #[v] w' fun e w2 => e = .returned (.int .i64 nd) ∧ Ext w' w2 := fun w' hx => by have := space_Datas B m v w' (h.chg hx (fun _ _ h => h)); rw [hnd] at this; exact this
  simp only [hT, hS, hMS, hte, hbe, hnd]
  clear hT hS hML hMS hte hbe hnd
  obtain rfl := hk
  skip
  refine enterH (l := [_, _]) Tryz.func83 rfl Tryz.ntmps83 rfl (Ok.start w) ?_
  repeat' (first | refine wau ?_ | (refine qbxq fun b_ => ?_) | (refine qal2q fun b_ => ?_) | (refine qal5q fun b_ => ?_) | (refine qal4q fun b_ => ?_) | (refine qal3q fun b_ => ?_) | refine qr12q ?_ | (refine OpsH.isCall (f := 135) ?_; refine OpsH.call1 rfl rfl rfl (fun w' hw' => gE w' hw'.at) ?_) | (refine OpsH.isCall (f := 132) ?_; refine OpsH.call1 rfl rfl rfl (fun w' hw' => gT _ w' hw'.at) ?_) | (refine OpsH.isCall (f := 134) ?_; refine OpsH.call1 rfl rfl rfl (fun w' hw' => rule_alike _ _ _ w') ?_) | (refine wspl ?_ ?_ <;> intro hc_))
  all_goals first | (exfalso; omega) | exact FinH.ret1 rfl rfl fun w' hw' => ⟨by clear hw' gT gM gE gnd ho _ha h; refine congrArg Ending.returned (congrArg (Value.int .i64) ?_); simp only [thingsT, if_true, if_false, Int.reduceEq, *]; first | done | rfl | simp_all | (simp_all <;> (intros; omega)), hw'.at⟩
set_option maxHeartbeats 8000000 in
theorem rule_things_12 (B : Nat) (m : ApiModule) (v : Value) (op a b n kind val index : Int) (pt pl : Option Addr) (nt nl ct cl : Nat) (k : Int) (al : Int) (w : World) (h : SpaceRd B m w v) (hk : k = 12)
    (ho : ∀ w', Ext w w' → Calls G.P 76 #[.int .i64 op] w' fun e w2 => e = .returned (.int .i64 k) ∧ Ext w' w2)
    (_ha : ∀ w', Ext w w' → Calls G.P 138 #[.int .i64 op] w' fun e w2 => e = .returned (.int .i64 al) ∧ Ext w' w2) :
    Calls G.P 83 #[v, .agg #[Value.int .i64 op, Value.int .i64 a, Value.int .i64 b, Value.int .u64 n, Value.int .i64 kind, Value.int .i64 val, Value.int .i64 index, Value.slice pt nt ct, Value.slice pl nl cl]] w fun e w' => e = .returned (.int .i64 (thingsT k (atK (tablesM m) a).isSome (atK (tablesM m) b).isSome ((atK (tablesM m) a).getD noT).elem ((atK (tablesM m) b).getD noT).elem (atK (elemsM m) a).isSome ((atK (elemsM m) a).getD 0) (atK (memsM m) a).isSome (atK (memsM m) b).isSome a m.datas.length al)) ∧ Ext w w' := by
  obtain ⟨T, hT⟩ : ∃ T : Int → ApiTable, ∀ i, (atK (tablesM m) i).getD noT = T i := ⟨_, fun _ => rfl⟩
  obtain ⟨S, hS⟩ : ∃ T : Int → Bool, ∀ i, (atK (tablesM m) i).isSome = T i := ⟨_, fun _ => rfl⟩
  obtain ⟨ML, hML⟩ : ∃ T : Int → ApiLimits, ∀ i, (atK (memsM m) i).getD noL = T i := ⟨_, fun _ => rfl⟩
  obtain ⟨MS, hMS⟩ : ∃ T : Int → Bool, ∀ i, (atK (memsM m) i).isSome = T i := ⟨_, fun _ => rfl⟩
  obtain ⟨te, hte⟩ : ∃ t, (atK (elemsM m) a).getD 0 = t := ⟨_, rfl⟩
  obtain ⟨be, hbe⟩ : ∃ t, (atK (elemsM m) a).isSome = t := ⟨_, rfl⟩
  obtain ⟨nd, hnd⟩ : ∃ t : Int, (m.datas.length : Int) = t := ⟨_, rfl⟩
  have gT : ∀ i w', Ext w w' → Calls G.P 132 #[v, .int .i64 i] w' fun e w2 => e = .returned (.tuple #[.agg #[.int .i64 (T i).elem, .int .i64 (T i).lim.min, .int .i64 (T i).lim.max, .bool (T i).lim.has], .bool (S i)]) ∧ Ext w' w2 := fun i w' hx => by have := space_Table B m v i w' (h.chg hx (fun _ _ h => h)); rw [hT, hS] at this; exact this
  have gM : ∀ i w', Ext w w' → Calls G.P 137 #[v, .int .i64 i] w' fun e w2 => e = .returned (.tuple #[.agg #[.int .i64 (ML i).min, .int .i64 (ML i).max, .bool (ML i).has], .bool (MS i)]) ∧ Ext w' w2 := fun i w' hx => by have := space_Mem B m v i w' (h.chg hx (fun _ _ h => h)); rw [hML, hMS] at this; exact this
  have gE : ∀ w', Ext w w' → Calls G.P 135 #[v, .int .i64 a] w' fun e w2 => e = .returned (.tuple #[.int .i64 te, .bool be]) ∧ Ext w' w2 := fun w' hx => by have := space_Elem B m v a w' (h.chg hx (fun _ _ h => h)); rw [hte, hbe] at this; exact this
  have gnd : ∀ w', Ext w w' → Calls G.P 136 #[v] w' fun e w2 => e = .returned (.int .i64 nd) ∧ Ext w' w2 := fun w' hx => by have := space_Datas B m v w' (h.chg hx (fun _ _ h => h)); rw [hnd] at this; exact this
  simp only [hT, hS, hMS, hte, hbe, hnd]
  clear hT hS hML hMS hte hbe hnd
  obtain rfl := hk
  skip
  refine enterH (l := [_, _]) Tryz.func83 rfl Tryz.ntmps83 rfl (Ok.start w) ?_
  repeat' (first | refine wau ?_ | (refine qbxq fun b_ => ?_) | (refine qal2q fun b_ => ?_) | (refine qal5q fun b_ => ?_) | (refine qal4q fun b_ => ?_) | (refine qal3q fun b_ => ?_) | refine qr12q ?_ | (refine OpsH.isCall (f := 135) ?_; refine OpsH.call1 rfl rfl rfl (fun w' hw' => gE w' hw'.at) ?_) | (refine wspl ?_ ?_ <;> intro hc_))
  all_goals first | (exfalso; omega) | exact FinH.ret1 rfl rfl fun w' hw' => ⟨by clear hw' gT gM gE gnd ho _ha h; refine congrArg Ending.returned (congrArg (Value.int .i64) ?_); simp only [thingsT, if_true, if_false, Int.reduceEq, *]; first | done | rfl | simp_all | (simp_all <;> (intros; omega)), hw'.at⟩
set_option maxHeartbeats 8000000 in
theorem rule_things_16 (B : Nat) (m : ApiModule) (v : Value) (op a b n kind val index : Int) (pt pl : Option Addr) (nt nl ct cl : Nat) (k : Int) (al : Int) (w : World) (h : SpaceRd B m w v) (hk : k = 16)
    (ho : ∀ w', Ext w w' → Calls G.P 76 #[.int .i64 op] w' fun e w2 => e = .returned (.int .i64 k) ∧ Ext w' w2)
    (_ha : ∀ w', Ext w w' → Calls G.P 138 #[.int .i64 op] w' fun e w2 => e = .returned (.int .i64 al) ∧ Ext w' w2) :
    Calls G.P 83 #[v, .agg #[Value.int .i64 op, Value.int .i64 a, Value.int .i64 b, Value.int .u64 n, Value.int .i64 kind, Value.int .i64 val, Value.int .i64 index, Value.slice pt nt ct, Value.slice pl nl cl]] w fun e w' => e = .returned (.int .i64 (thingsT k (atK (tablesM m) a).isSome (atK (tablesM m) b).isSome ((atK (tablesM m) a).getD noT).elem ((atK (tablesM m) b).getD noT).elem (atK (elemsM m) a).isSome ((atK (elemsM m) a).getD 0) (atK (memsM m) a).isSome (atK (memsM m) b).isSome a m.datas.length al)) ∧ Ext w w' := by
  obtain ⟨T, hT⟩ : ∃ T : Int → ApiTable, ∀ i, (atK (tablesM m) i).getD noT = T i := ⟨_, fun _ => rfl⟩
  obtain ⟨S, hS⟩ : ∃ T : Int → Bool, ∀ i, (atK (tablesM m) i).isSome = T i := ⟨_, fun _ => rfl⟩
  obtain ⟨ML, hML⟩ : ∃ T : Int → ApiLimits, ∀ i, (atK (memsM m) i).getD noL = T i := ⟨_, fun _ => rfl⟩
  obtain ⟨MS, hMS⟩ : ∃ T : Int → Bool, ∀ i, (atK (memsM m) i).isSome = T i := ⟨_, fun _ => rfl⟩
  obtain ⟨te, hte⟩ : ∃ t, (atK (elemsM m) a).getD 0 = t := ⟨_, rfl⟩
  obtain ⟨be, hbe⟩ : ∃ t, (atK (elemsM m) a).isSome = t := ⟨_, rfl⟩
  obtain ⟨nd, hnd⟩ : ∃ t : Int, (m.datas.length : Int) = t := ⟨_, rfl⟩
  have gT : ∀ i w', Ext w w' → Calls G.P 132 #[v, .int .i64 i] w' fun e w2 => e = .returned (.tuple #[.agg #[.int .i64 (T i).elem, .int .i64 (T i).lim.min, .int .i64 (T i).lim.max, .bool (T i).lim.has], .bool (S i)]) ∧ Ext w' w2 := fun i w' hx => by have := space_Table B m v i w' (h.chg hx (fun _ _ h => h)); rw [hT, hS] at this; exact this
  have gM : ∀ i w', Ext w w' → Calls G.P 137 #[v, .int .i64 i] w' fun e w2 => e = .returned (.tuple #[.agg #[.int .i64 (ML i).min, .int .i64 (ML i).max, .bool (ML i).has], .bool (MS i)]) ∧ Ext w' w2 := fun i w' hx => by have := space_Mem B m v i w' (h.chg hx (fun _ _ h => h)); rw [hML, hMS] at this; exact this
  have gE : ∀ w', Ext w w' → Calls G.P 135 #[v, .int .i64 a] w' fun e w2 => e = .returned (.tuple #[.int .i64 te, .bool be]) ∧ Ext w' w2 := fun w' hx => by have := space_Elem B m v a w' (h.chg hx (fun _ _ h => h)); rw [hte, hbe] at this; exact this
  have gnd : ∀ w', Ext w w' → Calls G.P 136 #[v] w' fun e w2 => e = .returned (.int .i64 nd) ∧ Ext w' w2 := fun w' hx => by have := space_Datas B m v w' (h.chg hx (fun _ _ h => h)); rw [hnd] at this; exact this
  simp only [hT, hS, hMS, hte, hbe, hnd]
  clear hT hS hML hMS hte hbe hnd
  obtain rfl := hk
  by_cases hlt : a < nd
  · refine enterH (l := [_, _]) Tryz.func83 rfl Tryz.ntmps83 rfl (Ok.start w) ?_
    repeat' (first | refine wau ?_ | (refine qbxq fun b_ => ?_) | (refine qal2q fun b_ => ?_) | (refine qal5q fun b_ => ?_) | (refine qal4q fun b_ => ?_) | (refine qal3q fun b_ => ?_) | refine qr12q ?_ | (refine wspl ?_ ?_ <;> intro hc_))
    refine CdH.regionQ (by kernel_rfl) ?_
    refine wgh ?_
    refine Ops.callH (v := .int .i64 nd) rfl rfl rfl (fun w' hw' => gnd w' hw'.at) ?_
    refine wgh ?_
    repeat' (first | refine wau ?_ | (refine qbxq fun b_ => ?_) | (refine qal2q fun b_ => ?_) | (refine qal5q fun b_ => ?_) | (refine qal4q fun b_ => ?_) | (refine qal3q fun b_ => ?_) | refine qr12q ?_ | (refine wspl ?_ ?_ <;> intro hc_))
    all_goals first | (exfalso; omega) | exact FinH.ret1 rfl rfl fun w' hw' => ⟨by clear hw' gT gM gE gnd ho _ha h; refine congrArg Ending.returned (congrArg (Value.int .i64) ?_); simp only [thingsT, if_true, if_false, Int.reduceEq, *]; first | done | rfl | simp_all | (simp_all <;> (intros; omega)), hw'.at⟩
  · refine enterH (l := [_, _]) Tryz.func83 rfl Tryz.ntmps83 rfl (Ok.start w) ?_
    repeat' (first | refine wau ?_ | (refine qbxq fun b_ => ?_) | (refine qal2q fun b_ => ?_) | (refine qal5q fun b_ => ?_) | (refine qal4q fun b_ => ?_) | (refine qal3q fun b_ => ?_) | refine qr12q ?_ | (refine wspl ?_ ?_ <;> intro hc_))
    refine CdH.regionQ (by kernel_rfl) ?_
    refine wgh ?_
    refine Ops.callH (v := .int .i64 nd) rfl rfl rfl (fun w' hw' => gnd w' hw'.at) ?_
    refine wgh ?_
    repeat' (first | refine wau ?_ | (refine qbxq fun b_ => ?_) | (refine qal2q fun b_ => ?_) | (refine qal5q fun b_ => ?_) | (refine qal4q fun b_ => ?_) | (refine qal3q fun b_ => ?_) | refine qr12q ?_ | (refine wspl ?_ ?_ <;> intro hc_))
    all_goals first | (exfalso; omega) | exact FinH.ret1 rfl rfl fun w' hw' => ⟨by clear hw' gT gM gE gnd ho _ha h; refine congrArg Ending.returned (congrArg (Value.int .i64) ?_); simp only [thingsT, if_true, if_false, Int.reduceEq, *]; first | done | rfl | simp_all | (simp_all <;> (intros; omega)), hw'.at⟩
theorem qr10q {g g' : Prop} (h : g') (hw : Hold g' → g := by (intro hk_; (first | refine qr12q ?_ | (refine OpsH.isCall (f := 137) ?_; refine OpsH.call1 (v := .tuple #[.agg #[.int .i64 (ML b).min, .int .i64 (ML b).max, .bool (ML b).has], .bool false]) rfl rfl rfl (fun w' hw' => by have := gM b w' hw'.at; rw [hz] at this; exact this) ?_)); exact hk_.out)) : g := hw ⟨h⟩
theorem qr11q {g g' : Prop} (h : g') (hw : Hold g' → g := by (intro hk_; (first | refine qr12q ?_ | (refine OpsH.isCall (f := 137) ?_; refine OpsH.call1 (v := .tuple #[.agg #[.int .i64 (ML b).min, .int .i64 (ML b).max, .bool (ML b).has], .bool true]) rfl rfl rfl (fun w' hw' => by have := gM b w' hw'.at; rw [hz] at this; exact this) ?_)); exact hk_.out)) : g := hw ⟨h⟩
set_option maxHeartbeats 8000000 in
theorem rule_things_15 (B : Nat) (m : ApiModule) (v : Value) (op a b n kind val index : Int) (pt pl : Option Addr) (nt nl ct cl : Nat) (k : Int) (al : Int) (w : World) (h : SpaceRd B m w v) (hk : k = 15)
    (ho : ∀ w', Ext w w' → Calls G.P 76 #[.int .i64 op] w' fun e w2 => e = .returned (.int .i64 k) ∧ Ext w' w2)
    (_ha : ∀ w', Ext w w' → Calls G.P 138 #[.int .i64 op] w' fun e w2 => e = .returned (.int .i64 al) ∧ Ext w' w2) :
    Calls G.P 83 #[v, .agg #[Value.int .i64 op, Value.int .i64 a, Value.int .i64 b, Value.int .u64 n, Value.int .i64 kind, Value.int .i64 val, Value.int .i64 index, Value.slice pt nt ct, Value.slice pl nl cl]] w fun e w' => e = .returned (.int .i64 (thingsT k (atK (tablesM m) a).isSome (atK (tablesM m) b).isSome ((atK (tablesM m) a).getD noT).elem ((atK (tablesM m) b).getD noT).elem (atK (elemsM m) a).isSome ((atK (elemsM m) a).getD 0) (atK (memsM m) a).isSome (atK (memsM m) b).isSome a m.datas.length al)) ∧ Ext w w' := by
  obtain ⟨T, hT⟩ : ∃ T : Int → ApiTable, ∀ i, (atK (tablesM m) i).getD noT = T i := ⟨_, fun _ => rfl⟩
  obtain ⟨S, hS⟩ : ∃ T : Int → Bool, ∀ i, (atK (tablesM m) i).isSome = T i := ⟨_, fun _ => rfl⟩
  obtain ⟨ML, hML⟩ : ∃ T : Int → ApiLimits, ∀ i, (atK (memsM m) i).getD noL = T i := ⟨_, fun _ => rfl⟩
  obtain ⟨MS, hMS⟩ : ∃ T : Int → Bool, ∀ i, (atK (memsM m) i).isSome = T i := ⟨_, fun _ => rfl⟩
  obtain ⟨te, hte⟩ : ∃ t, (atK (elemsM m) a).getD 0 = t := ⟨_, rfl⟩
  obtain ⟨be, hbe⟩ : ∃ t, (atK (elemsM m) a).isSome = t := ⟨_, rfl⟩
  obtain ⟨nd, hnd⟩ : ∃ t : Int, (m.datas.length : Int) = t := ⟨_, rfl⟩
  have gT : ∀ i w', Ext w w' → Calls G.P 132 #[v, .int .i64 i] w' fun e w2 => e = .returned (.tuple #[.agg #[.int .i64 (T i).elem, .int .i64 (T i).lim.min, .int .i64 (T i).lim.max, .bool (T i).lim.has], .bool (S i)]) ∧ Ext w' w2 := fun i w' hx => by have := space_Table B m v i w' (h.chg hx (fun _ _ h => h)); rw [hT, hS] at this; exact this
  have gM : ∀ i w', Ext w w' → Calls G.P 137 #[v, .int .i64 i] w' fun e w2 => e = .returned (.tuple #[.agg #[.int .i64 (ML i).min, .int .i64 (ML i).max, .bool (ML i).has], .bool (MS i)]) ∧ Ext w' w2 := fun i w' hx => by have := space_Mem B m v i w' (h.chg hx (fun _ _ h => h)); rw [hML, hMS] at this; exact this
  have gE : ∀ w', Ext w w' → Calls G.P 135 #[v, .int .i64 a] w' fun e w2 => e = .returned (.tuple #[.int .i64 te, .bool be]) ∧ Ext w' w2 := fun w' hx => by have := space_Elem B m v a w' (h.chg hx (fun _ _ h => h)); rw [hte, hbe] at this; exact this
  have gnd : ∀ w', Ext w w' → Calls G.P 136 #[v] w' fun e w2 => e = .returned (.int .i64 nd) ∧ Ext w' w2 := fun w' hx => by have := space_Datas B m v w' (h.chg hx (fun _ _ h => h)); rw [hnd] at this; exact this
  simp only [hT, hS, hMS, hte, hbe, hnd]
  clear hT hS hML hMS hte hbe hnd
  obtain rfl := hk
  by_cases hlt : a < nd
  · cases hz : MS b with
    | true =>
      refine enterH (l := [_, _]) Tryz.func83 rfl Tryz.ntmps83 rfl (Ok.start w) ?_
      repeat' (first | refine wau ?_ | (refine qbxq fun b_ => ?_) | (refine qal2q fun b_ => ?_) | (refine qal5q fun b_ => ?_) | (refine qal4q fun b_ => ?_) | (refine qal3q fun b_ => ?_) | refine qr11q ?_ | (refine wspl ?_ ?_ <;> intro hc_))
      refine CdH.regionQ (by kernel_rfl) ?_
      refine wgh ?_
      refine Ops.callHg (v := .int .i64 nd) rfl rfl rfl rfl (fun w' hw' => gnd w' hw'.at) ?_
      refine wgh ?_
      repeat' (first | refine wau ?_ | (refine qbxq fun b_ => ?_) | (refine qal2q fun b_ => ?_) | (refine qal5q fun b_ => ?_) | (refine qal4q fun b_ => ?_) | (refine qal3q fun b_ => ?_) | refine qr11q ?_ | (refine wspl ?_ ?_ <;> intro hc_))
      all_goals first | (exfalso; omega) | exact FinH.ret1 rfl rfl fun w' hw' => ⟨by clear hw' gT gM gE gnd ho _ha h; refine congrArg Ending.returned (congrArg (Value.int .i64) ?_); simp only [thingsT, if_true, if_false, Int.reduceEq, *]; first | done | rfl | simp_all | (simp_all <;> (intros; omega)), hw'.at⟩
    | false =>
      refine enterH (l := [_, _]) Tryz.func83 rfl Tryz.ntmps83 rfl (Ok.start w) ?_
      repeat' (first | refine wau ?_ | (refine qbxq fun b_ => ?_) | (refine qal2q fun b_ => ?_) | (refine qal5q fun b_ => ?_) | (refine qal4q fun b_ => ?_) | (refine qal3q fun b_ => ?_) | refine qr10q ?_ | (refine wspl ?_ ?_ <;> intro hc_))
      refine CdH.regionQ (by kernel_rfl) ?_
      refine wgh ?_
      repeat' (first | refine wau ?_ | (refine qbxq fun b_ => ?_) | (refine qal2q fun b_ => ?_) | (refine qal5q fun b_ => ?_) | (refine qal4q fun b_ => ?_) | (refine qal3q fun b_ => ?_) | refine qr10q ?_ | (refine wspl ?_ ?_ <;> intro hc_))
      all_goals first | (exfalso; omega) | exact FinH.ret1 rfl rfl fun w' hw' => ⟨by clear hw' gT gM gE gnd ho _ha h; refine congrArg Ending.returned (congrArg (Value.int .i64) ?_); simp only [thingsT, if_true, if_false, Int.reduceEq, *]; first | done | rfl | simp_all | (simp_all <;> (intros; omega)), hw'.at⟩
  · cases hz : MS b with
    | true =>
      refine enterH (l := [_, _]) Tryz.func83 rfl Tryz.ntmps83 rfl (Ok.start w) ?_
      repeat' (first | refine wau ?_ | (refine qbxq fun b_ => ?_) | (refine qal2q fun b_ => ?_) | (refine qal5q fun b_ => ?_) | (refine qal4q fun b_ => ?_) | (refine qal3q fun b_ => ?_) | refine qr11q ?_ | (refine wspl ?_ ?_ <;> intro hc_))
      refine CdH.regionQ (by kernel_rfl) ?_
      refine wgh ?_
      refine Ops.callHg (v := .int .i64 nd) rfl rfl rfl rfl (fun w' hw' => gnd w' hw'.at) ?_
      refine wgh ?_
      repeat' (first | refine wau ?_ | (refine qbxq fun b_ => ?_) | (refine qal2q fun b_ => ?_) | (refine qal5q fun b_ => ?_) | (refine qal4q fun b_ => ?_) | (refine qal3q fun b_ => ?_) | refine qr11q ?_ | (refine wspl ?_ ?_ <;> intro hc_))
      all_goals first | (exfalso; omega) | exact FinH.ret1 rfl rfl fun w' hw' => ⟨by clear hw' gT gM gE gnd ho _ha h; refine congrArg Ending.returned (congrArg (Value.int .i64) ?_); simp only [thingsT, if_true, if_false, Int.reduceEq, *]; first | done | rfl | simp_all | (simp_all <;> (intros; omega)), hw'.at⟩
    | false =>
      refine enterH (l := [_, _]) Tryz.func83 rfl Tryz.ntmps83 rfl (Ok.start w) ?_
      repeat' (first | refine wau ?_ | (refine qbxq fun b_ => ?_) | (refine qal2q fun b_ => ?_) | (refine qal5q fun b_ => ?_) | (refine qal4q fun b_ => ?_) | (refine qal3q fun b_ => ?_) | refine qr10q ?_ | (refine wspl ?_ ?_ <;> intro hc_))
      refine CdH.regionQ (by kernel_rfl) ?_
      refine wgh ?_
      repeat' (first | refine wau ?_ | (refine qbxq fun b_ => ?_) | (refine qal2q fun b_ => ?_) | (refine qal5q fun b_ => ?_) | (refine qal4q fun b_ => ?_) | (refine qal3q fun b_ => ?_) | refine qr10q ?_ | (refine wspl ?_ ?_ <;> intro hc_))
      all_goals first | (exfalso; omega) | exact FinH.ret1 rfl rfl fun w' hw' => ⟨by clear hw' gT gM gE gnd ho _ha h; refine congrArg Ending.returned (congrArg (Value.int .i64) ?_); simp only [thingsT, if_true, if_false, Int.reduceEq, *]; first | done | rfl | simp_all | (simp_all <;> (intros; omega)), hw'.at⟩
set_option maxHeartbeats 8000000 in
theorem rule_things_14 (B : Nat) (m : ApiModule) (v : Value) (op a b n kind val index : Int) (pt pl : Option Addr) (nt nl ct cl : Nat) (k : Int) (al : Int) (w : World) (h : SpaceRd B m w v) (hk : k = 14)
    (ho : ∀ w', Ext w w' → Calls G.P 76 #[.int .i64 op] w' fun e w2 => e = .returned (.int .i64 k) ∧ Ext w' w2)
    (_ha : ∀ w', Ext w w' → Calls G.P 138 #[.int .i64 op] w' fun e w2 => e = .returned (.int .i64 al) ∧ Ext w' w2) :
    Calls G.P 83 #[v, .agg #[Value.int .i64 op, Value.int .i64 a, Value.int .i64 b, Value.int .u64 n, Value.int .i64 kind, Value.int .i64 val, Value.int .i64 index, Value.slice pt nt ct, Value.slice pl nl cl]] w fun e w' => e = .returned (.int .i64 (thingsT k (atK (tablesM m) a).isSome (atK (tablesM m) b).isSome ((atK (tablesM m) a).getD noT).elem ((atK (tablesM m) b).getD noT).elem (atK (elemsM m) a).isSome ((atK (elemsM m) a).getD 0) (atK (memsM m) a).isSome (atK (memsM m) b).isSome a m.datas.length al)) ∧ Ext w w' := by
  obtain ⟨T, hT⟩ : ∃ T : Int → ApiTable, ∀ i, (atK (tablesM m) i).getD noT = T i := ⟨_, fun _ => rfl⟩
  obtain ⟨S, hS⟩ : ∃ T : Int → Bool, ∀ i, (atK (tablesM m) i).isSome = T i := ⟨_, fun _ => rfl⟩
  obtain ⟨ML, hML⟩ : ∃ T : Int → ApiLimits, ∀ i, (atK (memsM m) i).getD noL = T i := ⟨_, fun _ => rfl⟩
  obtain ⟨MS, hMS⟩ : ∃ T : Int → Bool, ∀ i, (atK (memsM m) i).isSome = T i := ⟨_, fun _ => rfl⟩
  obtain ⟨te, hte⟩ : ∃ t, (atK (elemsM m) a).getD 0 = t := ⟨_, rfl⟩
  obtain ⟨be, hbe⟩ : ∃ t, (atK (elemsM m) a).isSome = t := ⟨_, rfl⟩
  obtain ⟨nd, hnd⟩ : ∃ t : Int, (m.datas.length : Int) = t := ⟨_, rfl⟩
  have gT : ∀ i w', Ext w w' → Calls G.P 132 #[v, .int .i64 i] w' fun e w2 => e = .returned (.tuple #[.agg #[.int .i64 (T i).elem, .int .i64 (T i).lim.min, .int .i64 (T i).lim.max, .bool (T i).lim.has], .bool (S i)]) ∧ Ext w' w2 := fun i w' hx => by have := space_Table B m v i w' (h.chg hx (fun _ _ h => h)); rw [hT, hS] at this; exact this
  have gM : ∀ i w', Ext w w' → Calls G.P 137 #[v, .int .i64 i] w' fun e w2 => e = .returned (.tuple #[.agg #[.int .i64 (ML i).min, .int .i64 (ML i).max, .bool (ML i).has], .bool (MS i)]) ∧ Ext w' w2 := fun i w' hx => by have := space_Mem B m v i w' (h.chg hx (fun _ _ h => h)); rw [hML, hMS] at this; exact this
  have gE : ∀ w', Ext w w' → Calls G.P 135 #[v, .int .i64 a] w' fun e w2 => e = .returned (.tuple #[.int .i64 te, .bool be]) ∧ Ext w' w2 := fun w' hx => by have := space_Elem B m v a w' (h.chg hx (fun _ _ h => h)); rw [hte, hbe] at this; exact this
  have gnd : ∀ w', Ext w w' → Calls G.P 136 #[v] w' fun e w2 => e = .returned (.int .i64 nd) ∧ Ext w' w2 := fun w' hx => by have := space_Datas B m v w' (h.chg hx (fun _ _ h => h)); rw [hnd] at this; exact this
  simp only [hT, hS, hMS, hte, hbe, hnd]
  clear hT hS hML hMS hte hbe hnd
  obtain rfl := hk
  skip
  refine enterH (l := [_, _]) Tryz.func83 rfl Tryz.ntmps83 rfl (Ok.start w) ?_
  repeat' (first | refine wau ?_ | (refine qbxq fun b_ => ?_) | (refine qal2q fun b_ => ?_) | (refine qal5q fun b_ => ?_) | (refine qal4q fun b_ => ?_) | (refine qal3q fun b_ => ?_) | refine qr12q ?_ | (refine OpsH.isCall (f := 137) ?_; refine OpsH.call1 rfl rfl rfl (fun w' hw' => gM _ w' hw'.at) ?_) | (refine wspl ?_ ?_ <;> intro hc_))
  all_goals first | (exfalso; omega) | exact FinH.ret1 rfl rfl fun w' hw' => ⟨by clear hw' gT gM gE gnd ho _ha h; refine congrArg Ending.returned (congrArg (Value.int .i64) ?_); simp only [thingsT, if_true, if_false, Int.reduceEq, *]; first | done | rfl | simp_all | (simp_all <;> (intros; omega)), hw'.at⟩
set_option maxHeartbeats 8000000 in
theorem rule_things_13 (B : Nat) (m : ApiModule) (v : Value) (op a b n kind val index : Int) (pt pl : Option Addr) (nt nl ct cl : Nat) (k : Int) (al : Int) (w : World) (h : SpaceRd B m w v) (hk : k = 13)
    (ho : ∀ w', Ext w w' → Calls G.P 76 #[.int .i64 op] w' fun e w2 => e = .returned (.int .i64 k) ∧ Ext w' w2)
    (_ha : ∀ w', Ext w w' → Calls G.P 138 #[.int .i64 op] w' fun e w2 => e = .returned (.int .i64 al) ∧ Ext w' w2) :
    Calls G.P 83 #[v, .agg #[Value.int .i64 op, Value.int .i64 a, Value.int .i64 b, Value.int .u64 n, Value.int .i64 kind, Value.int .i64 val, Value.int .i64 index, Value.slice pt nt ct, Value.slice pl nl cl]] w fun e w' => e = .returned (.int .i64 (thingsT k (atK (tablesM m) a).isSome (atK (tablesM m) b).isSome ((atK (tablesM m) a).getD noT).elem ((atK (tablesM m) b).getD noT).elem (atK (elemsM m) a).isSome ((atK (elemsM m) a).getD 0) (atK (memsM m) a).isSome (atK (memsM m) b).isSome a m.datas.length al)) ∧ Ext w w' := by
  obtain ⟨T, hT⟩ : ∃ T : Int → ApiTable, ∀ i, (atK (tablesM m) i).getD noT = T i := ⟨_, fun _ => rfl⟩
  obtain ⟨S, hS⟩ : ∃ T : Int → Bool, ∀ i, (atK (tablesM m) i).isSome = T i := ⟨_, fun _ => rfl⟩
  obtain ⟨ML, hML⟩ : ∃ T : Int → ApiLimits, ∀ i, (atK (memsM m) i).getD noL = T i := ⟨_, fun _ => rfl⟩
  obtain ⟨MS, hMS⟩ : ∃ T : Int → Bool, ∀ i, (atK (memsM m) i).isSome = T i := ⟨_, fun _ => rfl⟩
  obtain ⟨te, hte⟩ : ∃ t, (atK (elemsM m) a).getD 0 = t := ⟨_, rfl⟩
  obtain ⟨be, hbe⟩ : ∃ t, (atK (elemsM m) a).isSome = t := ⟨_, rfl⟩
  obtain ⟨nd, hnd⟩ : ∃ t : Int, (m.datas.length : Int) = t := ⟨_, rfl⟩
  have gT : ∀ i w', Ext w w' → Calls G.P 132 #[v, .int .i64 i] w' fun e w2 => e = .returned (.tuple #[.agg #[.int .i64 (T i).elem, .int .i64 (T i).lim.min, .int .i64 (T i).lim.max, .bool (T i).lim.has], .bool (S i)]) ∧ Ext w' w2 := fun i w' hx => by have := space_Table B m v i w' (h.chg hx (fun _ _ h => h)); rw [hT, hS] at this; exact this
  have gM : ∀ i w', Ext w w' → Calls G.P 137 #[v, .int .i64 i] w' fun e w2 => e = .returned (.tuple #[.agg #[.int .i64 (ML i).min, .int .i64 (ML i).max, .bool (ML i).has], .bool (MS i)]) ∧ Ext w' w2 := fun i w' hx => by have := space_Mem B m v i w' (h.chg hx (fun _ _ h => h)); rw [hML, hMS] at this; exact this
  have gE : ∀ w', Ext w w' → Calls G.P 135 #[v, .int .i64 a] w' fun e w2 => e = .returned (.tuple #[.int .i64 te, .bool be]) ∧ Ext w' w2 := fun w' hx => by have := space_Elem B m v a w' (h.chg hx (fun _ _ h => h)); rw [hte, hbe] at this; exact this
  have gnd : ∀ w', Ext w w' → Calls G.P 136 #[v] w' fun e w2 => e = .returned (.int .i64 nd) ∧ Ext w' w2 := fun w' hx => by have := space_Datas B m v w' (h.chg hx (fun _ _ h => h)); rw [hnd] at this; exact this
  simp only [hT, hS, hMS, hte, hbe, hnd]
  clear hT hS hML hMS hte hbe hnd
  obtain rfl := hk
  skip
  refine enterH (l := [_, _]) Tryz.func83 rfl Tryz.ntmps83 rfl (Ok.start w) ?_
  repeat' (first | refine wau ?_ | (refine qbxq fun b_ => ?_) | (refine qal2q fun b_ => ?_) | (refine qal5q fun b_ => ?_) | (refine qal4q fun b_ => ?_) | (refine qal3q fun b_ => ?_) | refine qr12q ?_ | (refine OpsH.isCall (f := 137) ?_; refine OpsH.call1 rfl rfl rfl (fun w' hw' => gM _ w' hw'.at) ?_) | (refine wspl ?_ ?_ <;> intro hc_))
  all_goals first | (exfalso; omega) | exact FinH.ret1 rfl rfl fun w' hw' => ⟨by clear hw' gT gM gE gnd ho _ha h; refine congrArg Ending.returned (congrArg (Value.int .i64) ?_); simp only [thingsT, if_true, if_false, Int.reduceEq, *]; first | done | rfl | simp_all | (simp_all <;> (intros; omega)), hw'.at⟩
set_option maxHeartbeats 8000000 in
theorem rule_things_17 (B : Nat) (m : ApiModule) (v : Value) (op a b n kind val index : Int) (pt pl : Option Addr) (nt nl ct cl : Nat) (k : Int) (al : Int) (w : World) (h : SpaceRd B m w v) (hk : k = 17)
    (ho : ∀ w', Ext w w' → Calls G.P 76 #[.int .i64 op] w' fun e w2 => e = .returned (.int .i64 k) ∧ Ext w' w2)
    (ha : ∀ w', Ext w w' → Calls G.P 138 #[.int .i64 op] w' fun e w2 => e = .returned (.int .i64 al) ∧ Ext w' w2) :
    Calls G.P 83 #[v, .agg #[Value.int .i64 op, Value.int .i64 a, Value.int .i64 b, Value.int .u64 n, Value.int .i64 kind, Value.int .i64 val, Value.int .i64 index, Value.slice pt nt ct, Value.slice pl nl cl]] w fun e w' => e = .returned (.int .i64 (thingsT k (atK (tablesM m) a).isSome (atK (tablesM m) b).isSome ((atK (tablesM m) a).getD noT).elem ((atK (tablesM m) b).getD noT).elem (atK (elemsM m) a).isSome ((atK (elemsM m) a).getD 0) (atK (memsM m) a).isSome (atK (memsM m) b).isSome a m.datas.length al)) ∧ Ext w w' := by
  obtain ⟨T, hT⟩ : ∃ T : Int → ApiTable, ∀ i, (atK (tablesM m) i).getD noT = T i := ⟨_, fun _ => rfl⟩
  obtain ⟨S, hS⟩ : ∃ T : Int → Bool, ∀ i, (atK (tablesM m) i).isSome = T i := ⟨_, fun _ => rfl⟩
  obtain ⟨ML, hML⟩ : ∃ T : Int → ApiLimits, ∀ i, (atK (memsM m) i).getD noL = T i := ⟨_, fun _ => rfl⟩
  obtain ⟨MS, hMS⟩ : ∃ T : Int → Bool, ∀ i, (atK (memsM m) i).isSome = T i := ⟨_, fun _ => rfl⟩
  obtain ⟨te, hte⟩ : ∃ t, (atK (elemsM m) a).getD 0 = t := ⟨_, rfl⟩
  obtain ⟨be, hbe⟩ : ∃ t, (atK (elemsM m) a).isSome = t := ⟨_, rfl⟩
  obtain ⟨nd, hnd⟩ : ∃ t : Int, (m.datas.length : Int) = t := ⟨_, rfl⟩
  have gT : ∀ i w', Ext w w' → Calls G.P 132 #[v, .int .i64 i] w' fun e w2 => e = .returned (.tuple #[.agg #[.int .i64 (T i).elem, .int .i64 (T i).lim.min, .int .i64 (T i).lim.max, .bool (T i).lim.has], .bool (S i)]) ∧ Ext w' w2 := fun i w' hx => by have := space_Table B m v i w' (h.chg hx (fun _ _ h => h)); rw [hT, hS] at this; exact this
  have gM : ∀ i w', Ext w w' → Calls G.P 137 #[v, .int .i64 i] w' fun e w2 => e = .returned (.tuple #[.agg #[.int .i64 (ML i).min, .int .i64 (ML i).max, .bool (ML i).has], .bool (MS i)]) ∧ Ext w' w2 := fun i w' hx => by have := space_Mem B m v i w' (h.chg hx (fun _ _ h => h)); rw [hML, hMS] at this; exact this
  have gE : ∀ w', Ext w w' → Calls G.P 135 #[v, .int .i64 a] w' fun e w2 => e = .returned (.tuple #[.int .i64 te, .bool be]) ∧ Ext w' w2 := fun w' hx => by have := space_Elem B m v a w' (h.chg hx (fun _ _ h => h)); rw [hte, hbe] at this; exact this
  have gnd : ∀ w', Ext w w' → Calls G.P 136 #[v] w' fun e w2 => e = .returned (.int .i64 nd) ∧ Ext w' w2 := fun w' hx => by have := space_Datas B m v w' (h.chg hx (fun _ _ h => h)); rw [hnd] at this; exact this
  simp only [hT, hS, hMS, hte, hbe, hnd]
  clear hT hS hML hMS hte hbe hnd
  obtain rfl := hk
  by_cases hlt : al < a
  · cases hz : MS b with
    | true =>
      refine enterH (l := [_, _]) Tryz.func83 rfl Tryz.ntmps83 rfl (Ok.start w) ?_
      repeat' (first | refine wau ?_ | (refine qbxq fun b_ => ?_) | (refine qal2q fun b_ => ?_) | (refine qal5q fun b_ => ?_) | (refine qal4q fun b_ => ?_) | (refine qal3q fun b_ => ?_) | refine qr11q ?_ | (refine wspl ?_ ?_ <;> intro hc_))
      refine CdH.regionQ (by kernel_rfl) ?_
      refine wgh ?_
      refine Ops.callHg (v := .int .i64 al) rfl rfl rfl rfl (fun w' hw' => ha w' hw'.at) ?_
      refine wgh ?_
      repeat' (first | refine wau ?_ | (refine qbxq fun b_ => ?_) | (refine qal2q fun b_ => ?_) | (refine qal5q fun b_ => ?_) | (refine qal4q fun b_ => ?_) | (refine qal3q fun b_ => ?_) | refine qr11q ?_ | (refine wspl ?_ ?_ <;> intro hc_))
      all_goals first | (exfalso; omega) | exact FinH.ret1 rfl rfl fun w' hw' => ⟨by clear hw' gT gM gE gnd ho ha h; refine congrArg Ending.returned (congrArg (Value.int .i64) ?_); simp only [thingsT, if_true, if_false, Int.reduceEq, *]; first | done | rfl | simp_all | (simp_all <;> (intros; omega)), hw'.at⟩
    | false =>
      refine enterH (l := [_, _]) Tryz.func83 rfl Tryz.ntmps83 rfl (Ok.start w) ?_
      repeat' (first | refine wau ?_ | (refine qbxq fun b_ => ?_) | (refine qal2q fun b_ => ?_) | (refine qal5q fun b_ => ?_) | (refine qal4q fun b_ => ?_) | (refine qal3q fun b_ => ?_) | refine qr10q ?_ | (refine wspl ?_ ?_ <;> intro hc_))
      refine CdH.regionQ (by kernel_rfl) ?_
      refine wgh ?_
      repeat' (first | refine wau ?_ | (refine qbxq fun b_ => ?_) | (refine qal2q fun b_ => ?_) | (refine qal5q fun b_ => ?_) | (refine qal4q fun b_ => ?_) | (refine qal3q fun b_ => ?_) | refine qr10q ?_ | (refine wspl ?_ ?_ <;> intro hc_))
      all_goals first | (exfalso; omega) | exact FinH.ret1 rfl rfl fun w' hw' => ⟨by clear hw' gT gM gE gnd ho ha h; refine congrArg Ending.returned (congrArg (Value.int .i64) ?_); simp only [thingsT, if_true, if_false, Int.reduceEq, *]; first | done | rfl | simp_all | (simp_all <;> (intros; omega)), hw'.at⟩
  · cases hz : MS b with
    | true =>
      refine enterH (l := [_, _]) Tryz.func83 rfl Tryz.ntmps83 rfl (Ok.start w) ?_
      repeat' (first | refine wau ?_ | (refine qbxq fun b_ => ?_) | (refine qal2q fun b_ => ?_) | (refine qal5q fun b_ => ?_) | (refine qal4q fun b_ => ?_) | (refine qal3q fun b_ => ?_) | refine qr11q ?_ | (refine wspl ?_ ?_ <;> intro hc_))
      refine CdH.regionQ (by kernel_rfl) ?_
      refine wgh ?_
      refine Ops.callHg (v := .int .i64 al) rfl rfl rfl rfl (fun w' hw' => ha w' hw'.at) ?_
      refine wgh ?_
      repeat' (first | refine wau ?_ | (refine qbxq fun b_ => ?_) | (refine qal2q fun b_ => ?_) | (refine qal5q fun b_ => ?_) | (refine qal4q fun b_ => ?_) | (refine qal3q fun b_ => ?_) | refine qr11q ?_ | (refine wspl ?_ ?_ <;> intro hc_))
      all_goals first | (exfalso; omega) | exact FinH.ret1 rfl rfl fun w' hw' => ⟨by clear hw' gT gM gE gnd ho ha h; refine congrArg Ending.returned (congrArg (Value.int .i64) ?_); simp only [thingsT, if_true, if_false, Int.reduceEq, *]; first | done | rfl | simp_all | (simp_all <;> (intros; omega)), hw'.at⟩
    | false =>
      refine enterH (l := [_, _]) Tryz.func83 rfl Tryz.ntmps83 rfl (Ok.start w) ?_
      repeat' (first | refine wau ?_ | (refine qbxq fun b_ => ?_) | (refine qal2q fun b_ => ?_) | (refine qal5q fun b_ => ?_) | (refine qal4q fun b_ => ?_) | (refine qal3q fun b_ => ?_) | refine qr10q ?_ | (refine wspl ?_ ?_ <;> intro hc_))
      refine CdH.regionQ (by kernel_rfl) ?_
      refine wgh ?_
      repeat' (first | refine wau ?_ | (refine qbxq fun b_ => ?_) | (refine qal2q fun b_ => ?_) | (refine qal5q fun b_ => ?_) | (refine qal4q fun b_ => ?_) | (refine qal3q fun b_ => ?_) | refine qr10q ?_ | (refine wspl ?_ ?_ <;> intro hc_))
      all_goals first | (exfalso; omega) | exact FinH.ret1 rfl rfl fun w' hw' => ⟨by clear hw' gT gM gE gnd ho ha h; refine congrArg Ending.returned (congrArg (Value.int .i64) ?_); simp only [thingsT, if_true, if_false, Int.reduceEq, *]; first | done | rfl | simp_all | (simp_all <;> (intros; omega)), hw'.at⟩
set_option maxHeartbeats 8000000 in
theorem rule_things_o (B : Nat) (m : ApiModule) (v : Value) (op a b n kind val index : Int) (pt pl : Option Addr) (nt nl ct cl : Nat) (k : Int) (al : Int) (w : World) (h : SpaceRd B m w v) (hk : k ≠ 10 ∧ k ≠ 11 ∧ k ≠ 12 ∧ k ≠ 13 ∧ k ≠ 14 ∧ k ≠ 15 ∧ k ≠ 16 ∧ k ≠ 17)
    (ho : ∀ w', Ext w w' → Calls G.P 76 #[.int .i64 op] w' fun e w2 => e = .returned (.int .i64 k) ∧ Ext w' w2)
    (_ha : ∀ w', Ext w w' → Calls G.P 138 #[.int .i64 op] w' fun e w2 => e = .returned (.int .i64 al) ∧ Ext w' w2) :
    Calls G.P 83 #[v, .agg #[Value.int .i64 op, Value.int .i64 a, Value.int .i64 b, Value.int .u64 n, Value.int .i64 kind, Value.int .i64 val, Value.int .i64 index, Value.slice pt nt ct, Value.slice pl nl cl]] w fun e w' => e = .returned (.int .i64 (thingsT k (atK (tablesM m) a).isSome (atK (tablesM m) b).isSome ((atK (tablesM m) a).getD noT).elem ((atK (tablesM m) b).getD noT).elem (atK (elemsM m) a).isSome ((atK (elemsM m) a).getD 0) (atK (memsM m) a).isSome (atK (memsM m) b).isSome a m.datas.length al)) ∧ Ext w w' := by
  obtain ⟨T, hT⟩ : ∃ T : Int → ApiTable, ∀ i, (atK (tablesM m) i).getD noT = T i := ⟨_, fun _ => rfl⟩
  obtain ⟨S, hS⟩ : ∃ T : Int → Bool, ∀ i, (atK (tablesM m) i).isSome = T i := ⟨_, fun _ => rfl⟩
  obtain ⟨ML, hML⟩ : ∃ T : Int → ApiLimits, ∀ i, (atK (memsM m) i).getD noL = T i := ⟨_, fun _ => rfl⟩
  obtain ⟨MS, hMS⟩ : ∃ T : Int → Bool, ∀ i, (atK (memsM m) i).isSome = T i := ⟨_, fun _ => rfl⟩
  obtain ⟨te, hte⟩ : ∃ t, (atK (elemsM m) a).getD 0 = t := ⟨_, rfl⟩
  obtain ⟨be, hbe⟩ : ∃ t, (atK (elemsM m) a).isSome = t := ⟨_, rfl⟩
  obtain ⟨nd, hnd⟩ : ∃ t : Int, (m.datas.length : Int) = t := ⟨_, rfl⟩
  have gT : ∀ i w', Ext w w' → Calls G.P 132 #[v, .int .i64 i] w' fun e w2 => e = .returned (.tuple #[.agg #[.int .i64 (T i).elem, .int .i64 (T i).lim.min, .int .i64 (T i).lim.max, .bool (T i).lim.has], .bool (S i)]) ∧ Ext w' w2 := fun i w' hx => by have := space_Table B m v i w' (h.chg hx (fun _ _ h => h)); rw [hT, hS] at this; exact this
  have gM : ∀ i w', Ext w w' → Calls G.P 137 #[v, .int .i64 i] w' fun e w2 => e = .returned (.tuple #[.agg #[.int .i64 (ML i).min, .int .i64 (ML i).max, .bool (ML i).has], .bool (MS i)]) ∧ Ext w' w2 := fun i w' hx => by have := space_Mem B m v i w' (h.chg hx (fun _ _ h => h)); rw [hML, hMS] at this; exact this
  have gE : ∀ w', Ext w w' → Calls G.P 135 #[v, .int .i64 a] w' fun e w2 => e = .returned (.tuple #[.int .i64 te, .bool be]) ∧ Ext w' w2 := fun w' hx => by have := space_Elem B m v a w' (h.chg hx (fun _ _ h => h)); rw [hte, hbe] at this; exact this
  have gnd : ∀ w', Ext w w' → Calls G.P 136 #[v] w' fun e w2 => e = .returned (.int .i64 nd) ∧ Ext w' w2 := fun w' hx => by have := space_Datas B m v w' (h.chg hx (fun _ _ h => h)); rw [hnd] at this; exact this
  simp only [hT, hS, hMS, hte, hbe, hnd]
  clear hT hS hML hMS hte hbe hnd
  skip
  refine enterH (l := [_, _]) Tryz.func83 rfl Tryz.ntmps83 rfl (Ok.start w) ?_
  repeat' (first | refine wau ?_ | (refine qbxq fun b_ => ?_) | (refine qal2q fun b_ => ?_) | (refine qal5q fun b_ => ?_) | (refine qal4q fun b_ => ?_) | (refine qal3q fun b_ => ?_) | refine qr12q ?_ | (refine wspl ?_ ?_ <;> intro hc_))
  all_goals first | (exfalso; omega) | exact FinH.ret1 rfl rfl fun w' hw' => ⟨by clear hw' gT gM gE gnd ho _ha h; refine congrArg Ending.returned (congrArg (Value.int .i64) ?_); simp only [thingsT, if_false, *]; first | done | rfl | simp_all | (simp_all <;> (intros; omega)), hw'.at⟩
end Go.Proofs.YtgbgnipidakdhaaGreatDoor
