/- Layer 23: nil arguments, and ones that no constructor created. -/
import Derived.Test.YtgbgnipidakdhaaGreatDoorJAb
namespace Go.Proofs.YtgbgnipidakdhaaGreatDoor
open Go.RowKit
set_option maxRecDepth 100000
section
variable {n : Nat} {E : Env} {C : World → Prop} {x y : Operand} {t t2 : TypeId}
theorem Yl.eqNN {ti : TypeId} (ht : G.P.underlying t = some (.pointer ti)) (hx : ev E x = some (.pointer none)) (hy : ev E y = some (.pointer none)) : Yl G n (.binOp .eql t x y t2) E C (.bool true) :=
  ⟨fun w _ a ha d ty pos aft gd => by
    have h2 : ∀ m, (Op.equalIn (m + 1) t (.pointer none) (.pointer none)).run G.P w = .ok true w := by
      intro m; simp [Op.equalIn, run_underlying ht]
    have h3 : (Op.equal t (.pointer none) (.pointer none)).run G.P w = .ok true w := h2 9999
    simp [execOp, ha.eval hx, ha.eval hy, eqGuard, binOp, h3]⟩
theorem Yl.neqNN {ti : TypeId} (ht : G.P.underlying t = some (.pointer ti)) (hx : ev E x = some (.pointer none)) (hy : ev E y = some (.pointer none)) : Yl G n (.binOp .neq t x y t2) E C (.bool false) :=
  ⟨fun w _ a ha d ty pos aft gd => by
    have h2 : ∀ m, (Op.equalIn (m + 1) t (.pointer none) (.pointer none)).run G.P w = .ok true w := by
      intro m; simp [Op.equalIn, run_underlying ht]
    have h3 : (Op.equal t (.pointer none) (.pointer none)).run G.P w = .ok true w := h2 9999
    simp [execOp, ha.eval hx, ha.eval hy, eqGuard, binOp, h3]⟩
end
/-- a pointer that is nil, or points to a struct whose first cell is -/
def NilP (v : Value) (w : World) : Prop := v = .pointer none ∨ ∃ b, v = .pointer (some ⟨b, 0, none⟩) ∧ w.cell? ⟨b, 0, none⟩ = some (.pointer none)
theorem NilP.ext {v : Value} {w w' : World} (h : NilP v w) (hx : Ext w w') : NilP v w' := by
  rcases h with h | ⟨b, h, hc⟩
  · exact .inl h
  · exact .inr ⟨b, h, hx.cell hc⟩
theorem space_Block_nil (v : Value) (w : World) (h : NilP v w) : Calls G.P 43 #[v, .agg #[.int .i64 0, .int .i64 0, .int .i64 0]] w fun e w' => e = .returned (.tuple #[.agg #[.slice none 0 0, .slice none 0 0], .bool false]) ∧ Ext w w' := by
  rcases h with rfl | ⟨b, rfl, hc⟩
  · refine enterH (l := [_, _]) Tryz.func43 rfl Tryz.ntmps43 rfl (Ok.start w) ?_
    repeat' (first | refine wau ?_ | (refine OpsH.isBox ?_; refine OpsH.box _ rfl rfl rfl fun b_ => ?_) | (refine OpsH.isAlloc (t := TFn) ?_; refine OpsH.alloc (t := TFn) [Value.slice none 0 0, Value.slice none 0 0] rfl rfl rfl fun b_ => ?_) | (refine OpsH.isBin ?_; refine OpsH.y_ (Yl.eqNN Tryz.underlying51 rfl rfl) rfl ?_) | (refine wspl ?_ ?_ <;> intro hc_))
    all_goals exact FinH.ret2c (.inl rfl) rfl rfl rfl rfl rfl wup rfl rfl fun w' hw' => ⟨rfl, hw'.at⟩
  · refine enterH (l := [_, _]) Tryz.func43 rfl Tryz.ntmps43 rfl (Ok.start w) ?_
    repeat' (first | refine wau ?_ | (refine OpsH.isBox ?_; refine OpsH.box _ rfl rfl rfl fun b_ => ?_) | (refine OpsH.isAlloc (t := TFn) ?_; refine OpsH.alloc (t := TFn) [Value.slice none 0 0, Value.slice none 0 0] rfl rfl rfl fun b_ => ?_) | (refine OpsH.isBin ?_; refine OpsH.y_ (Yl.eqPN Tryz.underlying51 rfl rfl) rfl ?_) | (refine OpsH.isBin ?_; refine OpsH.yg (by rfl) (Yl.eqNN Tryz.underlying58 rfl rfl) rfl ?_) | (refine wspl ?_ ?_ <;> intro hc_))
    all_goals exact FinH.ret2c (.inl rfl) rfl rfl rfl rfl rfl wup rfl rfl fun w' hw' => ⟨rfl, hw'.at⟩
theorem rule_none_nil (v : Value) (op a b n kind val index : Int) (x7 x8 : Value) (w : World) (h : NilP v w) : Calls G.P 35 #[v, .agg #[.int .i64 op, .int .i64 a, .int .i64 b, .int .u64 n, .int .i64 kind, .int .i64 val, .int .i64 index, x7, x8]] w fun e w' => e = .returned (.int .i64 2) ∧ Ext w w' := by
  refine enterH (l := [_, _]) Tryz.func35 rfl Tryz.ntmps35 rfl (Ok.start w) ?_
  repeat' (first | refine wau ?_ | (refine OpsH.isBox ?_; refine OpsH.box _ rfl rfl rfl fun b_ => ?_) | (refine OpsH.isAlloc (t := TFn) ?_; refine OpsH.alloc (t := TFn) [Value.slice none 0 0, Value.slice none 0 0] rfl rfl rfl fun b_ => ?_) | (refine OpsH.isCall (f := 43) ?_; refine OpsH.call1 rfl rfl rfl (fun w' hw' => space_Block_nil v w' (h.ext hw'.at)) ?_) | (refine wspl ?_ ?_ <;> intro hc_))
  all_goals exact FinH.ret1 rfl rfl fun w' hw' => ⟨rfl, hw'.at⟩
theorem rule_Wants_nil (v lv : Value) (op a b n kind val index : Int) (x7 x8 : Value) (w : World) (h : NilP v w) : Calls G.P 11 #[v, lv, .agg #[.int .i64 op, .int .i64 a, .int .i64 b, .int .u64 n, .int .i64 kind, .int .i64 val, .int .i64 index, x7, x8]] w fun e w' => e = .returned (.tuple #[.agg #[.slice none 0 0, .slice none 0 0], .int .i64 2]) ∧ Ext w w' := by
  refine enterH (l := [_, _, _]) Tryz.func11 rfl Tryz.ntmps11 rfl (Ok.start w) ?_
  repeat' (first | refine wau ?_ | (refine OpsH.isBox ?_; refine OpsH.box _ rfl rfl rfl fun b_ => ?_) | (refine OpsH.isAlloc (t := TFn) ?_; refine OpsH.alloc (t := TFn) [Value.slice none 0 0, Value.slice none 0 0] rfl rfl rfl fun b_ => ?_) | (refine OpsH.isCall (f := 35) ?_; refine OpsH.call1 rfl rfl rfl (fun w' hw' => rule_none_nil v _ _ _ _ _ _ _ _ _ w' (h.ext hw'.at)) ?_) | (refine wspl ?_ ?_ <;> intro hc_))
  all_goals exact FinH.ret2c (.inl rfl) rfl rfl rfl rfl rfl wup rfl rfl fun w' hw' => ⟨rfl, hw'.at⟩
theorem ctrl_made_nil (v : Value) (w : World) (h : NilP v w) : Calls G.P 64 #[v] w fun e w' => e = .returned (.bool false) ∧ Ext w w' := by
  rcases h with rfl | ⟨b, rfl, hc⟩
  · refine enterH (l := [_]) Tryz.func64 rfl Tryz.ntmps64 rfl (Ok.start w) ?_
    repeat' (first | refine wau ?_ | (refine OpsH.isBin ?_; refine OpsH.y_ (Yl.neqNN Tryz.underlying56 rfl rfl) rfl ?_) | (refine wspl ?_ ?_ <;> intro hc_))
    all_goals exact FinH.ret1 rfl rfl fun w' hw' => ⟨rfl, hw'.at⟩
  · refine enterH (l := [_]) Tryz.func64 rfl Tryz.ntmps64 rfl (Ok.start w) ?_
    repeat' (first | refine wau ?_ | (refine OpsH.isBin ?_; refine OpsH.y_ (Yl.neqPN Tryz.underlying56 rfl rfl) rfl ?_) | (refine OpsH.isBin ?_; refine OpsH.yg (by rfl) (Yl.neqNN Tryz.underlying62 rfl rfl) rfl ?_) | (refine wspl ?_ ?_ <;> intro hc_))
    all_goals exact FinH.ret1 rfl rfl fun w' hw' => ⟨rfl, hw'.at⟩
theorem ctrl_Stack_nil (v : Value) (w : World) (h : NilP v w) : Calls G.P 23 #[v] w fun e w' => e = .returned (.pointer none) ∧ Ext w w' := by
  refine enterH (l := [_]) Tryz.func23 rfl Tryz.ntmps23 rfl (Ok.start w) ?_
  repeat' (first | refine wau ?_ | (refine OpsH.isCall (f := 64) ?_; refine OpsH.call1 rfl rfl rfl (fun w' hw' => ctrl_made_nil v w' (h.ext hw'.at)) ?_) | (refine wspl ?_ ?_ <;> intro hc_))
  all_goals exact FinH.ret1 rfl rfl fun w' hw' => ⟨rfl, hw'.at⟩
theorem rule_Apply_nil (v sv lv : Value) (op a b n kind val index : Int) (x7 x8 : Value) (w : World) (h : NilP v w) : Calls G.P 16 #[v, sv, lv, .agg #[.int .i64 op, .int .i64 a, .int .i64 b, .int .u64 n, .int .i64 kind, .int .i64 val, .int .i64 index, x7, x8]] w fun e w' => e = .returned (.int .i64 2) ∧ Ext w w' := by
  refine enterH (l := [_, _, _, _]) Tryz.func16 rfl Tryz.ntmps16 rfl (Ok.start w) ?_
  repeat' (first | refine wau ?_ | (refine OpsH.isBox ?_; refine OpsH.box _ rfl rfl rfl fun b_ => ?_) | (refine OpsH.isCall (f := 23) ?_; refine OpsH.call1 rfl rfl rfl (fun w' hw' => ctrl_Stack_nil v w' (h.ext hw'.at)) ?_) | (refine OpsH.isBin ?_; refine OpsH.y_ (Yl.eqNN Tryz.underlying62 rfl rfl) rfl ?_) | (refine wspl ?_ ?_ <;> intro hc_))
  all_goals exact FinH.ret1 rfl rfl fun w' hw' => ⟨rfl, hw'.at⟩
theorem rule_Apply_nos (cp : Nat) (a0 : Addr) (sv lv : Value) (op a b n kind val index : Int) (x7 x8 : Value) (w : World) (hc : w.cell? ⟨cp, 0, none⟩ = some (.pointer (some a0))) (h : NilP sv w) : Calls G.P 16 #[.pointer (some ⟨cp, 0, none⟩), sv, lv, .agg #[.int .i64 op, .int .i64 a, .int .i64 b, .int .u64 n, .int .i64 kind, .int .i64 val, .int .i64 index, x7, x8]] w fun e w' => e = .returned (.int .i64 2) ∧ Ext w w' := by
  refine enterH (l := [_, _, _, _]) Tryz.func16 rfl Tryz.ntmps16 rfl (Ok.start w) ?_
  repeat' (first | refine wau ?_ | (refine OpsH.isBox ?_; refine OpsH.box _ rfl rfl rfl fun b_ => ?_) | (refine OpsH.isCall (f := 23) ?_; refine OpsH.call1 rfl rfl rfl (fun w' hw' => ctrl_Stack cp a0 w' ((show Ext w w' from hw'.at).cell hc)) ?_) | (refine OpsH.isBin ?_; refine OpsH.y_ (Yl.eqPN Tryz.underlying62 rfl rfl) rfl ?_) | (refine OpsH.isCall (f := 35) ?_; refine OpsH.call1 rfl rfl rfl (fun w' hw' => rule_none_nil sv _ _ _ _ _ _ _ _ _ w' (h.ext hw'.at)) ?_) | (refine wspl ?_ ?_ <;> intro hc_))
  all_goals exact FinH.ret1 rfl rfl fun w' hw' => ⟨rfl, hw'.at⟩
end Go.Proofs.YtgbgnipidakdhaaGreatDoor
/- law23.RuleNobody. -/
namespace Go.Proofs.YtgbgnipidakdhaaGreatDoor
open Go.RowKit
set_option maxRecDepth 100000
/-- an instruction that is an argument -/
structure InV (w : World) (x : Ins) (tv bv : Value) : Prop where
  t : IntsR (fun _ => True) w tv x.types
  l : IntsR (fun _ => True) w bv x.labels
  op : R64 x.op
  a : R64 x.a
theorem InV.ext {w w' : World} {x : Ins} {tv bv : Value} (h : InV w x tv bv) (hx : Ext w w') : InV w' x tv bv := ⟨h.t.chg hx (fun _ _ _ h => h), h.l.chg hx (fun _ _ _ h => h), h.op, h.a⟩
theorem body_one {w : World} {b T : Nat} {x : Ins} {pt pl : Option Addr} {ct cl c : Nat} (h : Blk w b [Value.int .i64 x.op, Value.int .i64 x.a, Value.int .i64 x.b, Value.int .u64 x.n, Value.int .i64 x.kind, Value.int .i64 x.val, Value.int .i64 x.index, Value.slice pt x.types.length ct, Value.slice pl x.labels.length cl] T) (hx : InV w x (.slice pt x.types.length ct) (.slice pl x.labels.length cl)) : BodyR (fun _ => True) w (.slice (some ⟨b, 0, none⟩) 1 c) [x] := by
  refine ⟨_, c, rfl, by show 1 ≤ 1353247013952; omega, .inr ⟨b, 0, rfl, trivial, fun i hi => ?_⟩⟩
  obtain rfl : i = 0 := by have : i < 1 := hi; omega
  have hc : ∀ j v, ([Value.int .i64 x.op, Value.int .i64 x.a, Value.int .i64 x.b, Value.int .u64 x.n, Value.int .i64 x.kind, Value.int .i64 x.val, Value.int .i64 x.index, Value.slice pt x.types.length ct, Value.slice pl x.labels.length cl] : List Value)[j]? = some v → w.cell? ⟨b, 0 + 0 * 9 + j, none⟩ = some v := fun j v hj => by rw [Nat.zero_mul, Nat.zero_add]; exact h.cell hj
  exact ⟨hc 0 _ rfl, hc 1 _ rfl, hc 2 _ rfl, hc 3 _ rfl, hc 4 _ rfl, hc 5 _ rfl, hc 6 _ rfl, ⟨_, hc 7 _ rfl, hx.t⟩, ⟨_, hc 8 _ rfl, hx.l⟩, hx.op, hx.a⟩
def modZ : ApiModule := ⟨[], [], [], [], [], [], [], false, 0, [], [], []⟩
def modZC : List Value := [.slice none 0 0, .slice none 0 0, .slice none 0 0, .slice none 0 0, .slice none 0 0, .slice none 0 0, .slice none 0 0, .bool false, .int .i64 0, .slice none 0 0, .slice none 0 0, .slice none 0 0]
theorem modZ_V (w : World) : ApiModuleV (fun _ => True) w modZC modZ := ⟨_, _, _, _, _, _, _, _, _, _, rfl, SlR.nil, SlR.nil, SlR.nil, SlR.nil, SlR.nil, SlR.nil, SlR.nil, SlR.nil, SlR.nil, SlR.nil, by show R64 0; unfold R64; omega⟩
set_option maxHeartbeats 8000000 in
theorem law23_RuleNobody (x : Ins) (pt pl : Option Addr) (ct cl : Nat) (locals : List Int) (lp : Option Addr) (lc : Nat) (w : World) (hx : InV w x (.slice pt x.types.length ct) (.slice pl x.labels.length cl)) (_hl : IntsR (fun _ => True) w (.slice lp locals.length lc) locals) (h0 : Env0 w) : Calls G.P 4 #[.agg #[Value.int .i64 x.op, Value.int .i64 x.a, Value.int .i64 x.b, Value.int .u64 x.n, Value.int .i64 x.kind, Value.int .i64 x.val, Value.int .i64 x.index, Value.slice pt x.types.length ct, Value.slice pl x.labels.length cl], .slice lp locals.length lc] w fun e w' => e = .returned (.bool true) ∧ Ext w w' := by
  refine enterH (l := [_, _]) Tryz.func4 rfl Tryz.ntmps4 rfl (Ok.start w) ?_
  refine CdH.der Env0 (fun w' h => h0.ext (h (Ext w) wmem)) ?_
  repeat' (first | refine wau ?_ | (refine OpsH.isBox ?_; refine OpsH.box _ rfl rfl rfl fun b_ => ?_) | (refine OpsH.isBsl ?_; refine OpsH.he (HE.bsl rfl rfl rfl rfl rfl wcel (by rfl) (by rfl)) rfl ?_; intro b_ _) | (refine wspl ?_ ?_ <;> intro hc_))
  rename_i bx _
  refine OpsH.he (HE.callB (P := FewP modZ locals.length [x]) rfl rfl (fun w' hw' => law23_few (fun _ => True) modZ locals [x] modZC lp lc (.slice (some ⟨b_, 0, none⟩) 1 1) w' (modZ_V w') (body_one (hw'.m (.blk b_ [Value.int .i64 x.op, Value.int .i64 x.a, Value.int .i64 x.b, Value.int .u64 x.n, Value.int .i64 x.kind, Value.int .i64 x.val, Value.int .i64 x.index, Value.slice pt x.types.length ct, Value.slice pl x.labels.length cl] 42) wmm).1 (hx.ext (hw'.get (p := Ext w) wmem))))) rfl ?_
  intro fb _
  cases fb with
  | false =>
    repeat' (first | refine wau ?_ | (refine OpsH.isCall (f := 10) ?_; refine OpsH.call1 rfl rfl rfl (fun w' hw' => law23_alive w' (hw'.get (p := Env0) wmem)) ?_) | (refine wspl ?_ ?_ <;> intro hc_))
    all_goals exact FinH.ret1 rfl rfl fun w' hw' => ⟨rfl, hw'.at⟩
  | true =>
    repeat' (first | refine wau ?_ | (refine wspl ?_ ?_ <;> intro hc_))
    refine OpsH.he (HE.callD0 (V := fun D w (cs : List Value) => ApiModuleV D w cs m23) (tf := fun cs => .agg cs.toArray) (ModV.fr m23) rfl rfl (fun w' hw' => law23_module w')) rfl ?_
    rintro ⟨D0, cs⟩ _
    refine OpsH.he (HE.callSp (m := m23) rfl rfl (fun w' hw' => space_Of D0 m23 cs w' (hw'.get (p := fun w => ApiModuleV D0 w cs m23) wmem) (by unfold LensQ; decide))) rfl ?_
    rintro ⟨B, sv⟩ _
    repeat' (first | refine wau ?_ | (refine OpsH.isBox ?_; refine OpsH.box _ rfl rfl rfl fun b_ => ?_) | (refine OpsH.isAlloc (t := TFn) ?_; refine OpsH.alloc (t := TFn) [Value.slice none 0 0, Value.slice none 0 0] rfl rfl rfl fun b_ => ?_) | (refine OpsH.isCall (f := 11) ?_; refine OpsH.call1 rfl rfl rfl (fun w' hw' => rule_Wants_nil _ _ _ _ _ _ _ _ _ _ _ w' (by first | exact .inl rfl | exact .inr ⟨_, rfl, hw'.c1 wup (by rfl)⟩)) ?_) | (refine wspl ?_ ?_ <;> intro hc_))
    refine CdH.regionR [.blk bx [Value.int .i64 x.op, Value.int .i64 x.a, Value.int .i64 x.b, Value.int .u64 x.n, Value.int .i64 x.kind, Value.int .i64 x.val, Value.int .i64 x.index, Value.slice pt x.types.length ct, Value.slice pl x.labels.length cl] 42] [Ext w] wsl wsr ?_
    repeat' (first | refine wgt ?_ | (refine StepT.isCl 16 ?_; refine StepT.he rfl rfl (HE.callV rfl rfl (fun w' hw' => rule_Apply_nil _ _ _ _ _ _ _ _ _ _ _ _ w' (by first | exact .inl rfl | exact .inr ⟨_, rfl, hw'.c1 wup (by rfl)⟩))) (fun _ => wsl) (fun _ => wsr) ?_; rintro ⟨⟩ _) | (refine StepT.isBx ?_; refine StepT.he rfl rfl (HE.box _ rfl rfl) (fun _ => wsl) (fun _ => wsr) ?_; intro b9 _) | refine OpsT.nil (by decide +kernel) ?_ | refine OpsT.any (by decide +kernel) ?_ | exact StepsT.fin rfl | refine StepsT.skip (by decide +kernel) ?_ | refine StepsT.go ?_ ?_)
    all_goals
      repeat' (first | refine wau ?_ | (refine wspl ?_ ?_ <;> intro hc_))
      refine CdH.regionR [.blk bx [Value.int .i64 x.op, Value.int .i64 x.a, Value.int .i64 x.b, Value.int .u64 x.n, Value.int .i64 x.kind, Value.int .i64 x.val, Value.int .i64 x.index, Value.slice pt x.types.length ct, Value.slice pl x.labels.length cl] 42] [Ext w] wsl wsr ?_
      repeat' (first | refine wgt ?_ | (refine StepT.isCl 17 ?_; refine StepT.he rfl rfl (HE.callN (M0 := []) Rms.nil rfl rfl (fun w' hw' => ctrl_New (fun _ => False) [] (.slice none 0 0) w' (IntsR.nil0 _ _))) (fun _ => by dsimp only [ctlM, stkM, List.cons_append, List.nil_append]; exact wsl) (fun _ => wsr) ?_; rintro ⟨cp, sp, tv, pv, bv, rv, fv, D, L⟩ hg; dsimp only [ctlM, stkM, List.cons_append, List.nil_append] at hg ⊢) | (refine StepT.isCl 16 ?_; refine StepT.he rfl rfl (HE.callV rfl rfl (fun w' hw' => rule_Apply_nos cp ⟨sp, 0, none⟩ _ _ _ _ _ _ _ _ _ _ _ w' (hw'.c1 wup (by rfl)) (.inl rfl))) (fun _ => wsl) (fun _ => wsr) ?_; rintro ⟨⟩ _) | refine OpsT.nil (by decide +kernel) ?_ | refine OpsT.any (by decide +kernel) ?_ | exact StepsT.fin rfl | refine StepsT.skip (by decide +kernel) ?_ | refine StepsT.go ?_ ?_)
      all_goals
        repeat' (first | refine wau ?_ | (refine OpsH.isCallG (f := 10) ?_; refine OpsH.call1g wgd rfl rfl rfl (fun w' hw' => law23_alive w' (hw'.get (p := Env0) wmem)) ?_) | (refine wspl ?_ ?_ <;> intro hc_))
        exact FinH.ret1 rfl rfl fun w' hw' => ⟨rfl, hw'.at⟩
end Go.Proofs.YtgbgnipidakdhaaGreatDoor
