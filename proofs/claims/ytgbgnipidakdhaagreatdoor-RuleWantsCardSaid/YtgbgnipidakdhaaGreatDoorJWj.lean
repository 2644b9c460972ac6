/- Layer 23: rule.typed. -/
import Derived.Test.YtgbgnipidakdhaaGreatDoorJWh
import Derived.Test.YtgbgnipidakdhaaGreatDoorJH7
namespace Go.Proofs.YtgbgnipidakdhaaGreatDoor
open Go.RowKit
set_option maxRecDepth 100000
theorem opcode_SigF (op : Int) (w : World) (h0 : Env0 w) : Calls G.P 85 #[.int .i64 op] w (FGives (sigO op) (fun _ => False) w) :=
  (opcode_Sig op w h0).mono fun e w' ⟨⟨v, e1, hv⟩, hx⟩ => by
    obtain ⟨_, rfl, p, r, rfl, h1, h2⟩ := hv
    exact ⟨⟨(p, r), e1, h1.mono fun _ _ h => .inr h, h2.mono fun _ _ h => .inr h⟩, hx⟩
def typedK (m : ApiModule) (locals : List Int) (x : Ins) : ApiFunc × Int :=
  let k := ofK x.op
  if k = 4 then functionK m x else if k = 5 then indirectK m x else if k = 6 then (⟨[ix x.types 0, ix x.types 0, 1], [ix x.types 0]⟩, 0) else if k = 7 then localK locals x else if k = 8 then globalK m x else if k = 9 then tableK m x else
  if k = 20 then (⟨[], [x.a]⟩, 0) else if thingsK m x ≠ 0 then (noF, thingsK m x) else ((sigO x.op).getD noF, 0)
def TyB (m : ApiModule) : Prop := ∀ f ∈ m.types, f.params.length ≤ 17592186043904 ∧ f.results.length ≤ 17592186043904
theorem atK_mem {α : Type} [Inhabited α] {l : List α} {i : Int} {f : α} (h : atK l i = some f) : f ∈ l := by
  unfold atK at h
  split at h
  · rename_i hc
    cases h
    rw [ix_eq (by omega)]; exact List.getElem_mem _
  · cases h
theorem k9_tab : (r05.all fun r => !decide (r.2.2 = 9) || (decide (r.1 = 37) || decide (r.1 = 38) || decide (r.1 = 64528) || decide (r.1 = 64527) || decide (r.1 = 64529))) = true := by decide +kernel
theorem k9_op {op : Int} (h : ofK op = 9) : op = 37 ∨ op = 38 ∨ op = 64528 ∨ op = 64527 ∨ op = 64529 := by
  obtain ⟨r, hr, h1, h2⟩ := ofK_row (op := op) (by omega)
  have := List.all_eq_true.1 k9_tab r hr
  rw [h2, h, h1] at this
  simpa [or_assoc] using this
theorem plain_a {x : Ins} (h : plainK x = true) : R64 x.a ∧ R64 x.b ∧ 0 ≤ x.a ∧ 0 ≤ x.b ∧ (ofK x.op = 6 → x.types.length = 1) := by
  have hr := ofK_r x.op
  rw [plainK_eq, plainC_eq] at h
  unfold plainC at h
  unfold R64
  generalize ofK x.op = k at *
  have : k = 0 ∨ k = 1 ∨ k = 2 ∨ k = 3 ∨ k = 4 ∨ k = 5 ∨ k = 6 ∨ k = 7 ∨ k = 8 ∨ k = 9 ∨ k = 10 ∨ k = 11 ∨ k = 12 ∨ k = 13 ∨ k = 14 ∨ k = 15 ∨ k = 16 ∨ k = 17 ∨ k = 18 ∨ k = 19 ∨ k = 20 := by omega
  rcases this with rfl | rfl | rfl | rfl | rfl | rfl | rfl | rfl | rfl | rfl | rfl | rfl | rfl | rfl | rfl | rfl | rfl | rfl | rfl | rfl | rfl
  all_goals
    simp [indexK_iff] at h
    omega
theorem qr14q {g g' : Prop} (h : g') (hw : Hold g' → g := by (intro hk_; (first | (refine OpsH.isCall (f := 76) ?_; refine OpsH.call1 rfl rfl rfl (fun w' hw' => hof w' hw'.at) ?_)); exact hk_.out)) : g := hw ⟨h⟩
set_option maxHeartbeats 4000000 in
theorem rule_typed_4 (B : Nat) (F : Nat → Prop) (m : ApiModule) (locals : List Int) (v : Value) (x : Ins) (lp pt pl : Option Addr) (lc ct cl : Nat) (w : World) (h0 : Env0 w) (h : SpaceRd B m w v) (_hl : IntsR F w (.slice lp locals.length lc) locals) (_ht : IntsR F w (.slice pt x.types.length ct) x.types) (hp : plainK x = true) (_hT : TyB m) (hk : ofK x.op = 4) : Calls G.P 36 #[v, .slice lp locals.length lc, .agg #[Value.int .i64 x.op, Value.int .i64 x.a, Value.int .i64 x.b, Value.int .u64 x.n, Value.int .i64 x.kind, Value.int .i64 x.val, Value.int .i64 x.index, Value.slice pt x.types.length ct, Value.slice pl x.labels.length cl]] w (WPost (functionK m x) (fun _ => False) w) := by
  obtain ⟨a1, a2, a3, a4, -⟩ := plain_a hp
  have hof : ∀ w', Ext w w' → Calls G.P 76 #[.int .i64 x.op] w' fun e w2 => e = .returned (.int .i64 4) ∧ Ext w' w2 := fun w' hx => by have := opcode_Of x.op w' (h0.ext hx); rw [hk] at this; exact this
  refine enterH (l := [_, _, _]) Tryz.func36 rfl Tryz.ntmps36 rfl (Ok.start w) ?_
  repeat' (first | refine wau ?_ | (refine qbxq fun b_ => ?_) | (refine qal2q fun b_ => ?_) | refine qr14q ?_ | (refine OpsH.isCall (f := 77) ?_; refine OpsH.he (HE.sgW0 (r := (functionK m x)) wmem rfl rfl (fun w' hw' => rule_function B m v x pt pl ct cl w' (h.chg (show Ext w w' from hw'.at) (fun _ _ h => h)) a1)) rfl ?_; rintro ⟨D_, p_, c_, q_, d_⟩ hD_; dsimp only) | (refine wspl ?_ ?_ <;> intro hc_))
  all_goals (refine FinH.ret2c (.inl rfl) rfl rfl rfl rfl rfl wup rfl rfl ?_; exact fun w' hw' => Gives.ofS (f0 := (functionK m x).1) (tf := fun y : Value × Value => .tuple #[.agg #[y.1, y.2], .int .i64 (functionK m x).2]) ⟨D_, p_, c_, q_, d_⟩ hw' wmem wmem hD_)
set_option maxHeartbeats 4000000 in
theorem rule_typed_5 (B : Nat) (F : Nat → Prop) (m : ApiModule) (locals : List Int) (v : Value) (x : Ins) (lp pt pl : Option Addr) (lc ct cl : Nat) (w : World) (h0 : Env0 w) (h : SpaceRd B m w v) (_hl : IntsR F w (.slice lp locals.length lc) locals) (_ht : IntsR F w (.slice pt x.types.length ct) x.types) (hp : plainK x = true) (hT : TyB m) (hk : ofK x.op = 5) : Calls G.P 36 #[v, .slice lp locals.length lc, .agg #[Value.int .i64 x.op, Value.int .i64 x.a, Value.int .i64 x.b, Value.int .u64 x.n, Value.int .i64 x.kind, Value.int .i64 x.val, Value.int .i64 x.index, Value.slice pt x.types.length ct, Value.slice pl x.labels.length cl]] w (WPost (indirectK m x) (fun _ => False) w) := by
  obtain ⟨a1, a2, a3, a4, -⟩ := plain_a hp
  have hof : ∀ w', Ext w w' → Calls G.P 76 #[.int .i64 x.op] w' fun e w2 => e = .returned (.int .i64 5) ∧ Ext w' w2 := fun w' hx => by have := opcode_Of x.op w' (h0.ext hx); rw [hk] at this; exact this
  refine enterH (l := [_, _, _]) Tryz.func36 rfl Tryz.ntmps36 rfl (Ok.start w) ?_
  repeat' (first | refine wau ?_ | (refine qbxq fun b_ => ?_) | (refine qal2q fun b_ => ?_) | refine qr14q ?_ | (refine OpsH.isCall (f := 78) ?_; refine OpsH.he (HE.sgW0 (r := (indirectK m x)) wmem rfl rfl (fun w' hw' => rule_indirect B m v x pt pl ct cl w' (h.chg (show Ext w w' from hw'.at) (fun _ _ h => h)) (fun f hf => ⟨(hT f (atK_mem hf)).1, by have := (hT f (atK_mem hf)).2; omega⟩))) rfl ?_; rintro ⟨D_, p_, c_, q_, d_⟩ hD_; dsimp only) | (refine wspl ?_ ?_ <;> intro hc_))
  all_goals (refine FinH.ret2c (.inl rfl) rfl rfl rfl rfl rfl wup rfl rfl ?_; exact fun w' hw' => Gives.ofS (f0 := (indirectK m x).1) (tf := fun y : Value × Value => .tuple #[.agg #[y.1, y.2], .int .i64 (indirectK m x).2]) ⟨D_, p_, c_, q_, d_⟩ hw' wmem wmem hD_)
set_option maxHeartbeats 4000000 in
theorem rule_typed_7 (B : Nat) (F : Nat → Prop) (m : ApiModule) (locals : List Int) (v : Value) (x : Ins) (lp pt pl : Option Addr) (lc ct cl : Nat) (w : World) (h0 : Env0 w) (_h : SpaceRd B m w v) (hl : IntsR F w (.slice lp locals.length lc) locals) (_ht : IntsR F w (.slice pt x.types.length ct) x.types) (hp : plainK x = true) (_hT : TyB m) (hk : ofK x.op = 7) : Calls G.P 36 #[v, .slice lp locals.length lc, .agg #[Value.int .i64 x.op, Value.int .i64 x.a, Value.int .i64 x.b, Value.int .u64 x.n, Value.int .i64 x.kind, Value.int .i64 x.val, Value.int .i64 x.index, Value.slice pt x.types.length ct, Value.slice pl x.labels.length cl]] w (WPost (localK locals x) (fun _ => False) w) := by
  obtain ⟨a1, a2, a3, a4, -⟩ := plain_a hp
  have hof : ∀ w', Ext w w' → Calls G.P 76 #[.int .i64 x.op] w' fun e w2 => e = .returned (.int .i64 7) ∧ Ext w' w2 := fun w' hx => by have := opcode_Of x.op w' (h0.ext hx); rw [hk] at this; exact this
  refine enterH (l := [_, _, _]) Tryz.func36 rfl Tryz.ntmps36 rfl (Ok.start w) ?_
  repeat' (first | refine wau ?_ | (refine qbxq fun b_ => ?_) | (refine qal2q fun b_ => ?_) | refine qr14q ?_ | (refine OpsH.isCall (f := 80) ?_; refine OpsH.he (HE.sgW0 (r := (localK locals x)) wmem rfl rfl (fun w' hw' => rule_local F locals x lp pt pl lc ct cl w' (hl.chg (show Ext w w' from hw'.at) (fun _ _ _ h => h)) a3)) rfl ?_; rintro ⟨D_, p_, c_, q_, d_⟩ hD_; dsimp only) | (refine wspl ?_ ?_ <;> intro hc_))
  all_goals (refine FinH.ret2c (.inl rfl) rfl rfl rfl rfl rfl wup rfl rfl ?_; exact fun w' hw' => Gives.ofS (f0 := (localK locals x).1) (tf := fun y : Value × Value => .tuple #[.agg #[y.1, y.2], .int .i64 (localK locals x).2]) ⟨D_, p_, c_, q_, d_⟩ hw' wmem wmem hD_)
set_option maxHeartbeats 4000000 in
theorem rule_typed_8 (B : Nat) (F : Nat → Prop) (m : ApiModule) (locals : List Int) (v : Value) (x : Ins) (lp pt pl : Option Addr) (lc ct cl : Nat) (w : World) (h0 : Env0 w) (h : SpaceRd B m w v) (_hl : IntsR F w (.slice lp locals.length lc) locals) (_ht : IntsR F w (.slice pt x.types.length ct) x.types) (hp : plainK x = true) (_hT : TyB m) (hk : ofK x.op = 8) : Calls G.P 36 #[v, .slice lp locals.length lc, .agg #[Value.int .i64 x.op, Value.int .i64 x.a, Value.int .i64 x.b, Value.int .u64 x.n, Value.int .i64 x.kind, Value.int .i64 x.val, Value.int .i64 x.index, Value.slice pt x.types.length ct, Value.slice pl x.labels.length cl]] w (WPost (globalK m x) (fun _ => False) w) := by
  obtain ⟨a1, a2, a3, a4, -⟩ := plain_a hp
  have hof : ∀ w', Ext w w' → Calls G.P 76 #[.int .i64 x.op] w' fun e w2 => e = .returned (.int .i64 8) ∧ Ext w' w2 := fun w' hx => by have := opcode_Of x.op w' (h0.ext hx); rw [hk] at this; exact this
  refine enterH (l := [_, _, _]) Tryz.func36 rfl Tryz.ntmps36 rfl (Ok.start w) ?_
  repeat' (first | refine wau ?_ | (refine qbxq fun b_ => ?_) | (refine qal2q fun b_ => ?_) | refine qr14q ?_ | (refine OpsH.isCall (f := 81) ?_; refine OpsH.he (HE.sgW0 (r := (globalK m x)) wmem rfl rfl (fun w' hw' => rule_global B m v x pt pl ct cl w' (h.chg (show Ext w w' from hw'.at) (fun _ _ h => h)))) rfl ?_; rintro ⟨D_, p_, c_, q_, d_⟩ hD_; dsimp only) | (refine wspl ?_ ?_ <;> intro hc_))
  all_goals (refine FinH.ret2c (.inl rfl) rfl rfl rfl rfl rfl wup rfl rfl ?_; exact fun w' hw' => Gives.ofS (f0 := (globalK m x).1) (tf := fun y : Value × Value => .tuple #[.agg #[y.1, y.2], .int .i64 (globalK m x).2]) ⟨D_, p_, c_, q_, d_⟩ hw' wmem wmem hD_)
set_option maxHeartbeats 4000000 in
theorem rule_typed_9 (B : Nat) (F : Nat → Prop) (m : ApiModule) (locals : List Int) (v : Value) (x : Ins) (lp pt pl : Option Addr) (lc ct cl : Nat) (w : World) (h0 : Env0 w) (h : SpaceRd B m w v) (_hl : IntsR F w (.slice lp locals.length lc) locals) (_ht : IntsR F w (.slice pt x.types.length ct) x.types) (hp : plainK x = true) (_hT : TyB m) (hk : ofK x.op = 9) : Calls G.P 36 #[v, .slice lp locals.length lc, .agg #[Value.int .i64 x.op, Value.int .i64 x.a, Value.int .i64 x.b, Value.int .u64 x.n, Value.int .i64 x.kind, Value.int .i64 x.val, Value.int .i64 x.index, Value.slice pt x.types.length ct, Value.slice pl x.labels.length cl]] w (WPost (tableK m x) (fun _ => False) w) := by
  obtain ⟨a1, a2, a3, a4, -⟩ := plain_a hp
  have hof : ∀ w', Ext w w' → Calls G.P 76 #[.int .i64 x.op] w' fun e w2 => e = .returned (.int .i64 9) ∧ Ext w' w2 := fun w' hx => by have := opcode_Of x.op w' (h0.ext hx); rw [hk] at this; exact this
  refine enterH (l := [_, _, _]) Tryz.func36 rfl Tryz.ntmps36 rfl (Ok.start w) ?_
  repeat' (first | refine wau ?_ | (refine qbxq fun b_ => ?_) | (refine qal2q fun b_ => ?_) | refine qr14q ?_ | (refine OpsH.isCall (f := 82) ?_; refine OpsH.he (HE.sgW0 (r := (tableK m x)) wmem rfl rfl (fun w' hw' => rule_table1 B m v x pt pl ct cl w' (h.chg (show Ext w w' from hw'.at) (fun _ _ h => h)) (k9_op hk))) rfl ?_; rintro ⟨D_, p_, c_, q_, d_⟩ hD_; dsimp only) | (refine wspl ?_ ?_ <;> intro hc_))
  all_goals (refine FinH.ret2c (.inl rfl) rfl rfl rfl rfl rfl wup rfl rfl ?_; exact fun w' hw' => Gives.ofS (f0 := (tableK m x).1) (tf := fun y : Value × Value => .tuple #[.agg #[y.1, y.2], .int .i64 (tableK m x).2]) ⟨D_, p_, c_, q_, d_⟩ hw' wmem wmem hD_)
set_option maxHeartbeats 4000000 in
theorem rule_typed_20 (B : Nat) (F : Nat → Prop) (m : ApiModule) (locals : List Int) (v : Value) (x : Ins) (lp pt pl : Option Addr) (lc ct cl : Nat) (w : World) (h0 : Env0 w) (_h : SpaceRd B m w v) (_hl : IntsR F w (.slice lp locals.length lc) locals) (_ht : IntsR F w (.slice pt x.types.length ct) x.types) (hp : plainK x = true) (_hT : TyB m) (hk : ofK x.op = 20) : Calls G.P 36 #[v, .slice lp locals.length lc, .agg #[Value.int .i64 x.op, Value.int .i64 x.a, Value.int .i64 x.b, Value.int .u64 x.n, Value.int .i64 x.kind, Value.int .i64 x.val, Value.int .i64 x.index, Value.slice pt x.types.length ct, Value.slice pl x.labels.length cl]] w (WPost (⟨[], [x.a]⟩, 0) (fun _ => False) w) := by
  obtain ⟨a1, a2, a3, a4, a5⟩ := plain_a hp
  have hof : ∀ w', Ext w w' → Calls G.P 76 #[.int .i64 x.op] w' fun e w2 => e = .returned (.int .i64 20) ∧ Ext w' w2 := fun w' hx => by have := opcode_Of x.op w' (h0.ext hx); rw [hk] at this; exact this
  refine enterH (l := [_, _, _]) Tryz.func36 rfl Tryz.ntmps36 rfl (Ok.start w) ?_
  repeat' (first | refine wau ?_ | (refine qbxq fun b_ => ?_) | (refine qal2q fun b_ => ?_) | (refine qbsq fun b_ _ => ?_) | refine qr14q ?_ | (refine OpsH.isCall (f := 79) ?_; refine OpsH.call1 rfl rfl rfl (fun w' hw' => rule_of _ _ _ _ _ _ w') ?_) | (refine wspl ?_ ?_ <;> intro hc_))
  all_goals first | omega | exact FinH.ret2c (.inl rfl) rfl rfl rfl rfl rfl wup rfl rfl fun w' hw' => ⟨⟨(_, _), rfl, qclq, qclq⟩, hw'.at⟩
set_option maxHeartbeats 4000000 in
theorem rule_typed_6 (B : Nat) (F : Nat → Prop) (m : ApiModule) (locals : List Int) (v : Value) (x : Ins) (lp pt pl : Option Addr) (lc ct cl : Nat) (w : World) (h0 : Env0 w) (_h : SpaceRd B m w v) (_hl : IntsR F w (.slice lp locals.length lc) locals) (ht : IntsR F w (.slice pt x.types.length ct) x.types) (hp : plainK x = true) (_hT : TyB m) (hk : ofK x.op = 6) : Calls G.P 36 #[v, .slice lp locals.length lc, .agg #[Value.int .i64 x.op, Value.int .i64 x.a, Value.int .i64 x.b, Value.int .u64 x.n, Value.int .i64 x.kind, Value.int .i64 x.val, Value.int .i64 x.index, Value.slice pt x.types.length ct, Value.slice pl x.labels.length cl]] w (WPost (⟨[ix x.types 0, ix x.types 0, 1], [ix x.types 0]⟩, 0) (fun _ => False) w) := by
  obtain ⟨a1, a2, a3, a4, a5⟩ := plain_a hp
  have h1 := a5 hk
  obtain ⟨bt, ot, rfl, -, hc⟩ := ht.at (i := 0) (by omega)
  have hcell : w.cell? ⟨bt, ot + 0, none⟩ = some (.int .i64 (ix x.types 0)) := hc 0 (by omega)
  generalize ix x.types 0 = t0 at hcell ⊢
  have hof : ∀ w', Ext w w' → Calls G.P 76 #[.int .i64 x.op] w' fun e w2 => e = .returned (.int .i64 6) ∧ Ext w' w2 := fun w' hx => by have := opcode_Of x.op w' (h0.ext hx); rw [hk] at this; exact this
  refine enterH (l := [_, _, _]) Tryz.func36 rfl Tryz.ntmps36 rfl (Ok.start w) ?_
  repeat' (first | refine wau ?_ | (refine qbxq fun b_ => ?_) | (refine qal2q fun b_ => ?_) | refine qr14q ?_ | (refine wspl ?_ ?_ <;> intro hc_))
  rename_i b5
  refine CdH.regionR [.blk b5 [Value.int .i64 x.op, Value.int .i64 x.a, Value.int .i64 x.b, Value.int .u64 x.n, Value.int .i64 x.kind, Value.int .i64 x.val, Value.int .i64 x.index, Value.slice (some ⟨bt, ot, none⟩) x.types.length ct, Value.slice pl x.labels.length cl] 42] [Ext w] wsl wsr ?_
  repeat' (first | refine wgt ?_ | (refine OpsT.qy 2 rfl (Yl.idx1 (i := 0) rfl rfl rfl rfl rfl rfl (by omega)) ?_) | (refine OpsT.qy 6 rfl (Yl.idx1 (i := 0) rfl rfl rfl rfl rfl rfl (by omega)) ?_) | (refine OpsT.qy 11 rfl (Yl.idx1 (i := 0) rfl rfl rfl rfl rfl rfl (by omega)) ?_) | (refine StepT.isBs ?_; refine StepT.he rfl rfl (HE.bsl rfl rfl rfl rfl rfl wcel (by rfl) (by rfl)) (fun _ => wsl) (fun _ => wsr) ?_; rintro b7 _) | (refine StepT.isCl 79 ?_; refine StepT.he rfl rfl (HE.callV rfl rfl (fun w' hw' => rule_of _ _ _ _ _ _ w')) (fun _ => wsl) (fun _ => wsr) ?_; rintro ⟨⟩ _) | (refine StepT.isSt ?_; refine StepT.he0 rfl (HE0.storeB _ rfl rfl rfl rfl rfl rfl wup rfl) (fun _ => wsl) (fun _ => wsr) ?_; rintro ⟨⟩ _) | refine OpsT.nil (by decide +kernel) ?_ | refine OpsT.any (by decide +kernel) ?_ | exact StepsT.fin rfl | refine StepsT.skip (by decide +kernel) ?_ | refine StepsT.go ?_ ?_)
  all_goals
    repeat' (first | refine wau ?_ | (refine wspl ?_ ?_ <;> intro hc_))
    all_goals first | omega | exact FinH.ret2c (.inl rfl) rfl rfl rfl rfl rfl wup rfl rfl fun w' hw' => ⟨⟨(_, _), rfl, qclq, qclq⟩, hw'.at⟩
theorem rule_things (B : Nat) (m : ApiModule) (v : Value) (x : Ins) (pt pl : Option Addr) (ct cl : Nat) (w : World) (h0 : Env0 w) (h : SpaceRd B m w v) : Calls G.P 83 #[v, .agg #[Value.int .i64 x.op, Value.int .i64 x.a, Value.int .i64 x.b, Value.int .u64 x.n, Value.int .i64 x.kind, Value.int .i64 x.val, Value.int .i64 x.index, Value.slice pt x.types.length ct, Value.slice pl x.labels.length cl]] w fun e w' => e = .returned (.int .i64 (thingsK m x)) ∧ Ext w w' := by
  have ho : ∀ w', Ext w w' → Calls G.P 76 #[.int .i64 x.op] w' fun e w2 => e = .returned (.int .i64 (ofK x.op)) ∧ Ext w' w2 := fun w' hx => opcode_Of x.op w' (h0.ext hx)
  have ha : ∀ w', Ext w w' → Calls G.P 138 #[.int .i64 x.op] w' fun e w2 => e = .returned (.int .i64 (alignK x.op)) ∧ Ext w' w2 := fun w' hx => opcode_Align x.op w' (h0.ext hx)
  unfold thingsK
  generalize ofK x.op = k at ho ⊢
  by_cases hk : k = 10
  · exact rule_things_10 B m v _ _ _ _ _ _ _ _ _ _ _ _ _ k _ w h hk ho ha
  by_cases hk : k = 11
  · exact rule_things_11 B m v _ _ _ _ _ _ _ _ _ _ _ _ _ k _ w h hk ho ha
  by_cases hk : k = 12
  · exact rule_things_12 B m v _ _ _ _ _ _ _ _ _ _ _ _ _ k _ w h hk ho ha
  by_cases hk : k = 13
  · exact rule_things_13 B m v _ _ _ _ _ _ _ _ _ _ _ _ _ k _ w h hk ho ha
  by_cases hk : k = 14
  · exact rule_things_14 B m v _ _ _ _ _ _ _ _ _ _ _ _ _ k _ w h hk ho ha
  by_cases hk : k = 15
  · exact rule_things_15 B m v _ _ _ _ _ _ _ _ _ _ _ _ _ k _ w h hk ho ha
  by_cases hk : k = 16
  · exact rule_things_16 B m v _ _ _ _ _ _ _ _ _ _ _ _ _ k _ w h hk ho ha
  by_cases hk : k = 17
  · exact rule_things_17 B m v _ _ _ _ _ _ _ _ _ _ _ _ _ k _ w h hk ho ha
  exact rule_things_o B m v _ _ _ _ _ _ _ _ _ _ _ _ _ k _ w h ⟨by assumption, by assumption, by assumption, by assumption, by assumption, by assumption, by assumption, by assumption⟩ ho ha
set_option maxHeartbeats 4000000 in
theorem rule_typed_o (B : Nat) (F : Nat → Prop) (m : ApiModule) (locals : List Int) (v : Value) (x : Ins) (lp pt pl : Option Addr) (lc ct cl : Nat) (w : World) (h0 : Env0 w) (h : SpaceRd B m w v) (_hl : IntsR F w (.slice lp locals.length lc) locals) (_ht : IntsR F w (.slice pt x.types.length ct) x.types) (hk : ofK x.op ≠ 4 ∧ ofK x.op ≠ 5 ∧ ofK x.op ≠ 6 ∧ ofK x.op ≠ 7 ∧ ofK x.op ≠ 8 ∧ ofK x.op ≠ 9 ∧ ofK x.op ≠ 20) : Calls G.P 36 #[v, .slice lp locals.length lc, .agg #[Value.int .i64 x.op, Value.int .i64 x.a, Value.int .i64 x.b, Value.int .u64 x.n, Value.int .i64 x.kind, Value.int .i64 x.val, Value.int .i64 x.index, Value.slice pt x.types.length ct, Value.slice pl x.labels.length cl]] w (WPost (if thingsK m x ≠ 0 then (noF, thingsK m x) else ((sigO x.op).getD noF, 0)) (fun _ => False) w) := by
  have hof : ∀ w', Ext w w' → Calls G.P 76 #[.int .i64 x.op] w' fun e w2 => e = .returned (.int .i64 (ofK x.op)) ∧ Ext w' w2 := fun w' hx => opcode_Of x.op w' (h0.ext hx)
  have hth : ∀ w', Ext w w' → Calls G.P 83 #[v, .agg #[Value.int .i64 x.op, Value.int .i64 x.a, Value.int .i64 x.b, Value.int .u64 x.n, Value.int .i64 x.kind, Value.int .i64 x.val, Value.int .i64 x.index, Value.slice pt x.types.length ct, Value.slice pl x.labels.length cl]] w' fun e w2 => e = .returned (.int .i64 (thingsK m x)) ∧ Ext w' w2 := fun w' hx => rule_things B m v x pt pl ct cl w' (h0.ext hx) (h.chg hx (fun _ _ h => h))
  obtain ⟨k1, k2, k3, k4, k5, k6, k7⟩ := hk
  generalize ofK x.op = k at *
  generalize thingsK m x = e0 at *
  by_cases he : e0 = 0
  · rw [if_neg (by omega)]
    refine enterH (l := [_, _, _]) Tryz.func36 rfl Tryz.ntmps36 rfl (Ok.start w) ?_
    repeat' (first | refine wau ?_ | (refine qbxq fun b_ => ?_) | (refine qal2q fun b_ => ?_) | refine qr14q ?_ | (refine OpsH.isCall (f := 83) ?_; refine OpsH.call1 rfl rfl rfl (fun w' hw' => hth w' hw'.at) ?_) | (refine OpsH.isCall (f := 85) ?_; refine OpsH.he (HE.sgO0 (r := sigO x.op) wmem rfl rfl (fun w' hw' => opcode_SigF x.op w' (h0.ext hw'.at))) rfl ?_; rintro ⟨D_, p_, c_, q_, d_⟩ hD_; dsimp only) | (refine wspl ?_ ?_ <;> intro hc_))
    all_goals (refine FinH.ret2c (.inl rfl) rfl rfl rfl rfl rfl wup rfl rfl ?_; exact fun w' hw' => Gives.ofS (f0 := (sigO x.op).getD noF) (tf := fun y : Value × Value => .tuple #[.agg #[y.1, y.2], .int .i64 0]) ⟨D_, p_, c_, q_, d_⟩ hw' wmem wmem hD_)
  · rw [if_pos he]
    refine enterH (l := [_, _, _]) Tryz.func36 rfl Tryz.ntmps36 rfl (Ok.start w) ?_
    repeat' (first | refine wau ?_ | (refine qbxq fun b_ => ?_) | (refine qal2q fun b_ => ?_) | refine qr14q ?_ | (refine OpsH.isCall (f := 83) ?_; refine OpsH.call1 rfl rfl rfl (fun w' hw' => hth w' hw'.at) ?_) | (refine OpsH.isCall (f := 84) ?_; refine OpsH.call1 rfl rfl rfl (fun w' hw' => rule_wrong _ w') ?_) | (refine wspl ?_ ?_ <;> intro hc_))
    all_goals first | omega | exact FinH.ret2c (.inl rfl) rfl rfl rfl rfl rfl wup rfl rfl fun w' hw' => ⟨⟨(_, _), rfl, qclq, qclq⟩, hw'.at⟩
theorem rule_typed (B : Nat) (F : Nat → Prop) (m : ApiModule) (locals : List Int) (v : Value) (x : Ins) (lp pt pl : Option Addr) (lc ct cl : Nat) (w : World) (h0 : Env0 w) (h : SpaceRd B m w v) (hl : IntsR F w (.slice lp locals.length lc) locals) (ht : IntsR F w (.slice pt x.types.length ct) x.types) (hp : plainK x = true) (hT : TyB m) : Calls G.P 36 #[v, .slice lp locals.length lc, .agg #[Value.int .i64 x.op, Value.int .i64 x.a, Value.int .i64 x.b, Value.int .u64 x.n, Value.int .i64 x.kind, Value.int .i64 x.val, Value.int .i64 x.index, Value.slice pt x.types.length ct, Value.slice pl x.labels.length cl]] w (WPost (typedK m locals x) (fun _ => False) w) := by
  unfold typedK
  dsimp only
  split
  · exact rule_typed_4 B F m locals v x lp pt pl lc ct cl w h0 h hl ht hp hT (by assumption)
  split
  · exact rule_typed_5 B F m locals v x lp pt pl lc ct cl w h0 h hl ht hp hT (by assumption)
  split
  · exact rule_typed_6 B F m locals v x lp pt pl lc ct cl w h0 h hl ht hp hT (by assumption)
  split
  · exact rule_typed_7 B F m locals v x lp pt pl lc ct cl w h0 h hl ht hp hT (by assumption)
  split
  · exact rule_typed_8 B F m locals v x lp pt pl lc ct cl w h0 h hl ht hp hT (by assumption)
  split
  · exact rule_typed_9 B F m locals v x lp pt pl lc ct cl w h0 h hl ht hp hT (by assumption)
  split
  · exact rule_typed_20 B F m locals v x lp pt pl lc ct cl w h0 h hl ht hp hT (by assumption)
  exact rule_typed_o B F m locals v x lp pt pl lc ct cl w h0 h hl ht ⟨by assumption, by assumption, by assumption, by assumption, by assumption, by assumption, by assumption⟩
def wantsP (m : ApiModule) (locals : List Int) (x : Ins) : ApiFunc × Int := if plainK x = false then (noF, 10) else if apartK x.op = true then (noF, 1) else typedK m locals x
set_option maxHeartbeats 4000000 in
theorem rule_Wants (B : Nat) (F : Nat → Prop) (m : ApiModule) (locals : List Int) (v : Value) (x : Ins) (lp pt pl : Option Addr) (lc ct cl : Nat) (w : World) (h0 : Env0 w) (h : SpaceRd B m w v) (hl : IntsR F w (.slice lp locals.length lc) locals) (ht : IntsR F w (.slice pt x.types.length ct) x.types) (hl2 : IntsR F w (.slice pl x.labels.length cl) x.labels) (hT : TyB m) : Calls G.P 11 #[v, .slice lp locals.length lc, .agg #[Value.int .i64 x.op, Value.int .i64 x.a, Value.int .i64 x.b, Value.int .u64 x.n, Value.int .i64 x.kind, Value.int .i64 x.val, Value.int .i64 x.index, Value.slice pt x.types.length ct, Value.slice pl x.labels.length cl]] w (WPost (wantsP m locals x) (fun _ => False) w) := by
  have hno : ∀ w', Ext w w' → Calls G.P 35 #[v, .agg #[Value.int .i64 x.op, Value.int .i64 x.a, Value.int .i64 x.b, Value.int .u64 x.n, Value.int .i64 x.kind, Value.int .i64 x.val, Value.int .i64 x.index, Value.slice pt x.types.length ct, Value.slice pl x.labels.length cl]] w' fun e w2 => e = .returned (.int .i64 (if plainK x = false then 10 else 0)) ∧ Ext w' w2 := fun w' hx => rule_none B m v x pt pl ct cl w' (h.chg hx (fun _ _ h => h)) fun w2 hx2 => opcode_Plain F x pt pl ct cl w2 (h0.ext (hx.trans hx2)) (ht.chg (hx.trans hx2) (fun _ _ _ h => h)) (hl2.chg (hx.trans hx2) (fun _ _ _ h => h))
  unfold wantsP
  cases hp : plainK x with
  | false =>
    rw [hp] at hno
    rw [if_pos rfl]
    refine enterH (l := [_, _, _]) Tryz.func11 rfl Tryz.ntmps11 rfl (Ok.start w) ?_
    repeat' (first | refine wau ?_ | (refine qbxq fun b_ => ?_) | (refine qal2q fun b_ => ?_) | (refine OpsH.isCall (f := 35) ?_; refine OpsH.call1 rfl rfl rfl (fun w' hw' => hno w' hw'.at) ?_) | (refine wspl ?_ ?_ <;> intro hc_))
    all_goals first | omega | exact FinH.ret2c (.inl rfl) rfl rfl rfl rfl rfl wup rfl rfl fun w' hw' => ⟨⟨(_, _), rfl, qclq, qclq⟩, hw'.at⟩
  | true =>
    rw [hp] at hno
    rw [if_neg (by decide)]
    have hty : ∀ w', Ext w w' → Calls G.P 36 #[v, .slice lp locals.length lc, .agg #[Value.int .i64 x.op, Value.int .i64 x.a, Value.int .i64 x.b, Value.int .u64 x.n, Value.int .i64 x.kind, Value.int .i64 x.val, Value.int .i64 x.index, Value.slice pt x.types.length ct, Value.slice pl x.labels.length cl]] w' (WPost (typedK m locals x) (fun _ => False) w') := fun w' hx => rule_typed B F m locals v x lp pt pl lc ct cl w' (h0.ext hx) (h.chg hx (fun _ _ h => h)) (hl.chg hx (fun _ _ _ h => h)) (ht.chg hx (fun _ _ _ h => h)) hp hT
    cases ha : apartK x.op with
    | true =>
      rw [if_pos rfl]
      have hop : x.op = 2 ∨ x.op = 3 ∨ x.op = 4 ∨ x.op = 5 ∨ x.op = 11 ∨ x.op = 0 ∨ x.op = 12 ∨ x.op = 13 ∨ x.op = 14 ∨ x.op = 15 ∨ x.op = 26 ∨ x.op = 27 ∨ x.op = 209 := by simpa [apartK, or_assoc] using ha
      refine enterH (l := [_, _, _]) Tryz.func11 rfl Tryz.ntmps11 rfl (Ok.start w) ?_
      repeat' (first | refine wau ?_ | (refine qbxq fun b_ => ?_) | (refine qal2q fun b_ => ?_) | (refine OpsH.isCall (f := 35) ?_; refine OpsH.call1 rfl rfl rfl (fun w' hw' => hno w' hw'.at) ?_) | (refine wspl ?_ ?_ <;> intro hc_))
      all_goals first | omega | exact FinH.ret2c (.inl rfl) rfl rfl rfl rfl rfl wup rfl rfl fun w' hw' => ⟨⟨(_, _), rfl, qclq, qclq⟩, hw'.at⟩
    | false =>
      rw [if_neg (by decide)]
      have hop : x.op ≠ 2 ∧ x.op ≠ 3 ∧ x.op ≠ 4 ∧ x.op ≠ 5 ∧ x.op ≠ 11 ∧ x.op ≠ 0 ∧ x.op ≠ 12 ∧ x.op ≠ 13 ∧ x.op ≠ 14 ∧ x.op ≠ 15 ∧ x.op ≠ 26 ∧ x.op ≠ 27 ∧ x.op ≠ 209 := by simpa [apartK, and_assoc] using ha
      refine enterH (l := [_, _, _]) Tryz.func11 rfl Tryz.ntmps11 rfl (Ok.start w) ?_
      repeat' (first | refine wau ?_ | (refine qbxq fun b_ => ?_) | (refine qal2q fun b_ => ?_) | (refine OpsH.isCall (f := 35) ?_; refine OpsH.call1 rfl rfl rfl (fun w' hw' => hno w' hw'.at) ?_) | (refine OpsH.isCall (f := 36) ?_; refine OpsH.he (HE.sgW0 (r := typedK m locals x) wmem rfl rfl (fun w' hw' => hty w' hw'.at)) rfl ?_; rintro ⟨D_, p_, c_, q_, d_⟩ hD_; dsimp only) | (refine wspl ?_ ?_ <;> intro hc_))
      all_goals (refine FinH.ret2c (.inl rfl) rfl rfl rfl rfl rfl wup rfl rfl ?_; exact fun w' hw' => Gives.ofS (f0 := (typedK m locals x).1) (tf := fun y : Value × Value => .tuple #[.agg #[y.1, y.2], .int .i64 (typedK m locals x).2]) ⟨D_, p_, c_, q_, d_⟩ hw' wmem wmem hD_)
end Go.Proofs.YtgbgnipidakdhaaGreatDoor
