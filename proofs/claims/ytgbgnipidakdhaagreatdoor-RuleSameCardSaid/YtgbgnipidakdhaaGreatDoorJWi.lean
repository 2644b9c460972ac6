/- Layer 23: rule.typed. -/
import Derived.Test.YtgbgnipidakdhaaGreatDoorJWh
import Derived.Test.YtgbgnipidakdhaaGreatDoorJH7
namespace Go.Proofs.YtgbgnipidakdhaaGreatDoor
open Go.RowKit
set_option maxRecDepth 100000
theorem opcode_SigF (op : Int) (w : World) (h0 : Env0 w) : Calls G.P 85 #[.int .i64 op] w (FGives (sigO op) (fun _ => False) w) :=
  (opcode_Sig op w h0).mono fun e w' ⟨⟨v, e1, hv⟩, hx⟩ => by
    obtain ⟨_, rfl, p, r, rfl, h1, h2⟩ := hv
    exact ⟨⟨(p, r), e1, h1.mono fun _ _ h => .inr h, h2.mono fun _ _ h => .inr h⟩, hx⟩
def typedK (m : ApiModule) (locals : List Int) (x : Ins) : ApiFunc × Int :=
  let k := ofK x.op
  if k = 4 then functionK m x else if k = 5 then indirectK m x else if k = 6 then (⟨[ix x.types 0, ix x.types 0, 1], [ix x.types 0]⟩, 0) else if k = 7 then localK locals x else if k = 8 then globalK m x else if k = 9 then tableK m x else
  if k = 20 then (⟨[], [x.a]⟩, 0) else if thingsK m x ≠ 0 then (noF, thingsK m x) else ((sigO x.op).getD noF, 0)
/-- no type has more parameters or results than an argument can hold -/
def TyB (m : ApiModule) : Prop := ∀ f ∈ m.types, f.params.length ≤ 17592186043904 ∧ f.results.length ≤ 17592186043904
theorem atK_mem {α : Type} [Inhabited α] {l : List α} {i : Int} {f : α} (h : atK l i = some f) : f ∈ l := by
  unfold atK at h
  split at h
  · rename_i hc
    cases h
    rw [ix_eq (by omega)]; exact List.getElem_mem _
  · cases h
theorem k9_tab : (r05.all fun r => !decide (r.2.2 = 9) || (decide (r.1 = 37) || decide (r.1 = 38) || decide (r.1 = 64528) || decide (r.1 = 64527) || decide (r.1 = 64529))) = true := by decide +kernel
theorem k9_op {op : Int} (h : ofK op = 9) : op = 37 ∨ op = 38 ∨ op = 64528 ∨ op = 64527 ∨ op = 64529 := by
  obtain ⟨r, hr, h1, h2⟩ := ofK_row (op := op) (by omega)
  have := List.all_eq_true.1 k9_tab r hr
  rw [h2, h, h1] at this
  simpa [or_assoc] using this
theorem plain_a {x : Ins} (h : plainK x = true) : R64 x.a ∧ R64 x.b ∧ 0 ≤ x.a ∧ 0 ≤ x.b ∧ (ofK x.op = 6 → x.types.length = 1) := by
  have hr := ofK_r x.op
  rw [plainK_eq, plainC_eq] at h
  unfold plainC at h
  unfold R64
  generalize ofK x.op = k at *
  have : k = 0 ∨ k = 1 ∨ k = 2 ∨ k = 3 ∨ k = 4 ∨ k = 5 ∨ k = 6 ∨ k = 7 ∨ k = 8 ∨ k = 9 ∨ k = 10 ∨ k = 11 ∨ k = 12 ∨ k = 13 ∨ k = 14 ∨ k = 15 ∨ k = 16 ∨ k = 17 ∨ k = 18 ∨ k = 19 ∨ k = 20 := by omega
  rcases this with rfl | rfl | rfl | rfl | rfl | rfl | rfl | rfl | rfl | rfl | rfl | rfl | rfl | rfl | rfl | rfl | rfl | rfl | rfl | rfl | rfl
  all_goals
    simp [indexK_iff] at h
    omega
set_option maxHeartbeats 4000000 in
theorem rule_typed_4 (B : Nat) (F : Nat → Prop) (m : ApiModule) (locals : List Int) (v : Value) (x : Ins) (lp pt pl : Option Addr) (lc ct cl : Nat) (w : World) (h0 : Env0 w) (h : SpaceRd B m w v) (_hl : IntsR F w (.slice lp locals.length lc) locals) (_ht : IntsR F w (.slice pt x.types.length ct) x.types) (hp : plainK x = true) (_hT : TyB m) (hk : ofK x.op = 4) : Calls G.P 36 #[v, .slice lp locals.length lc, .agg #[Value.int .i64 x.op, Value.int .i64 x.a, Value.int .i64 x.b, Value.int .u64 x.n, Value.int .i64 x.kind, Value.int .i64 x.val, Value.int .i64 x.index, Value.slice pt x.types.length ct, Value.slice pl x.labels.length cl]] w (WPost (functionK m x) (fun _ => False) w) := by
  obtain ⟨a1, a2, a3, a4, -⟩ := plain_a hp
  have hof : ∀ w', Ext w w' → Calls G.P 76 #[.int .i64 x.op] w' fun e w2 => e = .returned (.int .i64 4) ∧ Ext w' w2 := fun w' hx => by have := opcode_Of x.op w' (h0.ext hx); rw [hk] at this; exact this
  refine enterH (l := [_, _, _]) Tryz.func36 rfl Tryz.ntmps36 rfl (Ok.start w) ?_
  repeat' (first | refine wau ?_ | (refine OpsH.isBox ?_; refine OpsH.box _ rfl rfl rfl fun b_ => ?_) | (refine OpsH.isAlloc (t := TFn) ?_; refine OpsH.alloc (t := TFn) [Value.slice none 0 0, Value.slice none 0 0] rfl rfl rfl fun b_ => ?_) | (refine OpsH.isCall (f := 76) ?_; refine OpsH.call1 rfl rfl rfl (fun w' hw' => hof w' hw'.at) ?_) | (refine OpsH.isCall (f := 77) ?_; refine OpsH.he (HE.sgW0 (r := (functionK m x)) wmem rfl rfl (fun w' hw' => rule_function B m v x pt pl ct cl w' (h.chg (show Ext w w' from hw'.at) (fun _ _ h => h)) a1)) rfl ?_; rintro ⟨D_, p_, c_, q_, d_⟩ hD_; dsimp only) | (refine wspl ?_ ?_ <;> intro hc_))
  all_goals (refine FinH.ret2c (.inl rfl) rfl rfl rfl rfl rfl wup rfl rfl ?_; exact fun w' hw' => Gives.ofS (f0 := (functionK m x).1) (tf := fun y : Value × Value => .tuple #[.agg #[y.1, y.2], .int .i64 (functionK m x).2]) ⟨D_, p_, c_, q_, d_⟩ hw' wmem wmem hD_)
set_option maxHeartbeats 4000000 in
theorem rule_typed_5 (B : Nat) (F : Nat → Prop) (m : ApiModule) (locals : List Int) (v : Value) (x : Ins) (lp pt pl : Option Addr) (lc ct cl : Nat) (w : World) (h0 : Env0 w) (h : SpaceRd B m w v) (_hl : IntsR F w (.slice lp locals.length lc) locals) (_ht : IntsR F w (.slice pt x.types.length ct) x.types) (hp : plainK x = true) (hT : TyB m) (hk : ofK x.op = 5) : Calls G.P 36 #[v, .slice lp locals.length lc, .agg #[Value.int .i64 x.op, Value.int .i64 x.a, Value.int .i64 x.b, Value.int .u64 x.n, Value.int .i64 x.kind, Value.int .i64 x.val, Value.int .i64 x.index, Value.slice pt x.types.length ct, Value.slice pl x.labels.length cl]] w (WPost (indirectK m x) (fun _ => False) w) := by
  obtain ⟨a1, a2, a3, a4, -⟩ := plain_a hp
  have hof : ∀ w', Ext w w' → Calls G.P 76 #[.int .i64 x.op] w' fun e w2 => e = .returned (.int .i64 5) ∧ Ext w' w2 := fun w' hx => by have := opcode_Of x.op w' (h0.ext hx); rw [hk] at this; exact this
  refine enterH (l := [_, _, _]) Tryz.func36 rfl Tryz.ntmps36 rfl (Ok.start w) ?_
  repeat' (first | refine wau ?_ | (refine OpsH.isBox ?_; refine OpsH.box _ rfl rfl rfl fun b_ => ?_) | (refine OpsH.isAlloc (t := TFn) ?_; refine OpsH.alloc (t := TFn) [Value.slice none 0 0, Value.slice none 0 0] rfl rfl rfl fun b_ => ?_) | (refine OpsH.isCall (f := 76) ?_; refine OpsH.call1 rfl rfl rfl (fun w' hw' => hof w' hw'.at) ?_) | (refine OpsH.isCall (f := 78) ?_; refine OpsH.he (HE.sgW0 (r := (indirectK m x)) wmem rfl rfl (fun w' hw' => rule_indirect B m v x pt pl ct cl w' (h.chg (show Ext w w' from hw'.at) (fun _ _ h => h)) (fun f hf => ⟨(hT f (atK_mem hf)).1, by have := (hT f (atK_mem hf)).2; omega⟩))) rfl ?_; rintro ⟨D_, p_, c_, q_, d_⟩ hD_; dsimp only) | (refine wspl ?_ ?_ <;> intro hc_))
  all_goals (refine FinH.ret2c (.inl rfl) rfl rfl rfl rfl rfl wup rfl rfl ?_; exact fun w' hw' => Gives.ofS (f0 := (indirectK m x).1) (tf := fun y : Value × Value => .tuple #[.agg #[y.1, y.2], .int .i64 (indirectK m x).2]) ⟨D_, p_, c_, q_, d_⟩ hw' wmem wmem hD_)
set_option maxHeartbeats 4000000 in
theorem rule_typed_7 (B : Nat) (F : Nat → Prop) (m : ApiModule) (locals : List Int) (v : Value) (x : Ins) (lp pt pl : Option Addr) (lc ct cl : Nat) (w : World) (h0 : Env0 w) (_h : SpaceRd B m w v) (hl : IntsR F w (.slice lp locals.length lc) locals) (_ht : IntsR F w (.slice pt x.types.length ct) x.types) (hp : plainK x = true) (_hT : TyB m) (hk : ofK x.op = 7) : Calls G.P 36 #[v, .slice lp locals.length lc, .agg #[Value.int .i64 x.op, Value.int .i64 x.a, Value.int .i64 x.b, Value.int .u64 x.n, Value.int .i64 x.kind, Value.int .i64 x.val, Value.int .i64 x.index, Value.slice pt x.types.length ct, Value.slice pl x.labels.length cl]] w (WPost (localK locals x) (fun _ => False) w) := by
  obtain ⟨a1, a2, a3, a4, -⟩ := plain_a hp
  have hof : ∀ w', Ext w w' → Calls G.P 76 #[.int .i64 x.op] w' fun e w2 => e = .returned (.int .i64 7) ∧ Ext w' w2 := fun w' hx => by have := opcode_Of x.op w' (h0.ext hx); rw [hk] at this; exact this
  refine enterH (l := [_, _, _]) Tryz.func36 rfl Tryz.ntmps36 rfl (Ok.start w) ?_
  repeat' (first | refine wau ?_ | (refine OpsH.isBox ?_; refine OpsH.box _ rfl rfl rfl fun b_ => ?_) | (refine OpsH.isAlloc (t := TFn) ?_; refine OpsH.alloc (t := TFn) [Value.slice none 0 0, Value.slice none 0 0] rfl rfl rfl fun b_ => ?_) | (refine OpsH.isCall (f := 76) ?_; refine OpsH.call1 rfl rfl rfl (fun w' hw' => hof w' hw'.at) ?_) | (refine OpsH.isCall (f := 80) ?_; refine OpsH.he (HE.sgW0 (r := (localK locals x)) wmem rfl rfl (fun w' hw' => rule_local F locals x lp pt pl lc ct cl w' (hl.chg (show Ext w w' from hw'.at) (fun _ _ _ h => h)) a3)) rfl ?_; rintro ⟨D_, p_, c_, q_, d_⟩ hD_; dsimp only) | (refine wspl ?_ ?_ <;> intro hc_))
  all_goals (refine FinH.ret2c (.inl rfl) rfl rfl rfl rfl rfl wup rfl rfl ?_; exact fun w' hw' => Gives.ofS (f0 := (localK locals x).1) (tf := fun y : Value × Value => .tuple #[.agg #[y.1, y.2], .int .i64 (localK locals x).2]) ⟨D_, p_, c_, q_, d_⟩ hw' wmem wmem hD_)
set_option maxHeartbeats 4000000 in
theorem rule_typed_8 (B : Nat) (F : Nat → Prop) (m : ApiModule) (locals : List Int) (v : Value) (x : Ins) (lp pt pl : Option Addr) (lc ct cl : Nat) (w : World) (h0 : Env0 w) (h : SpaceRd B m w v) (_hl : IntsR F w (.slice lp locals.length lc) locals) (_ht : IntsR F w (.slice pt x.types.length ct) x.types) (hp : plainK x = true) (_hT : TyB m) (hk : ofK x.op = 8) : Calls G.P 36 #[v, .slice lp locals.length lc, .agg #[Value.int .i64 x.op, Value.int .i64 x.a, Value.int .i64 x.b, Value.int .u64 x.n, Value.int .i64 x.kind, Value.int .i64 x.val, Value.int .i64 x.index, Value.slice pt x.types.length ct, Value.slice pl x.labels.length cl]] w (WPost (globalK m x) (fun _ => False) w) := by
  obtain ⟨a1, a2, a3, a4, -⟩ := plain_a hp
  have hof : ∀ w', Ext w w' → Calls G.P 76 #[.int .i64 x.op] w' fun e w2 => e = .returned (.int .i64 8) ∧ Ext w' w2 := fun w' hx => by have := opcode_Of x.op w' (h0.ext hx); rw [hk] at this; exact this
  refine enterH (l := [_, _, _]) Tryz.func36 rfl Tryz.ntmps36 rfl (Ok.start w) ?_
  repeat' (first | refine wau ?_ | (refine OpsH.isBox ?_; refine OpsH.box _ rfl rfl rfl fun b_ => ?_) | (refine OpsH.isAlloc (t := TFn) ?_; refine OpsH.alloc (t := TFn) [Value.slice none 0 0, Value.slice none 0 0] rfl rfl rfl fun b_ => ?_) | (refine OpsH.isCall (f := 76) ?_; refine OpsH.call1 rfl rfl rfl (fun w' hw' => hof w' hw'.at) ?_) | (refine OpsH.isCall (f := 81) ?_; refine OpsH.he (HE.sgW0 (r := (globalK m x)) wmem rfl rfl (fun w' hw' => rule_global B m v x pt pl ct cl w' (h.chg (show Ext w w' from hw'.at) (fun _ _ h => h)))) rfl ?_; rintro ⟨D_, p_, c_, q_, d_⟩ hD_; dsimp only) | (refine wspl ?_ ?_ <;> intro hc_))
  all_goals (refine FinH.ret2c (.inl rfl) rfl rfl rfl rfl rfl wup rfl rfl ?_; exact fun w' hw' => Gives.ofS (f0 := (globalK m x).1) (tf := fun y : Value × Value => .tuple #[.agg #[y.1, y.2], .int .i64 (globalK m x).2]) ⟨D_, p_, c_, q_, d_⟩ hw' wmem wmem hD_)
set_option maxHeartbeats 4000000 in
theorem rule_typed_9 (B : Nat) (F : Nat → Prop) (m : ApiModule) (locals : List Int) (v : Value) (x : Ins) (lp pt pl : Option Addr) (lc ct cl : Nat) (w : World) (h0 : Env0 w) (h : SpaceRd B m w v) (_hl : IntsR F w (.slice lp locals.length lc) locals) (_ht : IntsR F w (.slice pt x.types.length ct) x.types) (hp : plainK x = true) (_hT : TyB m) (hk : ofK x.op = 9) : Calls G.P 36 #[v, .slice lp locals.length lc, .agg #[Value.int .i64 x.op, Value.int .i64 x.a, Value.int .i64 x.b, Value.int .u64 x.n, Value.int .i64 x.kind, Value.int .i64 x.val, Value.int .i64 x.index, Value.slice pt x.types.length ct, Value.slice pl x.labels.length cl]] w (WPost (tableK m x) (fun _ => False) w) := by
  obtain ⟨a1, a2, a3, a4, -⟩ := plain_a hp
  have hof : ∀ w', Ext w w' → Calls G.P 76 #[.int .i64 x.op] w' fun e w2 => e = .returned (.int .i64 9) ∧ Ext w' w2 := fun w' hx => by have := opcode_Of x.op w' (h0.ext hx); rw [hk] at this; exact this
  refine enterH (l := [_, _, _]) Tryz.func36 rfl Tryz.ntmps36 rfl (Ok.start w) ?_
  repeat' (first | refine wau ?_ | (refine OpsH.isBox ?_; refine OpsH.box _ rfl rfl rfl fun b_ => ?_) | (refine OpsH.isAlloc (t := TFn) ?_; refine OpsH.alloc (t := TFn) [Value.slice none 0 0, Value.slice none 0 0] rfl rfl rfl fun b_ => ?_) | (refine OpsH.isCall (f := 76) ?_; refine OpsH.call1 rfl rfl rfl (fun w' hw' => hof w' hw'.at) ?_) | (refine OpsH.isCall (f := 82) ?_; refine OpsH.he (HE.sgW0 (r := (tableK m x)) wmem rfl rfl (fun w' hw' => rule_table1 B m v x pt pl ct cl w' (h.chg (show Ext w w' from hw'.at) (fun _ _ h => h)) (k9_op hk))) rfl ?_; rintro ⟨D_, p_, c_, q_, d_⟩ hD_; dsimp only) | (refine wspl ?_ ?_ <;> intro hc_))
  all_goals (refine FinH.ret2c (.inl rfl) rfl rfl rfl rfl rfl wup rfl rfl ?_; exact fun w' hw' => Gives.ofS (f0 := (tableK m x).1) (tf := fun y : Value × Value => .tuple #[.agg #[y.1, y.2], .int .i64 (tableK m x).2]) ⟨D_, p_, c_, q_, d_⟩ hw' wmem wmem hD_)
set_option maxHeartbeats 4000000 in
theorem rule_typed_20 (B : Nat) (F : Nat → Prop) (m : ApiModule) (locals : List Int) (v : Value) (x : Ins) (lp pt pl : Option Addr) (lc ct cl : Nat) (w : World) (h0 : Env0 w) (_h : SpaceRd B m w v) (_hl : IntsR F w (.slice lp locals.length lc) locals) (_ht : IntsR F w (.slice pt x.types.length ct) x.types) (hp : plainK x = true) (_hT : TyB m) (hk : ofK x.op = 20) : Calls G.P 36 #[v, .slice lp locals.length lc, .agg #[Value.int .i64 x.op, Value.int .i64 x.a, Value.int .i64 x.b, Value.int .u64 x.n, Value.int .i64 x.kind, Value.int .i64 x.val, Value.int .i64 x.index, Value.slice pt x.types.length ct, Value.slice pl x.labels.length cl]] w (WPost (⟨[], [x.a]⟩, 0) (fun _ => False) w) := by
  obtain ⟨a1, a2, a3, a4, a5⟩ := plain_a hp
  have hof : ∀ w', Ext w w' → Calls G.P 76 #[.int .i64 x.op] w' fun e w2 => e = .returned (.int .i64 20) ∧ Ext w' w2 := fun w' hx => by have := opcode_Of x.op w' (h0.ext hx); rw [hk] at this; exact this
  refine enterH (l := [_, _, _]) Tryz.func36 rfl Tryz.ntmps36 rfl (Ok.start w) ?_
  repeat' (first | refine wau ?_ | (refine OpsH.isBox ?_; refine OpsH.box _ rfl rfl rfl fun b_ => ?_) | (refine OpsH.isAlloc (t := TFn) ?_; refine OpsH.alloc (t := TFn) [Value.slice none 0 0, Value.slice none 0 0] rfl rfl rfl fun b_ => ?_) | (refine OpsH.isBsl ?_; refine OpsH.he (HE.bsl rfl rfl rfl rfl rfl wcel (by rfl) (by rfl)) rfl ?_; intro b_ _) | (refine OpsH.isCall (f := 76) ?_; refine OpsH.call1 rfl rfl rfl (fun w' hw' => hof w' hw'.at) ?_) | (refine OpsH.isCall (f := 79) ?_; refine OpsH.call1 rfl rfl rfl (fun w' hw' => rule_of _ _ _ _ _ _ w') ?_) | (refine wspl ?_ ?_ <;> intro hc_))
  all_goals first | omega | exact FinH.ret2c (.inl rfl) rfl rfl rfl rfl rfl wup rfl rfl fun w' hw' => ⟨⟨(_, _), rfl, by first | exact IntsR.nil0 _ _ | exact blk_ints _ hw' wmem (hD := fun _ h => .inr h), by first | exact IntsR.nil0 _ _ | exact blk_ints _ hw' wmem (hD := fun _ h => .inr h)⟩, hw'.at⟩
set_option maxHeartbeats 4000000 in
theorem rule_typed_6 (B : Nat) (F : Nat → Prop) (m : ApiModule) (locals : List Int) (v : Value) (x : Ins) (lp pt pl : Option Addr) (lc ct cl : Nat) (w : World) (h0 : Env0 w) (_h : SpaceRd B m w v) (_hl : IntsR F w (.slice lp locals.length lc) locals) (ht : IntsR F w (.slice pt x.types.length ct) x.types) (hp : plainK x = true) (_hT : TyB m) (hk : ofK x.op = 6) : Calls G.P 36 #[v, .slice lp locals.length lc, .agg #[Value.int .i64 x.op, Value.int .i64 x.a, Value.int .i64 x.b, Value.int .u64 x.n, Value.int .i64 x.kind, Value.int .i64 x.val, Value.int .i64 x.index, Value.slice pt x.types.length ct, Value.slice pl x.labels.length cl]] w (WPost (⟨[ix x.types 0, ix x.types 0, 1], [ix x.types 0]⟩, 0) (fun _ => False) w) := by
  obtain ⟨a1, a2, a3, a4, a5⟩ := plain_a hp
  have h1 := a5 hk
  obtain ⟨bt, ot, rfl, -, hc⟩ := ht.at (i := 0) (by omega)
  have hcell : w.cell? ⟨bt, ot + 0, none⟩ = some (.int .i64 (ix x.types 0)) := hc 0 (by omega)
  generalize ix x.types 0 = t0 at hcell ⊢
  have hof : ∀ w', Ext w w' → Calls G.P 76 #[.int .i64 x.op] w' fun e w2 => e = .returned (.int .i64 6) ∧ Ext w' w2 := fun w' hx => by have := opcode_Of x.op w' (h0.ext hx); rw [hk] at this; exact this
  refine enterH (l := [_, _, _]) Tryz.func36 rfl Tryz.ntmps36 rfl (Ok.start w) ?_
  repeat' (first | refine wau ?_ | (refine OpsH.isBox ?_; refine OpsH.box _ rfl rfl rfl fun b_ => ?_) | (refine OpsH.isAlloc (t := TFn) ?_; refine OpsH.alloc (t := TFn) [Value.slice none 0 0, Value.slice none 0 0] rfl rfl rfl fun b_ => ?_) | (refine OpsH.isCall (f := 76) ?_; refine OpsH.call1 rfl rfl rfl (fun w' hw' => hof w' hw'.at) ?_) | (refine wspl ?_ ?_ <;> intro hc_))
  rename_i b5
  refine CdH.regionR [.blk b5 [Value.int .i64 x.op, Value.int .i64 x.a, Value.int .i64 x.b, Value.int .u64 x.n, Value.int .i64 x.kind, Value.int .i64 x.val, Value.int .i64 x.index, Value.slice (some ⟨bt, ot, none⟩) x.types.length ct, Value.slice pl x.labels.length cl] 42] [Ext w] wsl wsr ?_
  repeat' (first | refine wgt ?_ | (refine OpsT.qy 2 rfl (Yl.idx1 (i := 0) rfl rfl rfl rfl rfl rfl (by omega)) ?_) | (refine OpsT.qy 6 rfl (Yl.idx1 (i := 0) rfl rfl rfl rfl rfl rfl (by omega)) ?_) | (refine OpsT.qy 11 rfl (Yl.idx1 (i := 0) rfl rfl rfl rfl rfl rfl (by omega)) ?_) | (refine StepT.isBs ?_; refine StepT.he rfl rfl (HE.bsl rfl rfl rfl rfl rfl wcel (by rfl) (by rfl)) (fun _ => wsl) (fun _ => wsr) ?_; rintro b7 _) | (refine StepT.isCl 79 ?_; refine StepT.he rfl rfl (HE.callV rfl rfl (fun w' hw' => rule_of _ _ _ _ _ _ w')) (fun _ => wsl) (fun _ => wsr) ?_; rintro ⟨⟩ _) | (refine StepT.isSt ?_; refine StepT.he0 rfl (HE0.storeB _ rfl rfl rfl rfl rfl rfl wup rfl) (fun _ => wsl) (fun _ => wsr) ?_; rintro ⟨⟩ _) | refine OpsT.nil (by decide +kernel) ?_ | refine OpsT.any (by decide +kernel) ?_ | exact StepsT.fin rfl | refine StepsT.skip (by decide +kernel) ?_ | refine StepsT.go ?_ ?_)
  all_goals
    repeat' (first | refine wau ?_ | (refine wspl ?_ ?_ <;> intro hc_))
    all_goals first | omega | exact FinH.ret2c (.inl rfl) rfl rfl rfl rfl rfl wup rfl rfl fun w' hw' => ⟨⟨(_, _), rfl, by first | exact IntsR.nil0 _ _ | exact blk_ints _ hw' wmem (hD := fun _ h => .inr h), by first | exact IntsR.nil0 _ _ | exact blk_ints _ hw' wmem (hD := fun _ h => .inr h)⟩, hw'.at⟩
end Go.Proofs.YtgbgnipidakdhaaGreatDoor
