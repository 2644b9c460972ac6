/- Layer 23: rule.typed whole, rule.Wants. -/
import Derived.Test.YtgbgnipidakdhaaGreatDoorJWi
namespace Go.Proofs.YtgbgnipidakdhaaGreatDoor
open Go.RowKit
set_option maxRecDepth 100000
theorem rule_things (B : Nat) (m : ApiModule) (v : Value) (x : Ins) (pt pl : Option Addr) (ct cl : Nat) (w : World) (h0 : Env0 w) (h : SpaceRd B m w v) : Calls G.P 83 #[v, .agg #[Value.int .i64 x.op, Value.int .i64 x.a, Value.int .i64 x.b, Value.int .u64 x.n, Value.int .i64 x.kind, Value.int .i64 x.val, Value.int .i64 x.index, Value.slice pt x.types.length ct, Value.slice pl x.labels.length cl]] w fun e w' => e = .returned (.int .i64 (thingsK m x)) ∧ Ext w w' := by
  have ho : ∀ w', Ext w w' → Calls G.P 76 #[.int .i64 x.op] w' fun e w2 => e = .returned (.int .i64 (ofK x.op)) ∧ Ext w' w2 := fun w' hx => opcode_Of x.op w' (h0.ext hx)
  have ha : ∀ w', Ext w w' → Calls G.P 138 #[.int .i64 x.op] w' fun e w2 => e = .returned (.int .i64 (alignK x.op)) ∧ Ext w' w2 := fun w' hx => opcode_Align x.op w' (h0.ext hx)
  unfold thingsK
  generalize ofK x.op = k at ho ⊢
  by_cases hk : k = 10
  · exact rule_things_10 B m v _ _ _ _ _ _ _ _ _ _ _ _ _ k _ w h hk ho ha
  by_cases hk : k = 11
  · exact rule_things_11 B m v _ _ _ _ _ _ _ _ _ _ _ _ _ k _ w h hk ho ha
  by_cases hk : k = 12
  · exact rule_things_12 B m v _ _ _ _ _ _ _ _ _ _ _ _ _ k _ w h hk ho ha
  by_cases hk : k = 13
  · exact rule_things_13 B m v _ _ _ _ _ _ _ _ _ _ _ _ _ k _ w h hk ho ha
  by_cases hk : k = 14
  · exact rule_things_14 B m v _ _ _ _ _ _ _ _ _ _ _ _ _ k _ w h hk ho ha
  by_cases hk : k = 15
  · exact rule_things_15 B m v _ _ _ _ _ _ _ _ _ _ _ _ _ k _ w h hk ho ha
  by_cases hk : k = 16
  · exact rule_things_16 B m v _ _ _ _ _ _ _ _ _ _ _ _ _ k _ w h hk ho ha
  by_cases hk : k = 17
  · exact rule_things_17 B m v _ _ _ _ _ _ _ _ _ _ _ _ _ k _ w h hk ho ha
  exact rule_things_o B m v _ _ _ _ _ _ _ _ _ _ _ _ _ k _ w h ⟨by assumption, by assumption, by assumption, by assumption, by assumption, by assumption, by assumption, by assumption⟩ ho ha
set_option maxHeartbeats 4000000 in
theorem rule_typed_o (B : Nat) (F : Nat → Prop) (m : ApiModule) (locals : List Int) (v : Value) (x : Ins) (lp pt pl : Option Addr) (lc ct cl : Nat) (w : World) (h0 : Env0 w) (h : SpaceRd B m w v) (_hl : IntsR F w (.slice lp locals.length lc) locals) (_ht : IntsR F w (.slice pt x.types.length ct) x.types) (hk : ofK x.op ≠ 4 ∧ ofK x.op ≠ 5 ∧ ofK x.op ≠ 6 ∧ ofK x.op ≠ 7 ∧ ofK x.op ≠ 8 ∧ ofK x.op ≠ 9 ∧ ofK x.op ≠ 20) : Calls G.P 36 #[v, .slice lp locals.length lc, .agg #[Value.int .i64 x.op, Value.int .i64 x.a, Value.int .i64 x.b, Value.int .u64 x.n, Value.int .i64 x.kind, Value.int .i64 x.val, Value.int .i64 x.index, Value.slice pt x.types.length ct, Value.slice pl x.labels.length cl]] w (WPost (if thingsK m x ≠ 0 then (noF, thingsK m x) else ((sigO x.op).getD noF, 0)) (fun _ => False) w) := by
  have hof : ∀ w', Ext w w' → Calls G.P 76 #[.int .i64 x.op] w' fun e w2 => e = .returned (.int .i64 (ofK x.op)) ∧ Ext w' w2 := fun w' hx => opcode_Of x.op w' (h0.ext hx)
  have hth : ∀ w', Ext w w' → Calls G.P 83 #[v, .agg #[Value.int .i64 x.op, Value.int .i64 x.a, Value.int .i64 x.b, Value.int .u64 x.n, Value.int .i64 x.kind, Value.int .i64 x.val, Value.int .i64 x.index, Value.slice pt x.types.length ct, Value.slice pl x.labels.length cl]] w' fun e w2 => e = .returned (.int .i64 (thingsK m x)) ∧ Ext w' w2 := fun w' hx => rule_things B m v x pt pl ct cl w' (h0.ext hx) (h.chg hx (fun _ _ h => h))
  obtain ⟨k1, k2, k3, k4, k5, k6, k7⟩ := hk
  generalize ofK x.op = k at *
  generalize thingsK m x = e0 at *
  by_cases he : e0 = 0
  · rw [if_neg (by omega)]
    refine enterH (l := [_, _, _]) Tryz.func36 rfl Tryz.ntmps36 rfl (Ok.start w) ?_
    repeat' (first | refine wau ?_ | (refine OpsH.isBox ?_; refine OpsH.box _ rfl rfl rfl fun b_ => ?_) | (refine OpsH.isAlloc (t := TFn) ?_; refine OpsH.alloc (t := TFn) [Value.slice none 0 0, Value.slice none 0 0] rfl rfl rfl fun b_ => ?_) | (refine OpsH.isCall (f := 76) ?_; refine OpsH.call1 rfl rfl rfl (fun w' hw' => hof w' hw'.at) ?_) | (refine OpsH.isCall (f := 83) ?_; refine OpsH.call1 rfl rfl rfl (fun w' hw' => hth w' hw'.at) ?_) | (refine OpsH.isCall (f := 85) ?_; refine OpsH.he (HE.sgO0 (r := sigO x.op) wmem rfl rfl (fun w' hw' => opcode_SigF x.op w' (h0.ext hw'.at))) rfl ?_; rintro ⟨D_, p_, c_, q_, d_⟩ hD_; dsimp only) | (refine wspl ?_ ?_ <;> intro hc_))
    all_goals (refine FinH.ret2c (.inl rfl) rfl rfl rfl rfl rfl wup rfl rfl ?_; exact fun w' hw' => Gives.ofS (f0 := (sigO x.op).getD noF) (tf := fun y : Value × Value => .tuple #[.agg #[y.1, y.2], .int .i64 0]) ⟨D_, p_, c_, q_, d_⟩ hw' wmem wmem hD_)
  · rw [if_pos he]
    refine enterH (l := [_, _, _]) Tryz.func36 rfl Tryz.ntmps36 rfl (Ok.start w) ?_
    repeat' (first | refine wau ?_ | (refine OpsH.isBox ?_; refine OpsH.box _ rfl rfl rfl fun b_ => ?_) | (refine OpsH.isAlloc (t := TFn) ?_; refine OpsH.alloc (t := TFn) [Value.slice none 0 0, Value.slice none 0 0] rfl rfl rfl fun b_ => ?_) | (refine OpsH.isCall (f := 76) ?_; refine OpsH.call1 rfl rfl rfl (fun w' hw' => hof w' hw'.at) ?_) | (refine OpsH.isCall (f := 83) ?_; refine OpsH.call1 rfl rfl rfl (fun w' hw' => hth w' hw'.at) ?_) | (refine OpsH.isCall (f := 84) ?_; refine OpsH.call1 rfl rfl rfl (fun w' hw' => rule_wrong _ w') ?_) | (refine wspl ?_ ?_ <;> intro hc_))
    all_goals first | omega | exact FinH.ret2c (.inl rfl) rfl rfl rfl rfl rfl wup rfl rfl fun w' hw' => ⟨⟨(_, _), rfl, by first | exact IntsR.nil0 _ _ | exact blk_ints _ hw' wmem (hD := fun _ h => .inr h), by first | exact IntsR.nil0 _ _ | exact blk_ints _ hw' wmem (hD := fun _ h => .inr h)⟩, hw'.at⟩
theorem rule_typed (B : Nat) (F : Nat → Prop) (m : ApiModule) (locals : List Int) (v : Value) (x : Ins) (lp pt pl : Option Addr) (lc ct cl : Nat) (w : World) (h0 : Env0 w) (h : SpaceRd B m w v) (hl : IntsR F w (.slice lp locals.length lc) locals) (ht : IntsR F w (.slice pt x.types.length ct) x.types) (hp : plainK x = true) (hT : TyB m) : Calls G.P 36 #[v, .slice lp locals.length lc, .agg #[Value.int .i64 x.op, Value.int .i64 x.a, Value.int .i64 x.b, Value.int .u64 x.n, Value.int .i64 x.kind, Value.int .i64 x.val, Value.int .i64 x.index, Value.slice pt x.types.length ct, Value.slice pl x.labels.length cl]] w (WPost (typedK m locals x) (fun _ => False) w) := by
  unfold typedK
  dsimp only
  split
  · exact rule_typed_4 B F m locals v x lp pt pl lc ct cl w h0 h hl ht hp hT (by assumption)
  split
  · exact rule_typed_5 B F m locals v x lp pt pl lc ct cl w h0 h hl ht hp hT (by assumption)
  split
  · exact rule_typed_6 B F m locals v x lp pt pl lc ct cl w h0 h hl ht hp hT (by assumption)
  split
  · exact rule_typed_7 B F m locals v x lp pt pl lc ct cl w h0 h hl ht hp hT (by assumption)
  split
  · exact rule_typed_8 B F m locals v x lp pt pl lc ct cl w h0 h hl ht hp hT (by assumption)
  split
  · exact rule_typed_9 B F m locals v x lp pt pl lc ct cl w h0 h hl ht hp hT (by assumption)
  split
  · exact rule_typed_20 B F m locals v x lp pt pl lc ct cl w h0 h hl ht hp hT (by assumption)
  exact rule_typed_o B F m locals v x lp pt pl lc ct cl w h0 h hl ht ⟨by assumption, by assumption, by assumption, by assumption, by assumption, by assumption, by assumption⟩
/-- what rule.Wants answers -/
def wantsP (m : ApiModule) (locals : List Int) (x : Ins) : ApiFunc × Int := if plainK x = false then (noF, 10) else if apartK x.op = true then (noF, 1) else typedK m locals x
set_option maxHeartbeats 4000000 in
theorem rule_Wants (B : Nat) (F : Nat → Prop) (m : ApiModule) (locals : List Int) (v : Value) (x : Ins) (lp pt pl : Option Addr) (lc ct cl : Nat) (w : World) (h0 : Env0 w) (h : SpaceRd B m w v) (hl : IntsR F w (.slice lp locals.length lc) locals) (ht : IntsR F w (.slice pt x.types.length ct) x.types) (hl2 : IntsR F w (.slice pl x.labels.length cl) x.labels) (hT : TyB m) : Calls G.P 11 #[v, .slice lp locals.length lc, .agg #[Value.int .i64 x.op, Value.int .i64 x.a, Value.int .i64 x.b, Value.int .u64 x.n, Value.int .i64 x.kind, Value.int .i64 x.val, Value.int .i64 x.index, Value.slice pt x.types.length ct, Value.slice pl x.labels.length cl]] w (WPost (wantsP m locals x) (fun _ => False) w) := by
  have hno : ∀ w', Ext w w' → Calls G.P 35 #[v, .agg #[Value.int .i64 x.op, Value.int .i64 x.a, Value.int .i64 x.b, Value.int .u64 x.n, Value.int .i64 x.kind, Value.int .i64 x.val, Value.int .i64 x.index, Value.slice pt x.types.length ct, Value.slice pl x.labels.length cl]] w' fun e w2 => e = .returned (.int .i64 (if plainK x = false then 10 else 0)) ∧ Ext w' w2 := fun w' hx => rule_none B m v x pt pl ct cl w' (h.chg hx (fun _ _ h => h)) fun w2 hx2 => opcode_Plain F x pt pl ct cl w2 (h0.ext (hx.trans hx2)) (ht.chg (hx.trans hx2) (fun _ _ _ h => h)) (hl2.chg (hx.trans hx2) (fun _ _ _ h => h))
  unfold wantsP
  cases hp : plainK x with
  | false =>
    rw [hp] at hno
    rw [if_pos rfl]
    refine enterH (l := [_, _, _]) Tryz.func11 rfl Tryz.ntmps11 rfl (Ok.start w) ?_
    repeat' (first | refine wau ?_ | (refine OpsH.isBox ?_; refine OpsH.box _ rfl rfl rfl fun b_ => ?_) | (refine OpsH.isAlloc (t := TFn) ?_; refine OpsH.alloc (t := TFn) [Value.slice none 0 0, Value.slice none 0 0] rfl rfl rfl fun b_ => ?_) | (refine OpsH.isCall (f := 35) ?_; refine OpsH.call1 rfl rfl rfl (fun w' hw' => hno w' hw'.at) ?_) | (refine wspl ?_ ?_ <;> intro hc_))
    all_goals first | omega | exact FinH.ret2c (.inl rfl) rfl rfl rfl rfl rfl wup rfl rfl fun w' hw' => ⟨⟨(_, _), rfl, by first | exact IntsR.nil0 _ _ | exact blk_ints _ hw' wmem (hD := fun _ h => .inr h), by first | exact IntsR.nil0 _ _ | exact blk_ints _ hw' wmem (hD := fun _ h => .inr h)⟩, hw'.at⟩
  | true =>
    rw [hp] at hno
    rw [if_neg (by decide)]
    have hty : ∀ w', Ext w w' → Calls G.P 36 #[v, .slice lp locals.length lc, .agg #[Value.int .i64 x.op, Value.int .i64 x.a, Value.int .i64 x.b, Value.int .u64 x.n, Value.int .i64 x.kind, Value.int .i64 x.val, Value.int .i64 x.index, Value.slice pt x.types.length ct, Value.slice pl x.labels.length cl]] w' (WPost (typedK m locals x) (fun _ => False) w') := fun w' hx => rule_typed B F m locals v x lp pt pl lc ct cl w' (h0.ext hx) (h.chg hx (fun _ _ h => h)) (hl.chg hx (fun _ _ _ h => h)) (ht.chg hx (fun _ _ _ h => h)) hp hT
    cases ha : apartK x.op with
    | true =>
      rw [if_pos rfl]
      have hop : x.op = 2 ∨ x.op = 3 ∨ x.op = 4 ∨ x.op = 5 ∨ x.op = 11 ∨ x.op = 0 ∨ x.op = 12 ∨ x.op = 13 ∨ x.op = 14 ∨ x.op = 15 ∨ x.op = 26 ∨ x.op = 27 ∨ x.op = 209 := by simpa [apartK, or_assoc] using ha
      refine enterH (l := [_, _, _]) Tryz.func11 rfl Tryz.ntmps11 rfl (Ok.start w) ?_
      repeat' (first | refine wau ?_ | (refine OpsH.isBox ?_; refine OpsH.box _ rfl rfl rfl fun b_ => ?_) | (refine OpsH.isAlloc (t := TFn) ?_; refine OpsH.alloc (t := TFn) [Value.slice none 0 0, Value.slice none 0 0] rfl rfl rfl fun b_ => ?_) | (refine OpsH.isCall (f := 35) ?_; refine OpsH.call1 rfl rfl rfl (fun w' hw' => hno w' hw'.at) ?_) | (refine wspl ?_ ?_ <;> intro hc_))
      all_goals first | omega | exact FinH.ret2c (.inl rfl) rfl rfl rfl rfl rfl wup rfl rfl fun w' hw' => ⟨⟨(_, _), rfl, by first | exact IntsR.nil0 _ _ | exact blk_ints _ hw' wmem (hD := fun _ h => .inr h), by first | exact IntsR.nil0 _ _ | exact blk_ints _ hw' wmem (hD := fun _ h => .inr h)⟩, hw'.at⟩
    | false =>
      rw [if_neg (by decide)]
      have hop : x.op ≠ 2 ∧ x.op ≠ 3 ∧ x.op ≠ 4 ∧ x.op ≠ 5 ∧ x.op ≠ 11 ∧ x.op ≠ 0 ∧ x.op ≠ 12 ∧ x.op ≠ 13 ∧ x.op ≠ 14 ∧ x.op ≠ 15 ∧ x.op ≠ 26 ∧ x.op ≠ 27 ∧ x.op ≠ 209 := by simpa [apartK, and_assoc] using ha
      refine enterH (l := [_, _, _]) Tryz.func11 rfl Tryz.ntmps11 rfl (Ok.start w) ?_
      repeat' (first | refine wau ?_ | (refine OpsH.isBox ?_; refine OpsH.box _ rfl rfl rfl fun b_ => ?_) | (refine OpsH.isAlloc (t := TFn) ?_; refine OpsH.alloc (t := TFn) [Value.slice none 0 0, Value.slice none 0 0] rfl rfl rfl fun b_ => ?_) | (refine OpsH.isCall (f := 35) ?_; refine OpsH.call1 rfl rfl rfl (fun w' hw' => hno w' hw'.at) ?_) | (refine OpsH.isCall (f := 36) ?_; refine OpsH.he (HE.sgW0 (r := typedK m locals x) wmem rfl rfl (fun w' hw' => hty w' hw'.at)) rfl ?_; rintro ⟨D_, p_, c_, q_, d_⟩ hD_; dsimp only) | (refine wspl ?_ ?_ <;> intro hc_))
      all_goals (refine FinH.ret2c (.inl rfl) rfl rfl rfl rfl rfl wup rfl rfl ?_; exact fun w' hw' => Gives.ofS (f0 := (typedK m locals x).1) (tf := fun y : Value × Value => .tuple #[.agg #[y.1, y.2], .int .i64 (typedK m locals x).2]) ⟨D_, p_, c_, q_, d_⟩ hw' wmem wmem hD_)
end Go.Proofs.YtgbgnipidakdhaaGreatDoor
