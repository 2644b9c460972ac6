/- Plain laws: the signature that rule.Wants tells is the specified one. -/
import Derived.Test.YtgbgnipidakdhaaGreatDoorJWj
import Derived.Test.YtgbgnipidakdhaaGreatDoorJWx
import Derived.Test.YtgbgnipidakdhaaGreatDoorJWy
import Derived.Test.YtgbgnipidakdhaaGreatDoorJWq
import Derived.Test.YtgbgnipidakdhaaGreatDoorJLm
import Derived.Test.YtgbgnipidakdhaaGreatDoorJNb
namespace Go.Proofs.YtgbgnipidakdhaaGreatDoor
set_option maxRecDepth 100000
theorem plain_known {x : Ins} (h : plainK x = true) : (find5 x.op).isSome = true := by
  cases hf : (find5 x.op).isSome with
  | true => rfl
  | false =>
    unfold plainK at h
    dsimp only at h
    rw [if_pos (.inl hf)] at h
    cases h
theorem typ_tab : (r05.all fun r => apartK r.1 || (!(decide (r.2.2 = 1) || decide (r.2.2 = 2) || decide (r.2.2 = 3)) && (decide (r.2.2 = 5) || decide (r.2.2 = 6) || decide (r.2.2 = 7) || decide (r.2.2 = 8) || decide (r.2.2 = 9) || decide (r.2.2 = 20) || decide (r.2.2 = 4) || (sigO r.1).isSome) && (!decide (r.2.2 = 4) || decide (r.1 = 16) || decide (r.1 = 210)))) = true := by decide +kernel
theorem typ_row {op : Int} (hk : (find5 op).isSome = true) (ha : apartK op = false) : ¬ (ofK op = 1 ∨ ofK op = 2 ∨ ofK op = 3) ∧ ((ofK op ≠ 5 ∧ ofK op ≠ 6 ∧ ofK op ≠ 7 ∧ ofK op ≠ 8 ∧ ofK op ≠ 9 ∧ ofK op ≠ 20 ∧ ofK op ≠ 4) → (sigO op).isSome = true) ∧ (ofK op = 4 → op = 16 ∨ op = 210) := by
  obtain ⟨r, hr⟩ := Option.isSome_iff_exists.1 hk
  have h1 := List.all_eq_true.1 typ_tab r (List.mem_of_find?_eq_some hr)
  have e : r.1 = op := by have := List.find?_some hr; simpa using this
  have e2 : ofK op = r.2.2 := by unfold ofK row5; rw [hr]; rfl
  rw [e, ha, ← e2] at h1
  generalize ofK op = k at *
  simp only [Bool.false_or, Bool.and_eq_true, Bool.or_eq_true, Bool.not_eq_true', Bool.or_eq_false_iff, decide_eq_true_eq, decide_eq_false_iff_not] at h1
  obtain ⟨⟨⟨⟨a1, a2⟩, a3⟩, h2⟩, h3⟩ := h1
  refine ⟨by omega, fun ⟨b1, b2, b3, b4, b5, b6, b7⟩ => ?_, fun h4 => ?_⟩
  · rcases h2 with ((((((h | h) | h) | h) | h) | h) | h) | h
    · exact absurd h b1
    · exact absurd h b2
    · exact absurd h b3
    · exact absurd h b4
    · exact absurd h b5
    · exact absurd h b6
    · exact absurd h b7
    · exact h
  · rcases h3 with (h | h) | h
    · exact absurd h4 h
    · exact .inl h
    · exact .inr h
theorem sigW_some {op : Int} (h : (sigO op).isSome = true) : sigW op = ((sigO op).getD noF, 0) := by
  unfold sigW
  cases hs : sigO op with
  | none => rw [hs] at h; cases h
  | some f => rfl
theorem typed_eq {m : ApiModule} {locals : List Int} {x : Ins} (hk : (find5 x.op).isSome = true) (ha : apartK x.op = false) : typedK m locals x = wantsK m locals x := by
  obtain ⟨h1, h2, h3⟩ := typ_row hk ha
  have hr := ofK_r x.op
  unfold typedK wantsK thingsK
  generalize ofK x.op = k at *
  dsimp only
  rw [if_neg h1]
  by_cases h4 : k = 4
  · rw [if_pos h4, if_pos h4]
    unfold functionK
    cases funcTy m x.a with
    | none => rfl
    | some f =>
      dsimp only
      rcases h3 h4 with h | h
      · rw [if_pos h, if_pos h]
      · have h16 : ¬ x.op = 16 := by omega
        rw [if_neg h16, if_neg h16, h]
        rfl
  rw [if_neg h4, if_neg h4]
  by_cases h5 : k = 5
  · rw [if_pos h5, if_pos h5]; rfl
  rw [if_neg h5, if_neg h5]
  by_cases h6 : k = 6
  · rw [if_pos h6, if_pos h6]
  rw [if_neg h6, if_neg h6]
  by_cases h7 : k = 7
  · rw [if_pos h7, if_pos h7]; rfl
  rw [if_neg h7, if_neg h7]
  by_cases h8 : k = 8
  · rw [if_pos h8, if_pos h8]; rfl
  rw [if_neg h8, if_neg h8]
  by_cases h9 : k = 9
  · rw [if_pos h9, if_pos h9]; rfl
  rw [if_neg h9, if_neg h9]
  have hs : k ≠ 20 → sigW x.op = ((sigO x.op).getD noF, 0) := fun h => sigW_some (h2 ⟨h5, h6, h7, h8, h9, h, h4⟩)
  have hk' : k = 0 ∨ k = 10 ∨ k = 11 ∨ k = 12 ∨ k = 13 ∨ k = 14 ∨ k = 15 ∨ k = 16 ∨ k = 17 ∨ k = 18 ∨ k = 19 ∨ k = 20 := by omega
  clear h1 h2 h3 h4 h5 h6 h7 h8 h9 hr ha hk
  unfold thingsT
  rcases hk' with rfl | rfl | rfl | rfl | rfl | rfl | rfl | rfl | rfl | rfl | rfl | rfl
  · simp [hs]
  · cases atK (tablesM m) x.a <;> cases atK (tablesM m) x.b <;> simp [hs]
    rename_i a b
    by_cases he : a.elem = b.elem <;> simp [he]
  · cases atK (elemsM m) x.a <;> cases atK (tablesM m) x.b <;> simp [hs]
    rename_i a b
    by_cases he : a = b.elem <;> simp [he]
  · cases atK (elemsM m) x.a <;> simp [hs]
  · cases atK (memsM m) x.b <;> simp [hs]
  · cases atK (memsM m) x.a <;> cases atK (memsM m) x.b <;> simp [hs]
  · by_cases hd : (m.datas.length : Int) ≤ x.a
    · have : ¬ x.a < (m.datas.length : Int) := by omega
      cases atK (memsM m) x.b <;> simp [hd, this]
    · have : x.a < (m.datas.length : Int) := by omega
      cases atK (memsM m) x.b <;> simp [hs, hd, this]
  · by_cases hd : (m.datas.length : Int) ≤ x.a
    · have : ¬ x.a < (m.datas.length : Int) := by omega
      simp [hd, this]
    · have : x.a < (m.datas.length : Int) := by omega
      simp [hs, hd, this]
  · by_cases hd : alignK x.op < x.a <;> cases atK (memsM m) x.b <;> simp [hs, hd]
  · simp [hs]
  · simp [hs]
  · simp
theorem wants_eq (m : ApiModule) (locals : List Int) (x : Ins) : wantsP m locals x = wantsT m locals x := by
  unfold wantsP wantsT
  cases hp : plainK x with
  | false => rw [if_pos rfl, if_pos rfl]
  | true =>
    rw [if_neg (show ¬ true = false by decide), if_neg (show ¬ true = false by decide)]
    cases ha : apartK x.op with
    | true => rw [if_pos rfl]; exact (apart_no m locals x ha (plain_known hp)).symm
    | false => rw [if_neg (show ¬ false = true by decide)]; exact typed_eq (plain_known hp) ha
open Go.RowKit
theorem ref23_wants (F : Nat → Prop) (m : ApiModule) (cs : List Value) (locals : List Int) (x : Ins) (lp pt pl : Option Addr) (lc ct cl : Nat) (w : World) (hm : ApiModuleV F w cs m) (hl : IntsR F w (.slice lp locals.length lc) locals) (ht : IntsR F w (.slice pt x.types.length ct) x.types) (hF : ∀ k, F k → k < w.heap.size) (hT : TyB m) (hp : plainK x = true) : Calls G.P 41 #[.agg cs.toArray, .slice lp locals.length lc, .agg #[Value.int .i64 x.op, Value.int .i64 x.a, Value.int .i64 x.b, Value.int .u64 x.n, Value.int .i64 x.kind, Value.int .i64 x.val, Value.int .i64 x.index, Value.slice pt x.types.length ct, Value.slice pl x.labels.length cl]] w (RPost (wantsK m locals x) F w) := by
  obtain ⟨hi, hj, ha, hb, h6⟩ := plain_a hp
  have hr := ofK_r x.op
  have hkk : ofK x.op = 0 ∨ ofK x.op = 1 ∨ ofK x.op = 2 ∨ ofK x.op = 3 ∨ ofK x.op = 4 ∨ ofK x.op = 5 ∨ ofK x.op = 6 ∨ ofK x.op = 7 ∨ ofK x.op = 8 ∨ ofK x.op = 9 ∨ ofK x.op = 10 ∨ ofK x.op = 11 ∨ ofK x.op = 12 ∨ ofK x.op = 13 ∨ ofK x.op = 14 ∨ ofK x.op = 15 ∨ ofK x.op = 16 ∨ ofK x.op = 17 ∨ ofK x.op = 18 ∨ ofK x.op = 19 ∨ ofK x.op = 20 := by omega
  rcases hkk with hk | hk | hk | hk | hk | hk | hk | hk | hk | hk | hk | hk | hk | hk | hk | hk | hk | hk | hk | hk | hk
  · rw [show wantsK m locals x = sigW x.op from by unfold wantsK; dsimp only; rw [hk]; rfl]
    exact ref23_wants_0 F m cs locals x lp pt pl lc ct cl w hm hl ht ha hi hb hj hF hT hk
  · rw [show wantsK m locals x = (noF, 1) from by unfold wantsK; dsimp only; rw [hk]; rfl]
    exact ref23_wants_1 F m cs locals x lp pt pl lc ct cl w hm hl ht ha hi hb hj hF hT hk
  · rw [show wantsK m locals x = (noF, 1) from by unfold wantsK; dsimp only; rw [hk]; rfl]
    exact ref23_wants_2 F m cs locals x lp pt pl lc ct cl w hm hl ht ha hi hb hj hF hT hk
  · rw [show wantsK m locals x = (noF, 1) from by unfold wantsK; dsimp only; rw [hk]; rfl]
    exact ref23_wants_3 F m cs locals x lp pt pl lc ct cl w hm hl ht ha hi hb hj hF hT hk
  · rw [show wantsK m locals x = callK m x from by unfold wantsK; dsimp only; rw [hk]; rfl]
    exact ref23_wants_4 F m cs locals x lp pt pl lc ct cl w hm hl ht ha hi hb hj hF hT hk
  · rw [show wantsK m locals x = indirectK m x from by unfold wantsK; dsimp only; rw [hk]; rfl]
    exact ref23_wants_5 F m cs locals x lp pt pl lc ct cl w hm hl ht ha hi hb hj hF hT hk
  · rw [show wantsK m locals x = (⟨[ix x.types 0, ix x.types 0, 1], [ix x.types 0]⟩, 0) from by unfold wantsK; dsimp only; rw [hk]; rfl]
    exact ref23_wants_6 F m cs locals x lp pt pl lc ct cl w hm hl ht ha hi hb hj hF hT hk (h6 hk)
  · rw [show wantsK m locals x = localK locals x from by unfold wantsK; dsimp only; rw [hk]; rfl]
    exact ref23_wants_7 F m cs locals x lp pt pl lc ct cl w hm hl ht ha hi hb hj hF hT hk
  · rw [show wantsK m locals x = globalK m x from by unfold wantsK; dsimp only; rw [hk]; rfl]
    exact ref23_wants_8 F m cs locals x lp pt pl lc ct cl w hm hl ht ha hi hb hj hF hT hk
  · rw [show wantsK m locals x = tableK m x from by unfold wantsK; dsimp only; rw [hk]; rfl]
    exact ref23_wants_9 F m cs locals x lp pt pl lc ct cl w hm hl ht ha hi hb hj hF hT hk
  · rw [show wantsK m locals x = twoK m x from by unfold wantsK twoK; dsimp only; rw [hk, if_pos (k10_op hk)]; cases atK (tablesM m) x.a <;> cases atK (tablesM m) x.b <;> rfl]
    exact ref23_wants_10 F m cs locals x lp pt pl lc ct cl w hm hl ht ha hi hb hj hF hT hk
  · rw [show wantsK m locals x = twoK m x from by unfold wantsK twoK; dsimp only; rw [hk, if_neg (show ¬ x.op = 64526 from fun h => by rw [h] at hk; exact absurd hk (by decide +kernel))]; cases atK (elemsM m) x.a <;> cases atK (tablesM m) x.b <;> rfl]
    exact ref23_wants_11 F m cs locals x lp pt pl lc ct cl w hm hl ht ha hi hb hj hF hT hk
  · rw [show wantsK m locals x = if (atK (elemsM m) x.a).isNone then (noF, 11) else sigW x.op from by unfold wantsK; dsimp only; rw [hk]; rfl]
    exact ref23_wants_12 F m cs locals x lp pt pl lc ct cl w hm hl ht ha hi hb hj hF hT hk
  · rw [show wantsK m locals x = memK m 13 x from by unfold wantsK; dsimp only; rw [hk]; rfl]
    exact ref23_wants_13 F m cs locals x lp pt pl lc ct cl w hm hl ht ha hi hb hj hF hT hk
  · rw [show wantsK m locals x = memK m 14 x from by unfold wantsK; dsimp only; rw [hk]; rfl]
    exact ref23_wants_14 F m cs locals x lp pt pl lc ct cl w hm hl ht ha hi hb hj hF hT hk
  · rw [show wantsK m locals x = memK m 15 x from by unfold wantsK; dsimp only; rw [hk]; rfl]
    exact ref23_wants_15 F m cs locals x lp pt pl lc ct cl w hm hl ht ha hi hb hj hF hT hk
  · rw [show wantsK m locals x = if (m.datas.length : Int) ≤ x.a then (noF, 11) else sigW x.op from by unfold wantsK; dsimp only; rw [hk]; rfl]
    exact ref23_wants_16 F m cs locals x lp pt pl lc ct cl w hm hl ht ha hi hb hj hF hT hk
  · rw [show wantsK m locals x = memK m 17 x from by unfold wantsK; dsimp only; rw [hk]; rfl]
    exact ref23_wants_17 F m cs locals x lp pt pl lc ct cl w hm hl ht ha hi hb hj hF hT hk
  · rw [show wantsK m locals x = sigW x.op from by unfold wantsK; dsimp only; rw [hk]; rfl]
    exact ref23_wants_18 F m cs locals x lp pt pl lc ct cl w hm hl ht ha hi hb hj hF hT hk
  · rw [show wantsK m locals x = sigW x.op from by unfold wantsK; dsimp only; rw [hk]; rfl]
    exact ref23_wants_19 F m cs locals x lp pt pl lc ct cl w hm hl ht ha hi hb hj hF hT hk
  · rw [show wantsK m locals x = (⟨[], [x.a]⟩, 0) from by unfold wantsK; dsimp only; rw [hk]; rfl]
    exact ref23_wants_20 F m cs locals x lp pt pl lc ct cl w hm hl ht ha hi hb hj hF hT hk
set_option maxHeartbeats 8000000 in
theorem ref23_Wants (F : Nat → Prop) (m : ApiModule) (cs : List Value) (locals : List Int) (x : Ins) (lp pt pl : Option Addr) (lc ct cl : Nat) (w : World) (hm : ApiModuleV F w cs m) (hl : IntsR F w (.slice lp locals.length lc) locals) (ht : IntsR F w (.slice pt x.types.length ct) x.types) (hF : ∀ k, F k → k < w.heap.size) (hT : TyB m) (hl2 : IntsR F w (.slice pl x.labels.length cl) x.labels) : Calls G.P 13 #[.agg cs.toArray, .slice lp locals.length lc, .agg #[Value.int .i64 x.op, Value.int .i64 x.a, Value.int .i64 x.b, Value.int .u64 x.n, Value.int .i64 x.kind, Value.int .i64 x.val, Value.int .i64 x.index, Value.slice pt x.types.length ct, Value.slice pl x.labels.length cl]] w (WPost (wantsT m locals x) F w) := by
  have hm0 := hm
  obtain ⟨v0, v1, v2, v3, v4, v5, v6, v7, v8, v9, rfl, r0, r1, r2, r3, r4, r5, r6, r7, r8, r9, g0⟩ := hm
  have hpl : ∀ w', Ext w w' → Calls G.P 40 #[.agg #[Value.int .i64 x.op, Value.int .i64 x.a, Value.int .i64 x.b, Value.int .u64 x.n, Value.int .i64 x.kind, Value.int .i64 x.val, Value.int .i64 x.index, Value.slice pt x.types.length ct, Value.slice pl x.labels.length cl]] w' fun e w2 => e = .returned (.bool (plainK x)) ∧ Ext w' w2 := fun w' hx => ref05_Plain F x pt pl ct cl w' (ht.chg hx (fun _ _ _ h => h)) (hl2.chg hx (fun _ _ _ h => h))
  unfold wantsT
  cases hp : plainK x with
  | false =>
    rw [hp] at hpl
    rw [if_pos rfl]
    refine enterH (l := [_, _, _]) Tryz.func13 rfl Tryz.ntmps13 rfl (Ok.start w) ?_
    repeat' (first | refine wau ?_ | (refine qbxq fun b_ => ?_) | (refine qal1q fun b_ => ?_) | (refine qal2q fun b_ => ?_) | (refine OpsH.isCall (f := 40) ?_; refine OpsH.call1 rfl rfl rfl (fun w' hw' => hpl w' hw'.at) ?_) | (refine wspl ?_ ?_ <;> intro hc_))
    all_goals first | omega | exact FinH.ret2c (.inl rfl) rfl rfl rfl rfl rfl wup rfl rfl fun w' hw' => ⟨⟨(_, _), rfl, qclq, qclq⟩, hw'.at⟩
  | true =>
    rw [hp] at hpl
    rw [if_neg (by decide)]
    have hwa := fun w' (hx : Ext w w') => ref23_wants F m _ locals x lp pt pl lc ct cl w' (hm0.chg hx (fun _ _ _ h => h)) (hl.chg hx (fun _ _ _ h => h)) (ht.chg hx (fun _ _ _ h => h)) (fun k hk => Nat.lt_of_lt_of_le (hF k hk) hx.size) hT hp
    obtain ⟨r, hr⟩ : ∃ r, wantsK m locals x = r := ⟨_, rfl⟩
    obtain ⟨f, e0⟩ := r
    rw [hr] at hwa ⊢
    by_cases he : e0 = 0
    · subst he
      refine enterH (l := [_, _, _]) Tryz.func13 rfl Tryz.ntmps13 rfl (Ok.start w) ?_
      repeat' (first | refine wau ?_ | (refine qbxq fun b_ => ?_) | (refine qal1q fun b_ => ?_) | (refine qal2q fun b_ => ?_) | (refine OpsH.isCall (f := 40) ?_; refine OpsH.call1 rfl rfl rfl (fun w' hw' => hpl w' hw'.at) ?_) | (refine OpsH.isCall (f := 41) ?_; refine OpsH.he (HE.rg (F := F) (r := (f, 0)) wmem hF rfl rfl (fun w' hw' => hwa w' hw'.at)) rfl ?_; rintro ⟨D_, p_, c_, q_, d_⟩ hD_; dsimp only) | (refine wspl ?_ ?_ <;> intro hc_))
      all_goals (refine FinH.ret2c (.inl rfl) rfl rfl rfl rfl rfl wup rfl rfl ?_; exact fun w' hw' => Gives.ofS (f0 := f) (tf := fun y : Value × Value => .tuple #[.agg #[y.1, y.2], .int .i64 0]) ⟨D_, p_, c_, q_, d_⟩ hw' wmem wmem hD_)
    · obtain rfl := wantsP_none (show wantsP m locals x = (f, e0) from by rw [wants_eq]; unfold wantsT; rw [hp, if_neg (by decide)]; exact hr) he
      refine enterH (l := [_, _, _]) Tryz.func13 rfl Tryz.ntmps13 rfl (Ok.start w) ?_
      repeat' (first | refine wau ?_ | (refine qbxq fun b_ => ?_) | (refine qal1q fun b_ => ?_) | (refine qal2q fun b_ => ?_) | (refine OpsH.isCall (f := 40) ?_; refine OpsH.call1 rfl rfl rfl (fun w' hw' => hpl w' hw'.at) ?_) | (refine OpsH.isCall (f := 41) ?_; refine OpsH.he (HE.rg (F := F) (r := (noF, e0)) wmem hF rfl rfl (fun w' hw' => hwa w' hw'.at)) rfl ?_; rintro ⟨D_, p_, c_, q_, d_⟩ hD_; dsimp only) | (refine wspl ?_ ?_ <;> intro hc_))
      obtain ⟨b8, rfl⟩ : ∃ y : Nat, y = b_ := ⟨_, rfl⟩
      refine CdH.regionR [.blk b8 [.slice p_ noF.params.length c_, .slice q_ noF.results.length d_, .int .i64 e0] 120] [Ext w] wsl wsr ?_
      repeat' (first | refine wgt ?_ | (refine StepT.isSt ?_; refine StepT.he0 rfl (HE0.storeB _ rfl rfl rfl rfl rfl rfl wup rfl) (fun _ => wsl) (fun _ => wsr) ?_; rintro ⟨⟩ _) | refine OpsT.nil (by decide +kernel) ?_ | refine OpsT.any (by decide +kernel) ?_ | exact StepsT.fin rfl | refine StepsT.skip (by decide +kernel) ?_ | refine StepsT.go ?_ ?_)
      all_goals repeat' (first | refine wau ?_ | (refine wspl ?_ ?_ <;> intro hc_))
      all_goals first | omega | exact FinH.ret2c (.inl rfl) rfl rfl rfl rfl rfl wup rfl rfl fun w' hw' => ⟨⟨(_, _), rfl, qclq, qclq⟩, hw'.at⟩
set_option maxHeartbeats 8000000 in
theorem law23_RuleWants (m : ApiModule) (cs : List Value) (locals : List Int) (lp : Option Addr) (lc : Nat) (x : Ins) (pt pl : Option Addr) (ct cl : Nat) (w : World) (hm : ApiModuleV (fun _ => True) w cs m) (hT : TyB m) (hl : IntsR (fun _ => True) w (.slice lp locals.length lc) locals) (hx : InV w x (.slice pt x.types.length ct) (.slice pl x.labels.length cl)) (h0 : Env0 w) : Calls G.P 3 #[.agg cs.toArray, .slice lp locals.length lc, .agg #[Value.int .i64 x.op, Value.int .i64 x.a, Value.int .i64 x.b, Value.int .u64 x.n, Value.int .i64 x.kind, Value.int .i64 x.val, Value.int .i64 x.index, Value.slice pt x.types.length ct, Value.slice pl x.labels.length cl]] w fun e w' => e = .returned (.bool true) ∧ Ext w w' := by
  have hm0 := hm
  have hmL : ApiModuleV (fun k => k < w.heap.size) w cs m := hm.mono fun k hk _ => hk
  have hlL : IntsR (fun k => k < w.heap.size) w (.slice lp locals.length lc) locals := hl.mono fun k hk _ => hk
  have htL : IntsR (fun k => k < w.heap.size) w (.slice pt x.types.length ct) x.types := hx.t.mono fun k hk _ => hk
  have hbL : IntsR (fun k => k < w.heap.size) w (.slice pl x.labels.length cl) x.labels := hx.l.mono fun k hk _ => hk
  obtain ⟨v0, v1, v2, v3, v4, v5, v6, v7, v8, v9, rfl, r0, r1, r2, r3, r4, r5, r6, r7, r8, r9, g0⟩ := hm; obtain ⟨p0, c0, rfl, l0⟩ := r0.slice; obtain ⟨p1, c1, rfl, l1⟩ := r1.slice; obtain ⟨p2, c2, rfl, l2⟩ := r2.slice; obtain ⟨p3, c3, rfl, l3⟩ := r3.slice; obtain ⟨p4, c4, rfl, l4⟩ := r4.slice; obtain ⟨p5, c5, rfl, l5⟩ := r5.slice; obtain ⟨p6, c6, rfl, l6⟩ := r6.slice; obtain ⟨p7, c7, rfl, l7⟩ := r7.slice; obtain ⟨p8, c8, rfl, l8⟩ := r8.slice; obtain ⟨p9, c9, rfl, l9⟩ := r9.slice
  obtain ⟨r, hr⟩ : ∃ r, wantsP m locals x = r := ⟨_, rfl⟩
  obtain ⟨f, e0⟩ := r
  have hr2 : wantsT m locals x = (f, e0) := by rw [← wants_eq]; exact hr
  refine enterH (l := [.agg (([Value.slice p0 m.types.length c0, Value.slice p1 m.imports.length c1, Value.slice p2 m.funcs.length c2, Value.slice p3 m.tables.length c3, Value.slice p4 m.mems.length c4, Value.slice p5 m.globals.length c5, Value.slice p6 m.exports.length c6, Value.bool m.hasStart, Value.int .i64 m.start, Value.slice p7 m.elems.length c7, Value.slice p8 m.datas.length c8, Value.slice p9 m.customs.length c9] : List Value)).toArray, _, _]) Tryz.func3 rfl Tryz.ntmps3 rfl (Ok.start w) ?_
  repeat' (first | refine wau ?_ | (refine wspl ?_ ?_ <;> intro hc_))
  refine OpsH.box ([Value.slice p0 m.types.length c0, Value.slice p1 m.imports.length c1, Value.slice p2 m.funcs.length c2, Value.slice p3 m.tables.length c3, Value.slice p4 m.mems.length c4, Value.slice p5 m.globals.length c5, Value.slice p6 m.exports.length c6, Value.bool m.hasStart, Value.int .i64 m.start, Value.slice p7 m.elems.length c7, Value.slice p8 m.datas.length c8, Value.slice p9 m.customs.length c9] : List Value) rfl rfl rfl fun b3 => ?_
  repeat' (first | refine wau ?_ | (refine qbxq fun b_ => ?_) | (refine wspl ?_ ?_ <;> intro hc_))
  obtain ⟨bx, rfl⟩ : ∃ y : Nat, y = b_ := ⟨_, rfl⟩
  repeat' (first | refine wau ?_ | (refine qbsq fun b_ _ => ?_) | (refine wspl ?_ ?_ <;> intro hc_))
  obtain ⟨bb, rfl⟩ : ∃ y : Nat, y = b_ := ⟨_, rfl⟩
  refine OpsH.he (HE.callB (P := FewP m locals.length [x]) rfl rfl (fun w' hw' => law23_few (fun _ => True) m locals [x] ([Value.slice p0 m.types.length c0, Value.slice p1 m.imports.length c1, Value.slice p2 m.funcs.length c2, Value.slice p3 m.tables.length c3, Value.slice p4 m.mems.length c4, Value.slice p5 m.globals.length c5, Value.slice p6 m.exports.length c6, Value.bool m.hasStart, Value.int .i64 m.start, Value.slice p7 m.elems.length c7, Value.slice p8 m.datas.length c8, Value.slice p9 m.customs.length c9] : List Value) lp lc (.slice (some ⟨bb, 0, none⟩) 1 1) w' (hm0.chg (show Ext w w' from hw'.at) (fun _ _ _ h => h)) (body_one (hw'.m (.blk bb [Value.int .i64 x.op, Value.int .i64 x.a, Value.int .i64 x.b, Value.int .u64 x.n, Value.int .i64 x.kind, Value.int .i64 x.val, Value.int .i64 x.index, Value.slice pt x.types.length ct, Value.slice pl x.labels.length cl] 42) wmm).1 (hx.ext hw'.at)))) rfl ?_
  intro fb hfb
  cases fb with
  | false =>
    repeat' (first | refine wau ?_ | (refine OpsH.isCall (f := 10) ?_; refine OpsH.call1 rfl rfl rfl (fun w' hw' => law23_alive w' (h0.ext hw'.at)) ?_) | (refine wspl ?_ ?_ <;> intro hc_))
    all_goals exact FinH.ret1 rfl rfl fun w' hw' => ⟨rfl, hw'.at⟩
  | true =>
    have hLQ := (hfb rfl).1
    repeat' (first | refine wau ?_ | (refine wspl ?_ ?_ <;> intro hc_))
    refine CdH.regionR [.blk bx [Value.int .i64 x.op, Value.int .i64 x.a, Value.int .i64 x.b, Value.int .u64 x.n, Value.int .i64 x.kind, Value.int .i64 x.val, Value.int .i64 x.index, Value.slice pt x.types.length ct, Value.slice pl x.labels.length cl] 42, .blk b3 ([Value.slice p0 m.types.length c0, Value.slice p1 m.imports.length c1, Value.slice p2 m.funcs.length c2, Value.slice p3 m.tables.length c3, Value.slice p4 m.mems.length c4, Value.slice p5 m.globals.length c5, Value.slice p6 m.exports.length c6, Value.bool m.hasStart, Value.int .i64 m.start, Value.slice p7 m.elems.length c7, Value.slice p8 m.datas.length c8, Value.slice p9 m.customs.length c9] : List Value) TMod] [Ext w] wsl wsr ?_
    repeat' (first | refine wgt ?_ | (refine StepT.isCl 12 ?_; refine StepT.he rfl rfl (HE.callSp (m := m) rfl rfl (fun w' hw' => space_Of (fun _ => True) m ([Value.slice p0 m.types.length c0, Value.slice p1 m.imports.length c1, Value.slice p2 m.funcs.length c2, Value.slice p3 m.tables.length c3, Value.slice p4 m.mems.length c4, Value.slice p5 m.globals.length c5, Value.slice p6 m.exports.length c6, Value.bool m.hasStart, Value.int .i64 m.start, Value.slice p7 m.elems.length c7, Value.slice p8 m.datas.length c8, Value.slice p9 m.customs.length c9] : List Value) w' (hm0.chg (show Ext w w' from hw'.at) (fun _ _ _ h => h)) hLQ)) (fun _ => wsl) (fun _ => wsr) ?_; rintro ⟨B, sv⟩ _) | (refine StepT.isCl 11 ?_; refine StepT.he rfl rfl (HE.sgW1 (r := (f, e0)) rfl rfl (fun w' hw' => by have := rule_Wants B (fun _ => True) m locals sv x lp pt pl lc ct cl w' (h0.ext hw'.at) (hw'.get (p := fun w => SpaceRd B m w sv) wmem) (hl.chg (show Ext w w' from hw'.at) (fun _ _ _ h => h)) (hx.ext hw'.at).t (hx.ext hw'.at).l hT; rw [hr] at this; exact this)) (fun _ => wsl) (fun _ => wsr) ?_; rintro ⟨D4, pa, ca, qa, da⟩ _; dsimp only) | (refine StepT.isAl TFn ?_; refine StepT.he rfl rfl (HE.alloc (t := TFn) [Value.slice none 0 0, Value.slice none 0 0] rfl rfl) (fun _ => wsl) (fun _ => wsr) ?_; intro b_ _) | (refine StepT.isSt ?_; refine StepT.he0 rfl (HE0.storeB _ rfl rfl rfl rfl rfl rfl wup rfl) (fun _ => wsl) (fun _ => wsr) ?_; rintro ⟨⟩ _) | refine OpsT.nil (by decide +kernel) ?_ | refine OpsT.any (by decide +kernel) ?_ | exact StepsT.fin rfl | refine StepsT.skip (by decide +kernel) ?_ | refine StepsT.go ?_ ?_)
    all_goals
      repeat' (first | refine wau ?_ | (refine qal2q fun b_ => ?_) | (refine OpsH.isCall (f := 13) ?_; refine OpsH.he (HE.sgW (F := fun k => k < w.heap.size) (r := (f, e0)) wmem (fun _ h => h) rfl rfl (fun w' hw' => by have := ref23_Wants (fun k => k < w.heap.size) m ([Value.slice p0 m.types.length c0, Value.slice p1 m.imports.length c1, Value.slice p2 m.funcs.length c2, Value.slice p3 m.tables.length c3, Value.slice p4 m.mems.length c4, Value.slice p5 m.globals.length c5, Value.slice p6 m.exports.length c6, Value.bool m.hasStart, Value.int .i64 m.start, Value.slice p7 m.elems.length c7, Value.slice p8 m.datas.length c8, Value.slice p9 m.customs.length c9] : List Value) locals x lp pt pl lc ct cl w' (hmL.chg (show Ext w w' from hw'.at) (fun _ _ _ h => h)) (hlL.chg (show Ext w w' from hw'.at) (fun _ _ _ h => h)) (htL.chg (show Ext w w' from hw'.at) (fun _ _ _ h => h)) (fun k hk => Nat.lt_of_lt_of_le hk (show Ext w w' from hw'.at).size) hT (hbL.chg (show Ext w w' from hw'.at) (fun _ _ _ h => h)); rw [hr2] at this; exact this)) rfl ?_; rintro ⟨D_, p_, c_, q_, d_⟩ hD_; dsimp only) | (refine OpsH.isCall (f := 14) ?_; refine OpsH.call1 (v := .bool true) rfl rfl rfl (fun w' hw' => by have := ref06_Same f f D4 D_ pa qa p_ q_ ca da c_ d_ w' (hw'.get (p := SgR f ⟨D4, pa, ca, qa, da⟩) wmem) (hw'.get (p := SgR f ⟨D_, p_, c_, q_, d_⟩) wmem); rw [decide_eq_true rfl, decide_eq_true rfl] at this; exact this) ?_) | (refine OpsH.isCallG (f := 10) ?_; refine OpsH.call1g wgd rfl rfl rfl (fun w' hw' => law23_alive w' (h0.ext hw'.at)) ?_) | (refine wspl ?_ ?_ <;> intro hc_))
      all_goals first | exact absurd rfl hc_ | exact FinH.ret1 rfl rfl fun w' hw' => ⟨rfl, hw'.at⟩
end Go.Proofs.YtgbgnipidakdhaaGreatDoor
