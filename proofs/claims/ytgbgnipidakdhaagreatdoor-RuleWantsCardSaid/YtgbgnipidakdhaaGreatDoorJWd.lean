/- Layer 23: call_indirect, the first errors. -/
import Derived.Test.YtgbgnipidakdhaaGreatDoorJWc
namespace Go.Proofs.YtgbgnipidakdhaaGreatDoor
open Go.RowKit
set_option maxRecDepth 100000
theorem blk_rd {M : List Res} {R : List (World → Prop)} {b T : Nat} {cs : List Value} (hM : Res.blk b cs T ∈ M) : ∀ w, Ok M R w → ∀ j u, cs[j]? = some u → w.cell? ⟨b, 0 + j, none⟩ = some u := fun w hw j u hj => by rw [Nat.zero_add]; exact Blk.cell (hw.m (.blk b cs T) hM).1 hj
def indirectK (m : ApiModule) (x : Ins) : ApiFunc × Int := match atK m.types x.a, atK (tablesM m) x.b with
  | some f, some t => if t.elem ≠ 3 then (noF, 12) else (⟨f.params ++ [1], f.results⟩, 0)
  | _, _ => (noF, 11)
theorem rule_none (B : Nat) (m : ApiModule) (v : Value) (x : Ins) (pt pl : Option Addr) (ct cl : Nat) (w : World) (h : SpaceRd B m w v) (hp : ∀ w', Ext w w' → Calls G.P 75 #[.agg #[Value.int .i64 x.op, Value.int .i64 x.a, Value.int .i64 x.b, Value.int .u64 x.n, Value.int .i64 x.kind, Value.int .i64 x.val, Value.int .i64 x.index, Value.slice pt x.types.length ct, Value.slice pl x.labels.length cl]] w' fun e w2 => e = .returned (.bool (plainK x)) ∧ Ext w' w2) : Calls G.P 35 #[v, .agg #[Value.int .i64 x.op, Value.int .i64 x.a, Value.int .i64 x.b, Value.int .u64 x.n, Value.int .i64 x.kind, Value.int .i64 x.val, Value.int .i64 x.index, Value.slice pt x.types.length ct, Value.slice pl x.labels.length cl]] w fun e w' => e = .returned (.int .i64 (if plainK x = false then 10 else 0)) ∧ Ext w w' := by
  cases hx : plainK x with
  | true =>
    rw [hx] at hp
    refine enterH (l := [_, _]) Tryz.func35 rfl Tryz.ntmps35 rfl (Ok.start w) ?_
    repeat' (first | refine wau ?_ | (refine qbxq fun b_ => ?_) | (refine qal2q fun b_ => ?_) | (refine qal5q fun b_ => ?_) | (refine qal4q fun b_ => ?_) | (refine qal3q fun b_ => ?_) | (refine OpsH.isCall (f := 43) ?_; refine OpsH.he (HE.sgO0 (r := some noF) wmem rfl rfl (fun w' hw' => space_Block B m v 0 0 0 w' (h.chg (show Ext w w' from hw'.at) (fun _ _ h => h)))) rfl ?_; rintro ⟨D_, p_, c_, q_, d_⟩ hD_; dsimp only) | (refine OpsH.isCall (f := 75) ?_; refine OpsH.call1 rfl rfl rfl (fun w' hw' => hp w' hw'.at) ?_) | (refine wspl ?_ ?_ <;> intro hc_))
    all_goals exact FinH.ret1 rfl rfl fun w' hw' => ⟨rfl, hw'.at⟩
  | false =>
    rw [hx] at hp
    refine enterH (l := [_, _]) Tryz.func35 rfl Tryz.ntmps35 rfl (Ok.start w) ?_
    repeat' (first | refine wau ?_ | (refine qbxq fun b_ => ?_) | (refine qal2q fun b_ => ?_) | (refine qal5q fun b_ => ?_) | (refine qal4q fun b_ => ?_) | (refine qal3q fun b_ => ?_) | (refine OpsH.isCall (f := 43) ?_; refine OpsH.he (HE.sgO0 (r := some noF) wmem rfl rfl (fun w' hw' => space_Block B m v 0 0 0 w' (h.chg (show Ext w w' from hw'.at) (fun _ _ h => h)))) rfl ?_; rintro ⟨D_, p_, c_, q_, d_⟩ hD_; dsimp only) | (refine OpsH.isCall (f := 75) ?_; refine OpsH.call1 rfl rfl rfl (fun w' hw' => hp w' hw'.at) ?_) | (refine wspl ?_ ?_ <;> intro hc_))
    all_goals exact FinH.ret1 rfl rfl fun w' hw' => ⟨rfl, hw'.at⟩
set_option maxHeartbeats 4000000 in
theorem rule_indirect (B : Nat) (m : ApiModule) (v : Value) (x : Ins) (pt pl : Option Addr) (ct cl : Nat) (w : World) (h : SpaceRd B m w v) (hL : ∀ f, atK m.types x.a = some f → f.params.length ≤ 17592186043904 ∧ f.results.length ≤ 17592186044416) : Calls G.P 78 #[v, .agg #[Value.int .i64 x.op, Value.int .i64 x.a, Value.int .i64 x.b, Value.int .u64 x.n, Value.int .i64 x.kind, Value.int .i64 x.val, Value.int .i64 x.index, Value.slice pt x.types.length ct, Value.slice pl x.labels.length cl]] w (WPost (indirectK m x) (fun _ => False) w) := by
  obtain ⟨op, a, b, n, kind, val, index, types, labels⟩ := x
  dsimp only at hL ⊢
  cases hf : atK m.types a with
  | none =>
    rw [show indirectK m ⟨op, a, b, n, kind, val, index, types, labels⟩ = (noF, 11) from by unfold indirectK; dsimp only; rw [hf]]
    refine enterH (l := [_, _]) Tryz.func78 rfl Tryz.ntmps78 rfl (Ok.start w) ?_
    repeat' (first | refine wau ?_ | (refine qbxq fun b_ => ?_) | (refine qal2q fun b_ => ?_) | (refine qal5q fun b_ => ?_) | (refine qal4q fun b_ => ?_) | (refine qal3q fun b_ => ?_) | (refine qbsq fun b_ _ => ?_) | refine qk2q ?_ | (refine OpsH.isCall (f := 106) ?_; refine OpsH.he (HE.sgO0 (r := none) wmem rfl rfl (fun w' hw' => by have := space_Type B m v a w' (h.chg (show Ext w w' from hw'.at) (fun _ _ h => h)); rw [hf] at this; exact this)) rfl ?_; rintro ⟨D_, p_, c_, q_, d_⟩ hD_; dsimp only) | (refine OpsH.isCall (f := 132) ?_; refine OpsH.call1 rfl rfl rfl (fun w' hw' => space_Table B m v b w' (h.chg (show Ext w w' from hw'.at) (fun _ _ h => h))) ?_) | (refine wspl ?_ ?_ <;> intro hc_))
    all_goals first | omega | exact FinH.ret2c (.inl rfl) rfl rfl rfl rfl rfl wup rfl rfl fun w' hw' => ⟨⟨(_, _), rfl, qclq, qclq⟩, hw'.at⟩
  | some f =>
    have hl := hL f hf
    cases hg : atK (tablesM m) b with
    | none =>
      rw [show indirectK m ⟨op, a, b, n, kind, val, index, types, labels⟩ = (noF, 11) from by unfold indirectK; dsimp only; rw [hf, hg]]
      refine enterH (l := [_, _]) Tryz.func78 rfl Tryz.ntmps78 rfl (Ok.start w) ?_
      repeat' (first | refine wau ?_ | (refine qbxq fun b_ => ?_) | (refine qal2q fun b_ => ?_) | (refine qal5q fun b_ => ?_) | (refine qal4q fun b_ => ?_) | (refine qal3q fun b_ => ?_) | (refine qbsq fun b_ _ => ?_) | refine qk2q ?_ | (refine OpsH.isCall (f := 106) ?_; refine OpsH.he (HE.sgO0 (r := some f) wmem rfl rfl (fun w' hw' => by have := space_Type B m v a w' (h.chg (show Ext w w' from hw'.at) (fun _ _ h => h)); rw [hf] at this; exact this)) rfl ?_; rintro ⟨D_, p_, c_, q_, d_⟩ hD_; dsimp only) | (refine OpsH.isCall (f := 132) ?_; refine OpsH.call1 (v := .tuple #[.agg #[.int .i64 0, .int .i64 0, .int .i64 0, .bool false], .bool false]) rfl rfl rfl (fun w' hw' => by have := space_Table B m v b w' (h.chg (show Ext w w' from hw'.at) (fun _ _ h => h)); rw [hg] at this; exact this) ?_) | (refine wspl ?_ ?_ <;> intro hc_))
      all_goals first | omega | exact FinH.ret2c (.inl rfl) rfl rfl rfl rfl rfl wup rfl rfl fun w' hw' => ⟨⟨(_, _), rfl, qclq, qclq⟩, hw'.at⟩
    | some g =>
      obtain ⟨te, l1, l2, l3⟩ := g
      by_cases h3 : te = 3
      · subst h3
        rw [show indirectK m ⟨op, a, b, n, kind, val, index, types, labels⟩ = (⟨f.params ++ [1], f.results⟩, 0) from by unfold indirectK; dsimp only; rw [hf, hg]; rfl]
        refine enterH (l := [_, _]) Tryz.func78 rfl Tryz.ntmps78 rfl (Ok.start w) ?_
        repeat' (first | refine wau ?_ | (refine qbxq fun b_ => ?_) | (refine qal2q fun b_ => ?_) | (refine qal5q fun b_ => ?_) | (refine qal4q fun b_ => ?_) | (refine qal3q fun b_ => ?_) | (refine OpsH.isCall (f := 132) ?_; refine OpsH.call1 (v := .tuple #[.agg #[.int .i64 3, .int .i64 l1, .int .i64 l2, .bool l3], .bool true]) rfl rfl rfl (fun w' hw' => by have := space_Table B m v b w' (h.chg (show Ext w w' from hw'.at) (fun _ _ h => h)); rw [hg] at this; exact this) ?_) | (refine wspl ?_ ?_ <;> intro hc_))
        refine OpsH.he (HE.callM (M0 := []) rfl rfl (fun w' hw' => by have := space_TypeM B w.heap.size m v a w' (h.chg (show Ext w w' from hw'.at) (fun _ _ h => h)) (show Ext w w' from hw'.at).size; rw [hf] at this; exact this)) rfl ?_
        rintro ⟨v1, v2⟩ _
        dsimp only [fnO, List.cons_append, List.nil_append, Option.getD_some]
        refine OpsH.pure (φ := (∃ p c, v1 = .slice p f.params.length c) ∧ ∃ p c, v2 = .slice p f.results.length c ∧ f.results.length ≤ 17592186044416) (fun w' hw' => ⟨?_, ?_⟩) ?_
        · obtain ⟨p, c, e, _⟩ := own_slice (hw'.own (v := v1)); exact ⟨p, c, e⟩
        · obtain ⟨p, c, e, _⟩ := own_slice (hw'.own (v := v2)); exact ⟨p, c, e, hl.2⟩
        rintro ⟨⟨q1, d1, rfl⟩, ⟨q2, d2, rfl, hl2⟩⟩
        repeat' (first | refine wau ?_ | (refine qal2q fun b_ => ?_) | (refine qal5q fun b_ => ?_) | (refine qal4q fun b_ => ?_) | (refine qal3q fun b_ => ?_) | (refine OpsH.isCall (f := 132) ?_; refine OpsH.call1 (v := .tuple #[.agg #[.int .i64 3, .int .i64 l1, .int .i64 l2, .bool l3], .bool true]) rfl rfl rfl (fun w' hw' => by have := space_Table B m v b w' (h.chg (show Ext w w' from hw'.at) (fun _ _ h => h)); rw [hg] at this; exact this) ?_) | (refine wspl ?_ ?_ <;> intro hc_))
        rename_i b6
        refine CdH.regionR [.blk b6 [.slice q1 f.params.length d1, .slice q2 f.results.length d2] TFn] [Ext w] wsl wsr ?_
        repeat' (first | refine wgt ?_ | (refine StepT.isBs ?_; refine StepT.he rfl rfl (HE.bsl rfl rfl rfl rfl rfl wcel (by rfl) (by rfl)) (fun _ => wsl) (fun _ => wsr) ?_; rintro b7 _) | (refine StepT.isAp ?_; refine StepT.he rfl rfl (HE.appRB [.int .i64 1] rfl rfl (fun _ => wup) (.inr ⟨_, 0, rfl, blk_rd wmm⟩) rfl rfl rfl rfl (by rfl) (by rfl) (by rfl) (fun u hu => by rw [List.mem_singleton.1 hu]; rfl) (by show (f.params.length + 1) * 8 ≤ _; omega) (by omega) (fun w' hw' => (show Ext w w' from hw'.at).size)) (fun _ => wsl) (fun _ => wsr) ?_; rintro v9 _; refine OpsT.pure (φ := ∃ p c, v9 = .slice p (f.params.length + 1) c) (fun w' hw' => by obtain ⟨p, c, e, _⟩ := own_slice (hw'.own (v := v9)); exact ⟨p, c, e⟩) ?_; rintro ⟨p9, c9, rfl⟩) | (refine StepT.isCl 79 ?_; refine StepT.he rfl rfl (HE.callV rfl rfl (fun w' hw' => rule_of p9 q2 (f.params.length + 1) f.results.length c9 d2 w')) (fun _ => wsl) (fun _ => wsr) ?_; rintro ⟨⟩ _) | (refine StepT.isSt ?_; refine StepT.he0 rfl (HE0.storeB _ rfl rfl rfl rfl rfl rfl wup rfl) (fun _ => wsl) (fun _ => wsr) ?_; rintro ⟨⟩ _) | refine OpsT.nil (by decide +kernel) ?_ | refine OpsT.any (by decide +kernel) ?_ | exact StepsT.fin rfl | refine StepsT.skip (by decide +kernel) ?_ | refine StepsT.go ?_ ?_)
        all_goals
          repeat' (first | refine wau ?_ | (refine wspl ?_ ?_ <;> intro hc_))
          refine FinH.ret2c (.inl rfl) rfl rfl rfl rfl rfl wup rfl rfl ?_
          intro w' hw'
          have g1 : IntsR (fun k => w.heap.size ≤ k) w' (.slice p9 (f.params.length + 1) c9) (f.params ++ [1]) := own_ints (xs := f.params ++ [1]) (by have := hw'.own (B := w.heap.size) (T := TVal) (s := 1) (v := .slice p9 (f.params.length + 1) c9); simpa using this) (by simp; omega)
          have g2 : IntsR (fun k => w.heap.size ≤ k) w' (.slice q2 f.results.length d2) f.results := own_ints (hw'.own (B := w.heap.size) (T := TVal) (s := 1) (v := .slice q2 f.results.length d2)) hl2
          exact ⟨⟨(_, _), rfl, g1.mono fun _ _ h => .inr h, g2.mono fun _ _ h => .inr h⟩, hw'.at⟩
      · rw [show indirectK m ⟨op, a, b, n, kind, val, index, types, labels⟩ = (noF, 12) from by unfold indirectK; dsimp only; rw [hf, hg]; dsimp only; rw [if_pos h3]]
        refine enterH (l := [_, _]) Tryz.func78 rfl Tryz.ntmps78 rfl (Ok.start w) ?_
        repeat' (first | refine wau ?_ | (refine qbxq fun b_ => ?_) | (refine qal2q fun b_ => ?_) | (refine qal5q fun b_ => ?_) | (refine qal4q fun b_ => ?_) | (refine qal3q fun b_ => ?_) | (refine qbsq fun b_ _ => ?_) | refine qk2q ?_ | (refine OpsH.isCall (f := 106) ?_; refine OpsH.he (HE.sgO0 (r := some f) wmem rfl rfl (fun w' hw' => by have := space_Type B m v a w' (h.chg (show Ext w w' from hw'.at) (fun _ _ h => h)); rw [hf] at this; exact this)) rfl ?_; rintro ⟨D_, p_, c_, q_, d_⟩ hD_; dsimp only) | (refine OpsH.isCall (f := 132) ?_; refine OpsH.call1 (v := .tuple #[.agg #[.int .i64 te, .int .i64 l1, .int .i64 l2, .bool l3], .bool true]) rfl rfl rfl (fun w' hw' => by have := space_Table B m v b w' (h.chg (show Ext w w' from hw'.at) (fun _ _ h => h)); rw [hg] at this; exact this) ?_) | (refine wspl ?_ ?_ <;> intro hc_))
        all_goals first | omega | exact FinH.ret2c (.inl rfl) rfl rfl rfl rfl rfl wup rfl rfl fun w' hw' => ⟨⟨(_, _), rfl, qclq, qclq⟩, hw'.at⟩
end Go.Proofs.YtgbgnipidakdhaaGreatDoor
