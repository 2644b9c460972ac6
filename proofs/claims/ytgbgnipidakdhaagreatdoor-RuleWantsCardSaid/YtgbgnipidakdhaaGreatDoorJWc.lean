/- Layers 8 and 23: block types; the type of an instruction on functions and tables. -/
import Derived.Test.YtgbgnipidakdhaaGreatDoorJWb
namespace Go.Proofs.YtgbgnipidakdhaaGreatDoor
open Go.RowKit
set_option maxRecDepth 100000
theorem qr9q {g g' : Prop} (h : g') (hw : Hold g' → g := by (intro hk_; (first | (refine OpsH.isBin ?_; refine OpsH.y_ (Yl.eqPN Tryz.underlying51 rfl rfl) rfl ?_) | (refine OpsH.isBin ?_; refine OpsH.yg (by rfl) (Yl.eqPN Tryz.underlying58 rfl rfl) rfl ?_)); exact hk_.out)) : g := hw ⟨h⟩
set_option maxHeartbeats 4000000 in
theorem space_Block (B0 : Nat) (m : ApiModule) (v : Value) (k t i : Int) (w : World) (h : SpaceRd B0 m w v) : Calls G.P 43 #[v, .agg #[.int .i64 k, .int .i64 t, .int .i64 i]] w (FGives (blockTy m k t i) (fun _ => False) w) := by
  have h0 := h
  obtain ⟨bS, sp, im, dm, vs, tc, ig, dg, rfl, -, h⟩ := h
  have c0 : w.cell? ⟨bS, 0, none⟩ = some (.pointer (some ⟨sp, 0, none⟩)) := h.s.cell rfl
  by_cases k0 : k = 0
  · subst k0
    rw [show blockTy m 0 t i = some noF from rfl]
    refine enterH (l := [_, _]) Tryz.func43 rfl Tryz.ntmps43 rfl (Ok.start w) ?_
    repeat' (first | refine wau ?_ | (refine qbxq fun b_ => ?_) | (refine qal2q fun b_ => ?_) | (refine qal5q fun b_ => ?_) | (refine qal4q fun b_ => ?_) | (refine qal3q fun b_ => ?_) | (refine qbsq fun b_ _ => ?_) | refine qk2q ?_ | refine qr9q ?_ | (refine wspl ?_ ?_ <;> intro hc_))
    all_goals first | omega | exact FinH.ret2c (.inl rfl) rfl rfl rfl rfl rfl wup rfl rfl fun w' hw' => ⟨⟨(_, _), rfl, qclq, qclq⟩, hw'.at⟩
  · by_cases k1 : k = 1
    · subst k1
      cases hv : valK t with
      | true =>
        rw [show blockTy m 1 t i = some ⟨[], [t]⟩ from by unfold blockTy; rw [if_neg (by omega), if_pos rfl, if_pos hv]]
        refine enterH (l := [_, _]) Tryz.func43 rfl Tryz.ntmps43 rfl (Ok.start w) ?_
        repeat' (first | refine wau ?_ | (refine qbxq fun b_ => ?_) | (refine qal2q fun b_ => ?_) | (refine qal5q fun b_ => ?_) | (refine qal4q fun b_ => ?_) | (refine qal3q fun b_ => ?_) | (refine qbsq fun b_ _ => ?_) | refine qk2q ?_ | refine qr9q ?_ | (refine OpsH.isCall (f := 105) ?_; refine OpsH.call1 (v := .bool true) rfl rfl rfl (fun w' hw' => by have := types_Val t w'; rw [hv] at this; exact this) ?_) | (refine wspl ?_ ?_ <;> intro hc_))
        all_goals first | omega | exact FinH.ret2c (.inl rfl) rfl rfl rfl rfl rfl wup rfl rfl fun w' hw' => ⟨⟨(_, _), rfl, qclq, qclq⟩, hw'.at⟩
      | false =>
        rw [show blockTy m 1 t i = none from by unfold blockTy; rw [if_neg (by omega), if_pos rfl, if_neg (by rw [hv]; decide)]]
        refine enterH (l := [_, _]) Tryz.func43 rfl Tryz.ntmps43 rfl (Ok.start w) ?_
        repeat' (first | refine wau ?_ | (refine qbxq fun b_ => ?_) | (refine qal2q fun b_ => ?_) | (refine qal5q fun b_ => ?_) | (refine qal4q fun b_ => ?_) | (refine qal3q fun b_ => ?_) | (refine qbsq fun b_ _ => ?_) | refine qk2q ?_ | refine qr9q ?_ | (refine OpsH.isCall (f := 105) ?_; refine OpsH.call1 (v := .bool false) rfl rfl rfl (fun w' hw' => by have := types_Val t w'; rw [hv] at this; exact this) ?_) | (refine wspl ?_ ?_ <;> intro hc_))
        all_goals first | omega | exact FinH.ret2c (.inl rfl) rfl rfl rfl rfl rfl wup rfl rfl fun w' hw' => ⟨⟨(_, _), rfl, qclq, qclq⟩, hw'.at⟩
    · by_cases k2 : k = 2
      · subst k2
        rw [show blockTy m 2 t i = atK m.types i from by unfold blockTy; rw [if_neg (by omega), if_neg (by omega), if_pos rfl]]
        refine enterH (l := [_, _]) Tryz.func43 rfl Tryz.ntmps43 rfl (Ok.start w) ?_
        repeat' (first | refine wau ?_ | (refine qbxq fun b_ => ?_) | (refine qal2q fun b_ => ?_) | (refine qal5q fun b_ => ?_) | (refine qal4q fun b_ => ?_) | (refine qal3q fun b_ => ?_) | (refine qbsq fun b_ _ => ?_) | refine qk2q ?_ | refine qr9q ?_ | (refine OpsH.isCall (f := 106) ?_; refine OpsH.he (HE.sgO0 wmem rfl rfl (fun w' hw' => space_Type B0 m _ i w' (h0.chg (show Ext w w' from hw'.at) (fun _ _ h => h)))) rfl ?_; rintro ⟨D_, p_, c_, q_, d_⟩ hD_; dsimp only) | (refine wspl ?_ ?_ <;> intro hc_))
        all_goals (refine FinH.ret2c (.inl rfl) rfl rfl rfl rfl rfl wup rfl rfl ?_; exact fun w' hw' => Gives.ofS (tf := fun x : Value × Value => .tuple #[.agg #[x.1, x.2], .bool (atK m.types i).isSome]) ⟨D_, p_, c_, q_, d_⟩ hw' wmem wmem hD_)
      · rw [show blockTy m k t i = none from by unfold blockTy; rw [if_neg k0, if_neg k1, if_neg k2]]
        refine enterH (l := [_, _]) Tryz.func43 rfl Tryz.ntmps43 rfl (Ok.start w) ?_
        repeat' (first | refine wau ?_ | (refine qbxq fun b_ => ?_) | (refine qal2q fun b_ => ?_) | (refine qal5q fun b_ => ?_) | (refine qal4q fun b_ => ?_) | (refine qal3q fun b_ => ?_) | (refine qbsq fun b_ _ => ?_) | refine qk2q ?_ | refine qr9q ?_ | (refine wspl ?_ ?_ <;> intro hc_))
        all_goals first | omega | exact FinH.ret2c (.inl rfl) rfl rfl rfl rfl rfl wup rfl rfl fun w' hw' => ⟨⟨(_, _), rfl, qclq, qclq⟩, hw'.at⟩
def functionK (m : ApiModule) (x : Ins) : ApiFunc × Int := match funcTy m x.a with
  | none => (noF, 11)
  | some f => if x.op = 16 then (f, 0) else if declK m x.a = true then (⟨[], [3]⟩, 0) else (noF, 22)
set_option maxHeartbeats 4000000 in
theorem rule_function (B : Nat) (m : ApiModule) (v : Value) (x : Ins) (pt pl : Option Addr) (ct cl : Nat) (w : World) (h : SpaceRd B m w v) (ha : R64 x.a) : Calls G.P 77 #[v, .agg #[Value.int .i64 x.op, Value.int .i64 x.a, Value.int .i64 x.b, Value.int .u64 x.n, Value.int .i64 x.kind, Value.int .i64 x.val, Value.int .i64 x.index, Value.slice pt x.types.length ct, Value.slice pl x.labels.length cl]] w (WPost (functionK m x) (fun _ => False) w) := by
  obtain ⟨op, a, b, n, kind, val, index, types, labels⟩ := x
  dsimp only at ha ⊢
  cases hf : funcTy m a with
  | none =>
    rw [show functionK m ⟨op, a, b, n, kind, val, index, types, labels⟩ = (noF, 11) from by unfold functionK; dsimp only; rw [hf]]
    refine enterH (l := [_, _]) Tryz.func77 rfl Tryz.ntmps77 rfl (Ok.start w) ?_
    repeat' (first | refine wau ?_ | (refine qbxq fun b_ => ?_) | (refine qal2q fun b_ => ?_) | (refine qal5q fun b_ => ?_) | (refine qal4q fun b_ => ?_) | (refine qal3q fun b_ => ?_) | (refine qbsq fun b_ _ => ?_) | refine qk2q ?_ | (refine OpsH.isCall (f := 130) ?_; refine OpsH.he (HE.sgO0 (r := none) wmem rfl rfl (fun w' hw' => by have := space_Func B m v a w' (h.chg (show Ext w w' from hw'.at) (fun _ _ h => h)); rw [hf] at this; exact this)) rfl ?_; rintro ⟨D_, p_, c_, q_, d_⟩ hD_; dsimp only) | (refine wspl ?_ ?_ <;> intro hc_))
    all_goals first | omega | exact FinH.ret2c (.inl rfl) rfl rfl rfl rfl rfl wup rfl rfl fun w' hw' => ⟨⟨(_, _), rfl, qclq, qclq⟩, hw'.at⟩
  | some f =>
    by_cases h1 : op = 16
    · subst h1
      rw [show functionK m ⟨16, a, b, n, kind, val, index, types, labels⟩ = (f, 0) from by unfold functionK; dsimp only; rw [hf]; rfl]
      refine enterH (l := [_, _]) Tryz.func77 rfl Tryz.ntmps77 rfl (Ok.start w) ?_
      repeat' (first | refine wau ?_ | (refine qbxq fun b_ => ?_) | (refine qal2q fun b_ => ?_) | (refine qal5q fun b_ => ?_) | (refine qal4q fun b_ => ?_) | (refine qal3q fun b_ => ?_) | (refine qbsq fun b_ _ => ?_) | refine qk2q ?_ | (refine OpsH.isCall (f := 130) ?_; refine OpsH.he (HE.sgO0 (r := some f) wmem rfl rfl (fun w' hw' => by have := space_Func B m v a w' (h.chg (show Ext w w' from hw'.at) (fun _ _ h => h)); rw [hf] at this; exact this)) rfl ?_; rintro ⟨D_, p_, c_, q_, d_⟩ hD_; dsimp only) | (refine wspl ?_ ?_ <;> intro hc_))
      all_goals (refine FinH.ret2c (.inl rfl) rfl rfl rfl rfl rfl wup rfl rfl ?_; exact fun w' hw' => Gives.ofS (f0 := (some f).getD noF) (tf := fun x : Value × Value => .tuple #[.agg #[x.1, x.2], .int .i64 0]) ⟨D_, p_, c_, q_, d_⟩ hw' wmem wmem hD_)
    · cases hd : declK m a with
      | true =>
        rw [show functionK m ⟨op, a, b, n, kind, val, index, types, labels⟩ = (⟨[], [3]⟩, 0) from by unfold functionK; dsimp only; rw [hf]; dsimp only; rw [if_neg h1, if_pos hd]]
        refine enterH (l := [_, _]) Tryz.func77 rfl Tryz.ntmps77 rfl (Ok.start w) ?_
        repeat' (first | refine wau ?_ | (refine qbxq fun b_ => ?_) | (refine qal2q fun b_ => ?_) | (refine qal5q fun b_ => ?_) | (refine qal4q fun b_ => ?_) | (refine qal3q fun b_ => ?_) | (refine qbsq fun b_ _ => ?_) | refine qk2q ?_ | (refine OpsH.isCall (f := 130) ?_; refine OpsH.he (HE.sgO0 (r := some f) wmem rfl rfl (fun w' hw' => by have := space_Func B m v a w' (h.chg (show Ext w w' from hw'.at) (fun _ _ h => h)); rw [hf] at this; exact this)) rfl ?_; rintro ⟨D_, p_, c_, q_, d_⟩ hD_; dsimp only) | (refine OpsH.isCall (f := 131) ?_; refine OpsH.call1 (v := .bool true) rfl rfl rfl (fun w' hw' => by have := space_Declared B m v a w' (h.chg (show Ext w w' from hw'.at) (fun _ _ h => h)) ha; rw [hd] at this; exact this) ?_) | (refine wspl ?_ ?_ <;> intro hc_))
        all_goals first | omega | exact FinH.ret2c (.inl rfl) rfl rfl rfl rfl rfl wup rfl rfl fun w' hw' => ⟨⟨(_, _), rfl, qclq, qclq⟩, hw'.at⟩
      | false =>
        rw [show functionK m ⟨op, a, b, n, kind, val, index, types, labels⟩ = (noF, 22) from by unfold functionK; dsimp only; rw [hf]; dsimp only; rw [if_neg h1, if_neg (by rw [hd]; decide)]]
        refine enterH (l := [_, _]) Tryz.func77 rfl Tryz.ntmps77 rfl (Ok.start w) ?_
        repeat' (first | refine wau ?_ | (refine qbxq fun b_ => ?_) | (refine qal2q fun b_ => ?_) | (refine qal5q fun b_ => ?_) | (refine qal4q fun b_ => ?_) | (refine qal3q fun b_ => ?_) | (refine qbsq fun b_ _ => ?_) | refine qk2q ?_ | (refine OpsH.isCall (f := 130) ?_; refine OpsH.he (HE.sgO0 (r := some f) wmem rfl rfl (fun w' hw' => by have := space_Func B m v a w' (h.chg (show Ext w w' from hw'.at) (fun _ _ h => h)); rw [hf] at this; exact this)) rfl ?_; rintro ⟨D_, p_, c_, q_, d_⟩ hD_; dsimp only) | (refine OpsH.isCall (f := 131) ?_; refine OpsH.call1 (v := .bool false) rfl rfl rfl (fun w' hw' => by have := space_Declared B m v a w' (h.chg (show Ext w w' from hw'.at) (fun _ _ h => h)) ha; rw [hd] at this; exact this) ?_) | (refine wspl ?_ ?_ <;> intro hc_))
        all_goals first | omega | exact FinH.ret2c (.inl rfl) rfl rfl rfl rfl rfl wup rfl rfl fun w' hw' => ⟨⟨(_, _), rfl, qclq, qclq⟩, hw'.at⟩
set_option maxHeartbeats 4000000 in
theorem rule_table1 (B : Nat) (m : ApiModule) (v : Value) (x : Ins) (pt pl : Option Addr) (ct cl : Nat) (w : World) (h : SpaceRd B m w v) (hop : x.op = 37 ∨ x.op = 38 ∨ x.op = 64528 ∨ x.op = 64527 ∨ x.op = 64529) : Calls G.P 82 #[v, .agg #[Value.int .i64 x.op, Value.int .i64 x.a, Value.int .i64 x.b, Value.int .u64 x.n, Value.int .i64 x.kind, Value.int .i64 x.val, Value.int .i64 x.index, Value.slice pt x.types.length ct, Value.slice pl x.labels.length cl]] w (WPost (tableK m x) (fun _ => False) w) := by
  obtain ⟨op, a, b, n, kind, val, index, types, labels⟩ := x
  dsimp only at hop ⊢
  cases hg : atK (tablesM m) a with
  | none =>
    rw [show tableK m ⟨op, a, b, n, kind, val, index, types, labels⟩ = (noF, 11) from by unfold tableK; dsimp only; rw [hg]]
    refine enterH (l := [_, _]) Tryz.func82 rfl Tryz.ntmps82 rfl (Ok.start w) ?_
    repeat' (first | refine wau ?_ | (refine qbxq fun b_ => ?_) | (refine qal2q fun b_ => ?_) | (refine qal5q fun b_ => ?_) | (refine qal4q fun b_ => ?_) | (refine qal3q fun b_ => ?_) | (refine qbsq fun b_ _ => ?_) | refine qk2q ?_ | (refine OpsH.isCall (f := 132) ?_; refine OpsH.call1 (v := .tuple #[.agg #[.int .i64 0, .int .i64 0, .int .i64 0, .bool false], .bool false]) rfl rfl rfl (fun w' hw' => by have := space_Table B m v a w' (h.chg (show Ext w w' from hw'.at) (fun _ _ h => h)); rw [hg] at this; exact this) ?_) | (refine wspl ?_ ?_ <;> intro hc_))
    all_goals first | omega | exact FinH.ret2c (.inl rfl) rfl rfl rfl rfl rfl wup rfl rfl fun w' hw' => ⟨⟨(_, _), rfl, qclq, qclq⟩, hw'.at⟩
  | some g =>
    obtain ⟨te, l1, l2, l3⟩ := g
    rcases hop with rfl | rfl | rfl | rfl | rfl
    all_goals
      first | rw [show tableK m ⟨37, a, b, n, kind, val, index, types, labels⟩ = (⟨[1], [te]⟩, 0) from by unfold tableK; dsimp only; rw [hg]; rfl] | rw [show tableK m ⟨38, a, b, n, kind, val, index, types, labels⟩ = (⟨[1, te], []⟩, 0) from by unfold tableK; dsimp only; rw [hg]; rfl] | rw [show tableK m ⟨64528, a, b, n, kind, val, index, types, labels⟩ = (⟨[], [1]⟩, 0) from by unfold tableK; dsimp only; rw [hg]; rfl] | rw [show tableK m ⟨64527, a, b, n, kind, val, index, types, labels⟩ = (⟨[te, 1], [1]⟩, 0) from by unfold tableK; dsimp only; rw [hg]; rfl] | rw [show tableK m ⟨64529, a, b, n, kind, val, index, types, labels⟩ = (⟨[1, te, 1], []⟩, 0) from by unfold tableK; dsimp only; rw [hg]; rfl]
      refine enterH (l := [_, _]) Tryz.func82 rfl Tryz.ntmps82 rfl (Ok.start w) ?_
      repeat' (first | refine wau ?_ | (refine qbxq fun b_ => ?_) | (refine qal2q fun b_ => ?_) | (refine qal5q fun b_ => ?_) | (refine qal4q fun b_ => ?_) | (refine qal3q fun b_ => ?_) | (refine qbsq fun b_ _ => ?_) | refine qk2q ?_ | (refine OpsH.isCall (f := 132) ?_; refine OpsH.call1 (v := .tuple #[.agg #[.int .i64 te, .int .i64 l1, .int .i64 l2, .bool l3], .bool true]) rfl rfl rfl (fun w' hw' => by have := space_Table B m v a w' (h.chg (show Ext w w' from hw'.at) (fun _ _ h => h)); rw [hg] at this; exact this) ?_) | (refine wspl ?_ ?_ <;> intro hc_))
      all_goals first | omega | exact FinH.ret2c (.inl rfl) rfl rfl rfl rfl rfl wup rfl rfl fun w' hw' => ⟨⟨(_, _), rfl, qclq, qclq⟩, hw'.at⟩
end Go.Proofs.YtgbgnipidakdhaaGreatDoor
