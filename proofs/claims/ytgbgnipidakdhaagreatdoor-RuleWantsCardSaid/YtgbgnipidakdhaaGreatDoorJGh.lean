/- Layer 23: the small functions that give signatures. -/
import Derived.Test.YtgbgnipidakdhaaGreatDoorJGf
import Derived.Test.YtgbgnipidakdhaaGreatDoorJGq
namespace Go.Proofs.YtgbgnipidakdhaaGreatDoor
open Go.RowKit
set_option maxRecDepth 100000
theorem blk_ints {M : List Res} {R : List (World → Prop)} {w0 w : World} {b T n c : Nat} {cs : List Value} {D : Nat → Prop} (xs : List Int) (h : Ok M R w) (hR : Ext w0 ∈ R) (hD : ∀ k, w0.heap.size ≤ k → D k) (hm : Res.blk b cs T ∈ M := by repeat (first | with_reducible exact List.mem_cons_self | apply List.mem_cons_of_mem)) (hcs : cs = xs.map (Value.int .i64) := by rfl) (hn : n = xs.length := by rfl) (hl : xs.length ≤ 1000 := by simp) : IntsR D w (.slice (some ⟨b, 0, none⟩) n c) xs := by
  subst hcs hn
  have hb : Blk w b (xs.map (Value.int .i64)) T := (h.m _ hm).1
  refine ⟨_, c, rfl, by omega, .inr ⟨b, 0, rfl, hD b ?_, fun i hi => ?_⟩⟩
  · rcases Nat.lt_or_ge b w0.heap.size with hlt | hge
    · exact (h.origin (S := fun _ => False) hR b ⟨_, hm, rfl⟩ hlt).elim
    · exact hge
  · rw [Nat.zero_add]; exact hb.cell (by rw [List.getElem?_map, ix_some hi]; rfl)
theorem qclq {p : Prop} (h : p := by first | exact IntsR.nil0 _ _ | exact blk_ints _ hw' wmem (hD := fun _ h => .inr h)) : p := h
theorem rule_wrong (e0 : Int) (w : World) : Calls G.P 84 #[.int .i64 e0] w fun e w' => e = .returned (.tuple #[.agg #[.slice none 0 0, .slice none 0 0], .int .i64 e0]) ∧ Ext w w' := by
  refine enterH (l := [_]) Tryz.func84 rfl Tryz.ntmps84 rfl (Ok.start w) ?_
  repeat' (first | refine wau ?_ | (refine qal2q fun b_ => ?_) | (refine qal5q fun b_ => ?_) | (refine qal4q fun b_ => ?_) | (refine qal3q fun b_ => ?_) | (refine wspl ?_ ?_ <;> intro hc_))
  all_goals exact FinH.ret2c (.inl rfl) rfl rfl rfl rfl rfl wup rfl rfl fun w' hw' => ⟨by rfl, hw'.at⟩
theorem rule_of (p0 p1 : Option Addr) (n0 n1 c0 c1 : Nat) (w : World) : Calls G.P 79 #[.slice p0 n0 c0, .slice p1 n1 c1] w fun e w' => e = .returned (.tuple #[.agg #[.slice p0 n0 c0, .slice p1 n1 c1], .int .i64 0]) ∧ Ext w w' := by
  refine enterH (l := [_, _]) Tryz.func79 rfl Tryz.ntmps79 rfl (Ok.start w) ?_
  repeat' (first | refine wau ?_ | (refine qal2q fun b_ => ?_) | (refine qal5q fun b_ => ?_) | (refine qal4q fun b_ => ?_) | (refine qal3q fun b_ => ?_) | (refine wspl ?_ ?_ <;> intro hc_))
  all_goals exact FinH.ret2c (.inl rfl) rfl rfl rfl rfl rfl wup rfl rfl fun w' hw' => ⟨by rfl, hw'.at⟩
theorem qk2q {g g' : Prop} (h : g') (hw : Hold g' → g := by (intro hk_; (first | (refine OpsH.isCall (f := 84) ?_; refine OpsH.call1 rfl rfl rfl (fun w' hw' => rule_wrong _ w') ?_) | (refine OpsH.isCall (f := 79) ?_; refine OpsH.call1 rfl rfl rfl (fun w' hw' => rule_of _ _ _ _ _ _ w') ?_)); exact hk_.out)) : g := hw ⟨h⟩
def localK (locals : List Int) (x : Ins) : ApiFunc × Int := if (locals.length : Int) ≤ x.a then (noF, 11) else if x.op = 32 then (⟨[], [ix locals x.a.toNat]⟩, 0) else if x.op = 33 then (⟨[ix locals x.a.toNat], []⟩, 0) else (⟨[ix locals x.a.toNat], [ix locals x.a.toNat]⟩, 0)
def globalK (m : ApiModule) (x : Ins) : ApiFunc × Int := match atK (globalsM m) x.a with
  | none => (noF, 11)
  | some g => if x.op = 35 then (⟨[], [g.val_]⟩, 0) else if g.mut_ = false then (noF, 18) else (⟨[g.val_], []⟩, 0)
def tableK (m : ApiModule) (x : Ins) : ApiFunc × Int := match atK (tablesM m) x.a with
  | none => (noF, 11)
  | some t => if x.op = 37 then (⟨[1], [t.elem]⟩, 0) else if x.op = 38 then (⟨[1, t.elem], []⟩, 0) else if x.op = 64528 then (⟨[], [1]⟩, 0) else if x.op = 64527 then (⟨[t.elem, 1], [1]⟩, 0) else (⟨[1, t.elem, 1], []⟩, 0)
def WPost (r : ApiFunc × Int) (F : Nat → Prop) (w : World) : Ending → World → Prop := Gives (FnD r.1) (fun y : Value × Value => .tuple #[.agg #[y.1, y.2], .int .i64 r.2]) F w
set_option maxHeartbeats 4000000 in
theorem rule_local (F : Nat → Prop) (locals : List Int) (x : Ins) (lp pt pl : Option Addr) (lc ct cl : Nat) (w : World) (hl : IntsR F w (.slice lp locals.length lc) locals) (ha : 0 ≤ x.a) : Calls G.P 80 #[.slice lp locals.length lc, .agg #[Value.int .i64 x.op, Value.int .i64 x.a, Value.int .i64 x.b, Value.int .u64 x.n, Value.int .i64 x.kind, Value.int .i64 x.val, Value.int .i64 x.index, Value.slice pt x.types.length ct, Value.slice pl x.labels.length cl]] w (WPost (localK locals x) (fun _ => False) w) := by
  obtain ⟨op, a, b, n, kind, val, index, types, labels⟩ := x
  dsimp only at ha ⊢
  obtain ⟨j, rfl⟩ := Int.eq_ofNat_of_zero_le ha
  by_cases hj : j < locals.length
  · obtain ⟨bk, o, rfl, hF, hc⟩ := hl.at hj
    have hcj := hc j hj
    by_cases h1 : op = 32
    · subst h1
      rw [show localK locals ⟨32, (j : Nat), b, n, kind, val, index, types, labels⟩ = (⟨[], [ix locals j]⟩, 0) from by unfold localK; dsimp only; rw [if_neg (by omega), if_pos rfl, Int.toNat_natCast]]
      refine enterH (l := [_, _]) Tryz.func80 rfl Tryz.ntmps80 rfl (Ok.start w) ?_
      repeat' (first | refine wau ?_ | (refine qbxq fun b_ => ?_) | (refine qal2q fun b_ => ?_) | (refine qal5q fun b_ => ?_) | (refine qal4q fun b_ => ?_) | (refine qal3q fun b_ => ?_) | (refine qbsq fun b_ _ => ?_) | refine qk2q ?_ | (refine wspl ?_ ?_ <;> intro hc_))
      all_goals first | omega | exact FinH.ret2c (.inl rfl) rfl rfl rfl rfl rfl wup rfl rfl fun w' hw' => ⟨⟨(_, _), rfl, qclq, qclq⟩, hw'.at⟩
    · by_cases h2 : op = 33
      · subst h2
        rw [show localK locals ⟨33, (j : Nat), b, n, kind, val, index, types, labels⟩ = (⟨[ix locals j], []⟩, 0) from by unfold localK; dsimp only; rw [if_neg (by omega), if_neg h1, if_pos rfl, Int.toNat_natCast]]
        refine enterH (l := [_, _]) Tryz.func80 rfl Tryz.ntmps80 rfl (Ok.start w) ?_
        repeat' (first | refine wau ?_ | (refine qbxq fun b_ => ?_) | (refine qal2q fun b_ => ?_) | (refine qal5q fun b_ => ?_) | (refine qal4q fun b_ => ?_) | (refine qal3q fun b_ => ?_) | (refine qbsq fun b_ _ => ?_) | refine qk2q ?_ | (refine wspl ?_ ?_ <;> intro hc_))
        all_goals first | omega | exact FinH.ret2c (.inl rfl) rfl rfl rfl rfl rfl wup rfl rfl fun w' hw' => ⟨⟨(_, _), rfl, qclq, qclq⟩, hw'.at⟩
      · rw [show localK locals ⟨op, (j : Nat), b, n, kind, val, index, types, labels⟩ = (⟨[ix locals j], [ix locals j]⟩, 0) from by unfold localK; dsimp only; rw [if_neg (by omega), if_neg h1, if_neg h2, Int.toNat_natCast]]
        refine enterH (l := [_, _]) Tryz.func80 rfl Tryz.ntmps80 rfl (Ok.start w) ?_
        repeat' (first | refine wau ?_ | (refine qbxq fun b_ => ?_) | (refine qal2q fun b_ => ?_) | (refine qal5q fun b_ => ?_) | (refine qal4q fun b_ => ?_) | (refine qal3q fun b_ => ?_) | (refine qbsq fun b_ _ => ?_) | refine qk2q ?_ | (refine wspl ?_ ?_ <;> intro hc_))
        all_goals first | omega | exact FinH.ret2c (.inl rfl) rfl rfl rfl rfl rfl wup rfl rfl fun w' hw' => ⟨⟨(_, _), rfl, qclq, qclq⟩, hw'.at⟩
  · rw [show localK locals ⟨op, (j : Nat), b, n, kind, val, index, types, labels⟩ = (noF, 11) from if_pos (by dsimp only; omega)]
    refine enterH (l := [_, _]) Tryz.func80 rfl Tryz.ntmps80 rfl (Ok.start w) ?_
    repeat' (first | refine wau ?_ | (refine qbxq fun b_ => ?_) | (refine qal2q fun b_ => ?_) | (refine qal5q fun b_ => ?_) | (refine qal4q fun b_ => ?_) | (refine qal3q fun b_ => ?_) | (refine qbsq fun b_ _ => ?_) | refine qk2q ?_ | (refine wspl ?_ ?_ <;> intro hc_))
    all_goals first | omega | exact FinH.ret2c (.inl rfl) rfl rfl rfl rfl rfl wup rfl rfl fun w' hw' => ⟨⟨(_, _), rfl, qclq, qclq⟩, hw'.at⟩
set_option maxHeartbeats 4000000 in
theorem rule_global (B : Nat) (m : ApiModule) (v : Value) (x : Ins) (pt pl : Option Addr) (ct cl : Nat) (w : World) (h : SpaceRd B m w v) : Calls G.P 81 #[v, .agg #[Value.int .i64 x.op, Value.int .i64 x.a, Value.int .i64 x.b, Value.int .u64 x.n, Value.int .i64 x.kind, Value.int .i64 x.val, Value.int .i64 x.index, Value.slice pt x.types.length ct, Value.slice pl x.labels.length cl]] w (WPost (globalK m x) (fun _ => False) w) := by
  obtain ⟨op, a, b, n, kind, val, index, types, labels⟩ := x
  dsimp only
  cases hg : atK (globalsM m) a with
  | none =>
    rw [show globalK m ⟨op, a, b, n, kind, val, index, types, labels⟩ = (noF, 11) from by unfold globalK; dsimp only; rw [hg]]
    refine enterH (l := [_, _]) Tryz.func81 rfl Tryz.ntmps81 rfl (Ok.start w) ?_
    repeat' (first | refine wau ?_ | (refine qbxq fun b_ => ?_) | (refine qal2q fun b_ => ?_) | (refine qal5q fun b_ => ?_) | (refine qal4q fun b_ => ?_) | (refine qal3q fun b_ => ?_) | (refine qbsq fun b_ _ => ?_) | refine qk2q ?_ | (refine OpsH.isCall (f := 133) ?_; refine OpsH.call1 (v := .tuple #[.agg #[.int .i64 0, .bool false], .bool false]) rfl rfl rfl (fun w' hw' => by have := space_Global B m v a w' (h.chg (show Ext w w' from hw'.at) (fun _ _ h => h)); rw [hg] at this; exact this) ?_) | (refine wspl ?_ ?_ <;> intro hc_))
    all_goals first | omega | exact FinH.ret2c (.inl rfl) rfl rfl rfl rfl rfl wup rfl rfl fun w' hw' => ⟨⟨(_, _), rfl, qclq, qclq⟩, hw'.at⟩
  | some g =>
    obtain ⟨gv, gm⟩ := g
    by_cases h1 : op = 35
    · subst h1
      rw [show globalK m ⟨35, a, b, n, kind, val, index, types, labels⟩ = (⟨[], [gv]⟩, 0) from by unfold globalK; dsimp only; rw [hg]; rfl]
      refine enterH (l := [_, _]) Tryz.func81 rfl Tryz.ntmps81 rfl (Ok.start w) ?_
      repeat' (first | refine wau ?_ | (refine qbxq fun b_ => ?_) | (refine qal2q fun b_ => ?_) | (refine qal5q fun b_ => ?_) | (refine qal4q fun b_ => ?_) | (refine qal3q fun b_ => ?_) | (refine qbsq fun b_ _ => ?_) | refine qk2q ?_ | (refine OpsH.isCall (f := 133) ?_; refine OpsH.call1 (v := .tuple #[.agg #[.int .i64 gv, .bool gm], .bool true]) rfl rfl rfl (fun w' hw' => by have := space_Global B m v a w' (h.chg (show Ext w w' from hw'.at) (fun _ _ h => h)); rw [hg] at this; exact this) ?_) | (refine wspl ?_ ?_ <;> intro hc_))
      all_goals first | omega | exact FinH.ret2c (.inl rfl) rfl rfl rfl rfl rfl wup rfl rfl fun w' hw' => ⟨⟨(_, _), rfl, qclq, qclq⟩, hw'.at⟩
    · cases gm with
      | false =>
        rw [show globalK m ⟨op, a, b, n, kind, val, index, types, labels⟩ = (noF, 18) from by unfold globalK; dsimp only; rw [hg]; dsimp only; rw [if_neg h1, if_pos rfl]]
        refine enterH (l := [_, _]) Tryz.func81 rfl Tryz.ntmps81 rfl (Ok.start w) ?_
        repeat' (first | refine wau ?_ | (refine qbxq fun b_ => ?_) | (refine qal2q fun b_ => ?_) | (refine qal5q fun b_ => ?_) | (refine qal4q fun b_ => ?_) | (refine qal3q fun b_ => ?_) | (refine qbsq fun b_ _ => ?_) | refine qk2q ?_ | (refine OpsH.isCall (f := 133) ?_; refine OpsH.call1 (v := .tuple #[.agg #[.int .i64 gv, .bool false], .bool true]) rfl rfl rfl (fun w' hw' => by have := space_Global B m v a w' (h.chg (show Ext w w' from hw'.at) (fun _ _ h => h)); rw [hg] at this; exact this) ?_) | (refine wspl ?_ ?_ <;> intro hc_))
        all_goals first | omega | exact FinH.ret2c (.inl rfl) rfl rfl rfl rfl rfl wup rfl rfl fun w' hw' => ⟨⟨(_, _), rfl, qclq, qclq⟩, hw'.at⟩
      | true =>
        rw [show globalK m ⟨op, a, b, n, kind, val, index, types, labels⟩ = (⟨[gv], []⟩, 0) from by unfold globalK; dsimp only; rw [hg]; dsimp only; rw [if_neg h1, if_neg (by decide)]]
        refine enterH (l := [_, _]) Tryz.func81 rfl Tryz.ntmps81 rfl (Ok.start w) ?_
        repeat' (first | refine wau ?_ | (refine qbxq fun b_ => ?_) | (refine qal2q fun b_ => ?_) | (refine qal5q fun b_ => ?_) | (refine qal4q fun b_ => ?_) | (refine qal3q fun b_ => ?_) | (refine qbsq fun b_ _ => ?_) | refine qk2q ?_ | (refine OpsH.isCall (f := 133) ?_; refine OpsH.call1 (v := .tuple #[.agg #[.int .i64 gv, .bool true], .bool true]) rfl rfl rfl (fun w' hw' => by have := space_Global B m v a w' (h.chg (show Ext w w' from hw'.at) (fun _ _ h => h)); rw [hg] at this; exact this) ?_) | (refine wspl ?_ ?_ <;> intro hc_))
        all_goals first | omega | exact FinH.ret2c (.inl rfl) rfl rfl rfl rfl rfl wup rfl rfl fun w' hw' => ⟨⟨(_, _), rfl, qclq, qclq⟩, hw'.at⟩
end Go.Proofs.YtgbgnipidakdhaaGreatDoor
