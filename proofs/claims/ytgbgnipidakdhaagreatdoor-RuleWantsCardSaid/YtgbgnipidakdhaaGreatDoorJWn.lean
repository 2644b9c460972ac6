/- The reference of layer 23: the signatures of instructions. Printed by gen_wt.py. -/
import Derived.Test.YtgbgnipidakdhaaGreatDoorJLm
import Derived.Test.YtgbgnipidakdhaaGreatDoorJWs
import Derived.Test.YtgbgnipidakdhaaGreatDoorJGd
import Derived.Test.YtgbgnipidakdhaaGreatDoorJGi
import Derived.Test.YtgbgnipidakdhaaGreatDoorJWb
import Derived.Test.YtgbgnipidakdhaaGreatDoorJWc
namespace Go.Proofs.YtgbgnipidakdhaaGreatDoor
open Go.RowKit
set_option maxRecDepth 100000
set_option maxHeartbeats 4000000 in
theorem ref23_sig (op : Int) (w : World) : Calls G.P 104 #[.int .i64 op] w (RPost (sigW op) (fun _ => False) w) := by
  cases hs : sigO op with
  | none =>
    rw [show sigW op = (noF, 1) from by unfold sigW; rw [hs]]
    refine enterH (l := [_]) Tryz.func104 rfl Tryz.ntmps104 rfl (Ok.start w) ?_
    repeat' (first | refine wau ?_ | (refine qbxq fun b_ => ?_) | (refine qal1q fun b_ => ?_) | (refine qal2q fun b_ => ?_) | (refine qal5q fun b_ => ?_) | (refine qal4q fun b_ => ?_) | (refine qal3q fun b_ => ?_) | (refine qbsq fun b_ _ => ?_) | refine qk1q ?_ | (refine OpsH.isCall (f := 151) ?_; refine OpsH.he (HE.sgO0 (r := none) wmem rfl rfl (fun w' hw' => by have := ref05_Sig op w'; rw [hs] at this; exact this)) rfl ?_; rintro ⟨D_, p_, c_, q_, d_⟩ hD_; dsimp only) | (refine wspl ?_ ?_ <;> intro hc_))
    all_goals first | omega | exact FinH.ret1c (.inl rfl) rfl rfl rfl rfl rfl wup rfl fun w' hw' => ⟨⟨(_, _), rfl, qclq, qclq⟩, hw'.at⟩
  | some f =>
    rw [show sigW op = (f, 0) from by unfold sigW; rw [hs]]
    refine enterH (l := [_]) Tryz.func104 rfl Tryz.ntmps104 rfl (Ok.start w) ?_
    repeat' (first | refine wau ?_ | (refine qbxq fun b_ => ?_) | (refine qal1q fun b_ => ?_) | (refine qal2q fun b_ => ?_) | (refine qal5q fun b_ => ?_) | (refine qal4q fun b_ => ?_) | (refine qal3q fun b_ => ?_) | (refine qbsq fun b_ _ => ?_) | refine qk1q ?_ | (refine OpsH.isCall (f := 151) ?_; refine OpsH.he (HE.sgO0 (r := some f) wmem rfl rfl (fun w' hw' => by have := ref05_Sig op w'; rw [hs] at this; exact this)) rfl ?_; rintro ⟨D_, p_, c_, q_, d_⟩ hD_; dsimp only) | (refine wspl ?_ ?_ <;> intro hc_))
    all_goals (refine FinH.ret1c (.inl rfl) rfl rfl rfl rfl rfl wup rfl ?_; exact fun w' hw' => Gives.ofS (f0 := (some f).getD noF) (tf := fun x : Value × Value => .agg #[x.1, x.2, .int .i64 0]) ⟨D_, p_, c_, q_, d_⟩ hw' wmem wmem hD_)
set_option maxHeartbeats 4000000 in
theorem ref23_local (F : Nat → Prop) (locals : List Int) (x : Ins) (lp pt pl : Option Addr) (lc ct cl : Nat) (w : World) (hl : IntsR F w (.slice lp locals.length lc) locals) (ha : 0 ≤ x.a) : Calls G.P 97 #[.slice lp locals.length lc, .agg #[Value.int .i64 x.op, Value.int .i64 x.a, Value.int .i64 x.b, Value.int .u64 x.n, Value.int .i64 x.kind, Value.int .i64 x.val, Value.int .i64 x.index, Value.slice pt x.types.length ct, Value.slice pl x.labels.length cl]] w (RPost (localK locals x) (fun _ => False) w) := by
  obtain ⟨op, a, b, n, kind, val, index, types, labels⟩ := x
  dsimp only at ha ⊢
  obtain ⟨j, rfl⟩ := Int.eq_ofNat_of_zero_le ha
  by_cases hj : j < locals.length
  · obtain ⟨bk, o, rfl, hF, hc⟩ := hl.at hj
    have hcj := hc j hj
    by_cases h1 : op = 32
    · subst h1
      rw [show localK locals ⟨32, (j : Nat), b, n, kind, val, index, types, labels⟩ = (⟨[], [ix locals j]⟩, 0) from by unfold localK; dsimp only; rw [if_neg (by omega), if_pos rfl, Int.toNat_natCast]]
      refine enterH (l := [_, _]) Tryz.func97 rfl Tryz.ntmps97 rfl (Ok.start w) ?_
      repeat' (first | refine wau ?_ | (refine qbxq fun b_ => ?_) | (refine qal1q fun b_ => ?_) | (refine qal2q fun b_ => ?_) | (refine qal5q fun b_ => ?_) | (refine qal4q fun b_ => ?_) | (refine qal3q fun b_ => ?_) | (refine qbsq fun b_ _ => ?_) | refine qk1q ?_ | (refine wspl ?_ ?_ <;> intro hc_))
      all_goals first | omega | exact FinH.ret1c (.inl rfl) rfl rfl rfl rfl rfl wup rfl fun w' hw' => ⟨⟨(_, _), rfl, qclq, qclq⟩, hw'.at⟩
    · by_cases h2 : op = 33
      · subst h2
        rw [show localK locals ⟨33, (j : Nat), b, n, kind, val, index, types, labels⟩ = (⟨[ix locals j], []⟩, 0) from by unfold localK; dsimp only; rw [if_neg (by omega), if_neg h1, if_pos rfl, Int.toNat_natCast]]
        refine enterH (l := [_, _]) Tryz.func97 rfl Tryz.ntmps97 rfl (Ok.start w) ?_
        repeat' (first | refine wau ?_ | (refine qbxq fun b_ => ?_) | (refine qal1q fun b_ => ?_) | (refine qal2q fun b_ => ?_) | (refine qal5q fun b_ => ?_) | (refine qal4q fun b_ => ?_) | (refine qal3q fun b_ => ?_) | (refine qbsq fun b_ _ => ?_) | refine qk1q ?_ | (refine wspl ?_ ?_ <;> intro hc_))
        all_goals first | omega | exact FinH.ret1c (.inl rfl) rfl rfl rfl rfl rfl wup rfl fun w' hw' => ⟨⟨(_, _), rfl, qclq, qclq⟩, hw'.at⟩
      · rw [show localK locals ⟨op, (j : Nat), b, n, kind, val, index, types, labels⟩ = (⟨[ix locals j], [ix locals j]⟩, 0) from by unfold localK; dsimp only; rw [if_neg (by omega), if_neg h1, if_neg h2, Int.toNat_natCast]]
        refine enterH (l := [_, _]) Tryz.func97 rfl Tryz.ntmps97 rfl (Ok.start w) ?_
        repeat' (first | refine wau ?_ | (refine qbxq fun b_ => ?_) | (refine qal1q fun b_ => ?_) | (refine qal2q fun b_ => ?_) | (refine qal5q fun b_ => ?_) | (refine qal4q fun b_ => ?_) | (refine qal3q fun b_ => ?_) | (refine qbsq fun b_ _ => ?_) | refine qk1q ?_ | (refine wspl ?_ ?_ <;> intro hc_))
        all_goals first | omega | exact FinH.ret1c (.inl rfl) rfl rfl rfl rfl rfl wup rfl fun w' hw' => ⟨⟨(_, _), rfl, qclq, qclq⟩, hw'.at⟩
  · rw [show localK locals ⟨op, (j : Nat), b, n, kind, val, index, types, labels⟩ = (noF, 11) from if_pos (by dsimp only; omega)]
    refine enterH (l := [_, _]) Tryz.func97 rfl Tryz.ntmps97 rfl (Ok.start w) ?_
    repeat' (first | refine wau ?_ | (refine qbxq fun b_ => ?_) | (refine qal1q fun b_ => ?_) | (refine qal2q fun b_ => ?_) | (refine qal5q fun b_ => ?_) | (refine qal4q fun b_ => ?_) | (refine qal3q fun b_ => ?_) | (refine qbsq fun b_ _ => ?_) | refine qk1q ?_ | (refine wspl ?_ ?_ <;> intro hc_))
    all_goals first | omega | exact FinH.ret1c (.inl rfl) rfl rfl rfl rfl rfl wup rfl fun w' hw' => ⟨⟨(_, _), rfl, qclq, qclq⟩, hw'.at⟩
set_option maxHeartbeats 4000000 in
theorem ref23_global (F : Nat → Prop) (m : ApiModule) (cs : List Value) (x : Ins) (pt pl : Option Addr) (ct cl : Nat) (w : World) (hm : ApiModuleV F w cs m) (ha : 0 ≤ x.a) (hi : R64 x.a) (hb : 0 ≤ x.b) (hj : R64 x.b) : Calls G.P 98 #[.agg cs.toArray, .agg #[Value.int .i64 x.op, Value.int .i64 x.a, Value.int .i64 x.b, Value.int .u64 x.n, Value.int .i64 x.kind, Value.int .i64 x.val, Value.int .i64 x.index, Value.slice pt x.types.length ct, Value.slice pl x.labels.length cl]] w (RPost (globalK m x) (fun _ => False) w) := by
  have hm0 := hm
  obtain ⟨v0, v1, v2, v3, v4, v5, v6, v7, v8, v9, rfl, r0, r1, r2, r3, r4, r5, r6, r7, r8, r9, g0⟩ := hm
  obtain ⟨op, a, b, n, kind, val, index, types, labels⟩ := x
  dsimp only at ha hi ⊢
  cases hg : atK (globalsM m) a with
  | none =>
    rw [show globalK m ⟨op, a, b, n, kind, val, index, types, labels⟩ = (noF, 11) from by unfold globalK; dsimp only; rw [hg]]
    refine enterH (l := [_, _]) Tryz.func98 rfl Tryz.ntmps98 rfl (Ok.start w) ?_
    repeat' (first | refine wau ?_ | (refine qbxq fun b_ => ?_) | (refine qal1q fun b_ => ?_) | (refine qal2q fun b_ => ?_) | (refine qal5q fun b_ => ?_) | (refine qal4q fun b_ => ?_) | (refine qal3q fun b_ => ?_) | (refine qbsq fun b_ _ => ?_) | refine qk1q ?_ | (refine OpsH.isCall (f := 148) ?_; refine OpsH.call1 (v := .tuple #[.agg #[.int .i64 0, .bool false], .bool false]) rfl rfl rfl (fun w' hw' => by have := ref08_Global F m a _ w' (hm0.chg (show Ext w w' from hw'.at) (fun _ _ _ h => h)) ha hi; rw [hg] at this; exact this) ?_) | (refine wspl ?_ ?_ <;> intro hc_))
    all_goals first | omega | exact FinH.ret1c (.inl rfl) rfl rfl rfl rfl rfl wup rfl fun w' hw' => ⟨⟨(_, _), rfl, qclq, qclq⟩, hw'.at⟩
  | some g =>
    obtain ⟨gv, gm⟩ := g
    by_cases h1 : op = 35
    · subst h1
      rw [show globalK m ⟨35, a, b, n, kind, val, index, types, labels⟩ = (⟨[], [gv]⟩, 0) from by unfold globalK; dsimp only; rw [hg]; rfl]
      refine enterH (l := [_, _]) Tryz.func98 rfl Tryz.ntmps98 rfl (Ok.start w) ?_
      repeat' (first | refine wau ?_ | (refine qbxq fun b_ => ?_) | (refine qal1q fun b_ => ?_) | (refine qal2q fun b_ => ?_) | (refine qal5q fun b_ => ?_) | (refine qal4q fun b_ => ?_) | (refine qal3q fun b_ => ?_) | (refine qbsq fun b_ _ => ?_) | refine qk1q ?_ | (refine OpsH.isCall (f := 148) ?_; refine OpsH.call1 (v := .tuple #[.agg #[.int .i64 gv, .bool gm], .bool true]) rfl rfl rfl (fun w' hw' => by have := ref08_Global F m a _ w' (hm0.chg (show Ext w w' from hw'.at) (fun _ _ _ h => h)) ha hi; rw [hg] at this; exact this) ?_) | (refine wspl ?_ ?_ <;> intro hc_))
      all_goals first | omega | exact FinH.ret1c (.inl rfl) rfl rfl rfl rfl rfl wup rfl fun w' hw' => ⟨⟨(_, _), rfl, qclq, qclq⟩, hw'.at⟩
    · cases gm with
      | false =>
        rw [show globalK m ⟨op, a, b, n, kind, val, index, types, labels⟩ = (noF, 18) from by unfold globalK; dsimp only; rw [hg]; dsimp only; rw [if_neg h1, if_pos rfl]]
        refine enterH (l := [_, _]) Tryz.func98 rfl Tryz.ntmps98 rfl (Ok.start w) ?_
        repeat' (first | refine wau ?_ | (refine qbxq fun b_ => ?_) | (refine qal1q fun b_ => ?_) | (refine qal2q fun b_ => ?_) | (refine qal5q fun b_ => ?_) | (refine qal4q fun b_ => ?_) | (refine qal3q fun b_ => ?_) | (refine qbsq fun b_ _ => ?_) | refine qk1q ?_ | (refine OpsH.isCall (f := 148) ?_; refine OpsH.call1 (v := .tuple #[.agg #[.int .i64 gv, .bool false], .bool true]) rfl rfl rfl (fun w' hw' => by have := ref08_Global F m a _ w' (hm0.chg (show Ext w w' from hw'.at) (fun _ _ _ h => h)) ha hi; rw [hg] at this; exact this) ?_) | (refine wspl ?_ ?_ <;> intro hc_))
        all_goals first | omega | exact FinH.ret1c (.inl rfl) rfl rfl rfl rfl rfl wup rfl fun w' hw' => ⟨⟨(_, _), rfl, qclq, qclq⟩, hw'.at⟩
      | true =>
        rw [show globalK m ⟨op, a, b, n, kind, val, index, types, labels⟩ = (⟨[gv], []⟩, 0) from by unfold globalK; dsimp only; rw [hg]; dsimp only; rw [if_neg h1, if_neg (by decide)]]
        refine enterH (l := [_, _]) Tryz.func98 rfl Tryz.ntmps98 rfl (Ok.start w) ?_
        repeat' (first | refine wau ?_ | (refine qbxq fun b_ => ?_) | (refine qal1q fun b_ => ?_) | (refine qal2q fun b_ => ?_) | (refine qal5q fun b_ => ?_) | (refine qal4q fun b_ => ?_) | (refine qal3q fun b_ => ?_) | (refine qbsq fun b_ _ => ?_) | refine qk1q ?_ | (refine OpsH.isCall (f := 148) ?_; refine OpsH.call1 (v := .tuple #[.agg #[.int .i64 gv, .bool true], .bool true]) rfl rfl rfl (fun w' hw' => by have := ref08_Global F m a _ w' (hm0.chg (show Ext w w' from hw'.at) (fun _ _ _ h => h)) ha hi; rw [hg] at this; exact this) ?_) | (refine wspl ?_ ?_ <;> intro hc_))
        all_goals first | omega | exact FinH.ret1c (.inl rfl) rfl rfl rfl rfl rfl wup rfl fun w' hw' => ⟨⟨(_, _), rfl, qclq, qclq⟩, hw'.at⟩
def expB (i : Int) (x : ApiExport) : Bool := decide (x.kind = 0) && decide (x.index = i)
theorem any_take {α : Type} [Inhabited α] {l : List α} {f : α → Bool} {j : Nat} (hj : j < l.length) : (l.take (j + 1)).any f = ((l.take j).any f || f (ix l j)) := by rw [take_succ_ix hj, List.any_append]; simp
theorem any_sub {α : Type} {l : List α} {f : α → Bool} {j : Nat} (h : (l.take j).any f = true) : l.any f = true := by
  rw [List.any_eq_true] at h ⊢
  obtain ⟨x, hx, h⟩ := h
  exact ⟨x, List.mem_of_mem_take hx, h⟩
theorem declK_or (m : ApiModule) (i : Int) (h0 : 0 ≤ i) (h1 : i < (funcsM m).length) : declK m i = (m.exports.any (expB i) || m.globals.any (fun g => named g.init_ i) || m.elems.any (fun e => e.items.any fun l => named l i)) := by
  unfold declK d6 d4
  rw [decide_eq_true h0, decide_eq_true h1, List.take_length, List.take_length]
  unfold expB
  rw [Bool.eq_iff_iff]
  simp only [Bool.true_and, Bool.or_eq_true]
  constructor
  · rintro ((h | h) | h)
    · exact .inl (.inr h)
    · exact .inr h
    · exact .inl (.inl h)
  · rintro ((h | h) | h)
    · exact .inr h
    · exact .inl (.inl h)
    · exact .inl (.inr h)
theorem declK_no (m : ApiModule) (i : Int) (h : ¬ (0 ≤ i ∧ i < (funcsM m).length)) : declK m i = false := by
  unfold declK
  by_cases a : 0 ≤ i
  · rw [decide_eq_false (show ¬ i < ((funcsM m).length : Int) by omega)]; simp
  · rw [decide_eq_false a]; simp
set_option maxHeartbeats 16000000 in
theorem ref08_Declared (F : Nat → Prop) (m : ApiModule) (i : Int) (cs : List Value) (w : World) (hm : ApiModuleV F w cs m) : Calls G.P 146 #[.agg cs.toArray, .int .i64 i] w fun e w' => e = .returned (.bool (declK m i)) ∧ Ext w w' := by
  have hm0 := hm
  obtain ⟨v0, v1, v2, v3, v4, v5, v6, v7, v8, v9, rfl, r0, r1, r2, r3, r4, r5, r6, r7, r8, r9, g0⟩ := hm; obtain ⟨p0, c0, rfl, l0⟩ := r0.slice; obtain ⟨p1, c1, rfl, l1⟩ := r1.slice; obtain ⟨p2, c2, rfl, l2⟩ := r2.slice; obtain ⟨p3, c3, rfl, l3⟩ := r3.slice; obtain ⟨p4, c4, rfl, l4⟩ := r4.slice; obtain ⟨p5, c5, rfl, l5⟩ := r5.slice; obtain ⟨p6, c6, rfl, l6⟩ := r6.slice; obtain ⟨p7, c7, rfl, l7⟩ := r7.slice; obtain ⟨p8, c8, rfl, l8⟩ := r8.slice; obtain ⟨p9, c9, rfl, l9⟩ := r9.slice
  have hfn : ∀ w', Ext w w' → Calls G.P 172 #[.agg (([Value.slice p0 m.types.length c0, Value.slice p1 m.imports.length c1, Value.slice p2 m.funcs.length c2, Value.slice p3 m.tables.length c3, Value.slice p4 m.mems.length c4, Value.slice p5 m.globals.length c5, Value.slice p6 m.exports.length c6, Value.bool m.hasStart, Value.int .i64 m.start, Value.slice p7 m.elems.length c7, Value.slice p8 m.datas.length c8, Value.slice p9 m.customs.length c9] : List Value)).toArray] w' fun e w2 => e = .returned (.int .i64 (funcsM m).length) ∧ Ext w' w2 := fun w' hx => ref08_Funcs F m _ w' (hm0.chg hx (fun _ _ _ h => h))
  by_cases h0 : 0 ≤ i
  · by_cases h1 : i < (funcsM m).length
    · rw [declK_or m i h0 h1]
      refine enterH (l := [.agg (([Value.slice p0 m.types.length c0, Value.slice p1 m.imports.length c1, Value.slice p2 m.funcs.length c2, Value.slice p3 m.tables.length c3, Value.slice p4 m.mems.length c4, Value.slice p5 m.globals.length c5, Value.slice p6 m.exports.length c6, Value.bool m.hasStart, Value.int .i64 m.start, Value.slice p7 m.elems.length c7, Value.slice p8 m.datas.length c8, Value.slice p9 m.customs.length c9] : List Value)).toArray, _]) Tryz.func146 rfl Tryz.ntmps146 rfl (Ok.start w) ?_
      repeat' (first | refine wau ?_ | (refine wspl ?_ ?_ <;> intro hc_))
      refine OpsH.box ([Value.slice p0 m.types.length c0, Value.slice p1 m.imports.length c1, Value.slice p2 m.funcs.length c2, Value.slice p3 m.tables.length c3, Value.slice p4 m.mems.length c4, Value.slice p5 m.globals.length c5, Value.slice p6 m.exports.length c6, Value.bool m.hasStart, Value.int .i64 m.start, Value.slice p7 m.elems.length c7, Value.slice p8 m.datas.length c8, Value.slice p9 m.customs.length c9] : List Value) rfl rfl rfl fun b => ?_
      repeat' (first | refine wau ?_ | (refine wspl ?_ ?_ <;> intro hc_))
      refine OpsH.call1g rfl rfl rfl rfl (fun w' hw' => hfn w' hw'.at) ?_
      repeat' (first | refine wau ?_ | (refine wspl ?_ ?_ <;> intro hc_))
      refine CdH.loop (σ := Nat) (fun j => [(1, .int .i64 i), (2, .pointer (some ⟨b, 0, none⟩)), (5, .int .i64 j)]) (fun _ => [.blk b ([Value.slice p0 m.types.length c0, Value.slice p1 m.imports.length c1, Value.slice p2 m.funcs.length c2, Value.slice p3 m.tables.length c3, Value.slice p4 m.mems.length c4, Value.slice p5 m.globals.length c5, Value.slice p6 m.exports.length c6, Value.bool m.hasStart, Value.int .i64 m.start, Value.slice p7 m.elems.length c7, Value.slice p8 m.datas.length c8, Value.slice p9 m.customs.length c9] : List Value) TMod]) (fun _ => [Ext w]) (fun j => j ≤ m.exports.length ∧ (m.exports.take j).any (expB i) = false) (fun j => m.exports.length - j) 0 wsub wsl wsr ⟨by omega, by simp⟩ ?_
      rintro j ⟨hj, hno⟩
      by_cases hjl : j < m.exports.length
      · obtain ⟨b1, o1, rfl, hFb, he⟩ := r6.el hjl
        have k1 := he.kind
        have k2 := he.index
        have hst := any_take (f := expB i) hjl
        rw [hno, Bool.false_or] at hst
        by_cases g1 : (ix m.exports j).kind = 0
        · by_cases g2 : (ix m.exports j).index = i
          · repeat' (first | refine wau ?_ | (refine wspl ?_ ?_ <;> intro hc_))
            all_goals exact FinH.ret1 rfl rfl fun w' hw' => ⟨by rw [any_sub (l := m.exports) (j := j + 1) (by rw [hst]; simp [expB, g1, g2])]; rfl, hw'.at⟩
          · repeat' (first | refine wau ?_ | (refine wspl ?_ ?_ <;> intro hc_))
            all_goals exact FinH.next (j + 1) wsub wsl wsr ⟨by omega, by rw [hst]; simp [expB, g2]⟩ (by omega)
        · repeat' (first | refine wau ?_ | (refine wspl ?_ ?_ <;> intro hc_))
          all_goals exact FinH.next (j + 1) wsub wsl wsr ⟨by omega, by rw [hst]; simp [expB, g1]⟩ (by omega)
      · obtain rfl : j = m.exports.length := by omega
        rw [List.take_length] at hno
        rw [hno, Bool.false_or]
        repeat' (first | refine wau ?_ | (refine wspl ?_ ?_ <;> intro hc_))
        refine CdH.loop (σ := Nat) (fun j => [(1, .int .i64 i), (2, .pointer (some ⟨b, 0, none⟩)), (6, .int .i64 j)]) (fun _ => [.blk b ([Value.slice p0 m.types.length c0, Value.slice p1 m.imports.length c1, Value.slice p2 m.funcs.length c2, Value.slice p3 m.tables.length c3, Value.slice p4 m.mems.length c4, Value.slice p5 m.globals.length c5, Value.slice p6 m.exports.length c6, Value.bool m.hasStart, Value.int .i64 m.start, Value.slice p7 m.elems.length c7, Value.slice p8 m.datas.length c8, Value.slice p9 m.customs.length c9] : List Value) TMod]) (fun _ => [Ext w]) (fun j => j ≤ m.globals.length ∧ (m.globals.take j).any (fun g => named g.init_ i) = false) (fun j => m.globals.length - j) 0 wsub wsl wsr ⟨by omega, by simp⟩ ?_
        rintro j ⟨hj, hno2⟩
        by_cases hjl : j < m.globals.length
        · obtain ⟨b1, o1, rfl, hFb, he⟩ := r5.el hjl
          obtain ⟨u, hu, hb⟩ := he.init_
          have hst := any_take (f := fun g : ApiGlobalDef => named g.init_ i) hjl
          rw [hno2, Bool.false_or] at hst
          cases hn : named (ix m.globals j).init_ i with
          | true =>
            repeat' (first | refine wau ?_ | (refine OpsH.isCall (f := 173) ?_; refine OpsH.call1 (v := .bool true) rfl rfl rfl (fun w' hw' => by have := ref08_names F _ u i w' (hb.chg (show Ext w w' from hw'.at) (fun _ _ _ h => h)); rw [hn] at this; exact this) ?_) | (refine wspl ?_ ?_ <;> intro hc_))
            all_goals exact FinH.ret1 rfl rfl fun w' hw' => ⟨by rw [any_sub (l := m.globals) (j := j + 1) (by rw [hst, hn])]; rfl, hw'.at⟩
          | false =>
            repeat' (first | refine wau ?_ | (refine OpsH.isCall (f := 173) ?_; refine OpsH.call1 (v := .bool false) rfl rfl rfl (fun w' hw' => by have := ref08_names F _ u i w' (hb.chg (show Ext w w' from hw'.at) (fun _ _ _ h => h)); rw [hn] at this; exact this) ?_) | (refine wspl ?_ ?_ <;> intro hc_))
            all_goals exact FinH.next (j + 1) wsub wsl wsr ⟨by omega, by rw [hst, hn]⟩ (by omega)
        · obtain rfl : j = m.globals.length := by omega
          rw [List.take_length] at hno2
          rw [hno2, Bool.false_or]
          repeat' (first | refine wau ?_ | (refine wspl ?_ ?_ <;> intro hc_))
          refine CdH.loop (σ := Nat) (fun j => [(1, .int .i64 i), (2, .pointer (some ⟨b, 0, none⟩)), (7, .int .i64 j)]) (fun _ => [.blk b ([Value.slice p0 m.types.length c0, Value.slice p1 m.imports.length c1, Value.slice p2 m.funcs.length c2, Value.slice p3 m.tables.length c3, Value.slice p4 m.mems.length c4, Value.slice p5 m.globals.length c5, Value.slice p6 m.exports.length c6, Value.bool m.hasStart, Value.int .i64 m.start, Value.slice p7 m.elems.length c7, Value.slice p8 m.datas.length c8, Value.slice p9 m.customs.length c9] : List Value) TMod]) (fun _ => [Ext w]) (fun j => j ≤ m.elems.length ∧ (m.elems.take j).any (fun e => e.items.any fun l => named l i) = false) (fun j => m.elems.length - j) 0 wsub wsl wsr ⟨by omega, by simp⟩ ?_
          rintro j ⟨hj, hno3⟩
          by_cases hjl : j < m.elems.length
          · obtain ⟨b1, o1, rfl, hFb, he⟩ := r7.el hjl
            obtain ⟨u, hu, hb⟩ := he.items
            obtain ⟨x2, y2, rfl, z2⟩ := hb.slice
            have hst := any_take (f := fun e : ApiElem => e.items.any fun l => named l i) hjl
            rw [hno3, Bool.false_or] at hst
            repeat' (first | refine wau ?_ | (refine wspl ?_ ?_ <;> intro hc_))
            refine CdH.loop (σ := Nat) (fun k => [(1, .int .i64 i), (2, .pointer (some ⟨b, 0, none⟩)), (7, .int .i64 j), (8, .int .i64 k)]) (fun _ => [.blk b ([Value.slice p0 m.types.length c0, Value.slice p1 m.imports.length c1, Value.slice p2 m.funcs.length c2, Value.slice p3 m.tables.length c3, Value.slice p4 m.mems.length c4, Value.slice p5 m.globals.length c5, Value.slice p6 m.exports.length c6, Value.bool m.hasStart, Value.int .i64 m.start, Value.slice (some ⟨b1, o1, none⟩) m.elems.length c7, Value.slice p8 m.datas.length c8, Value.slice p9 m.customs.length c9] : List Value) TMod]) (fun _ => [Ext w]) (fun k => k ≤ (ix m.elems j).items.length ∧ ((ix m.elems j).items.take k).any (fun l => named l i) = false) (fun k => (ix m.elems j).items.length - k) 0 wsub wsl wsr ⟨by omega, by simp⟩ ?_
            rintro k ⟨hk, hno4⟩
            by_cases hkl : k < (ix m.elems j).items.length
            · obtain ⟨b2, o2, rfl, hF2, u2, k1, hb2⟩ := hb.el hkl
              rw [Nat.mul_one] at k1
              have hst2 := any_take (f := fun l : List Ins => named l i) hkl
              rw [hno4, Bool.false_or] at hst2
              cases hn : named (ix (ix m.elems j).items k) i with
              | true =>
                repeat' (first | refine wau ?_ | (refine OpsH.isCall (f := 173) ?_; refine OpsH.call1 (v := .bool true) rfl rfl rfl (fun w' hw' => by have := ref08_names F _ u2 i w' (hb2.chg (show Ext w w' from hw'.at) (fun _ _ _ h => h)); rw [hn] at this; exact this) ?_) | (refine wspl ?_ ?_ <;> intro hc_))
                all_goals exact FinH.ret1 rfl rfl fun w' hw' => ⟨by rw [any_sub (l := m.elems) (j := j + 1) (by rw [hst]; exact any_sub (j := k + 1) (by rw [hst2, hn]))], hw'.at⟩
              | false =>
                repeat' (first | refine wau ?_ | (refine OpsH.isCall (f := 173) ?_; refine OpsH.call1 (v := .bool false) rfl rfl rfl (fun w' hw' => by have := ref08_names F _ u2 i w' (hb2.chg (show Ext w w' from hw'.at) (fun _ _ _ h => h)); rw [hn] at this; exact this) ?_) | (refine wspl ?_ ?_ <;> intro hc_))
                all_goals exact FinH.next (k + 1) wsub wsl wsr ⟨by omega, by rw [hst2, hn]⟩ (by omega)
            · obtain rfl : k = (ix m.elems j).items.length := by omega
              rw [List.take_length] at hno4
              repeat' (first | refine wau ?_ | (refine wspl ?_ ?_ <;> intro hc_))
              all_goals exact FinH.next (j + 1) wsub wsl wsr ⟨by omega, by rw [hst, hno4]⟩ (by omega)
          · obtain rfl : j = m.elems.length := by omega
            rw [List.take_length] at hno3
            rw [hno3]
            repeat' (first | refine wau ?_ | (refine wspl ?_ ?_ <;> intro hc_))
            all_goals exact FinH.ret1 rfl rfl fun w' hw' => ⟨rfl, hw'.at⟩
    · rw [declK_no m i (by omega)]
      refine enterH (l := [.agg (([Value.slice p0 m.types.length c0, Value.slice p1 m.imports.length c1, Value.slice p2 m.funcs.length c2, Value.slice p3 m.tables.length c3, Value.slice p4 m.mems.length c4, Value.slice p5 m.globals.length c5, Value.slice p6 m.exports.length c6, Value.bool m.hasStart, Value.int .i64 m.start, Value.slice p7 m.elems.length c7, Value.slice p8 m.datas.length c8, Value.slice p9 m.customs.length c9] : List Value)).toArray, _]) Tryz.func146 rfl Tryz.ntmps146 rfl (Ok.start w) ?_
      repeat' (first | refine wau ?_ | (refine wspl ?_ ?_ <;> intro hc_))
      refine OpsH.box ([Value.slice p0 m.types.length c0, Value.slice p1 m.imports.length c1, Value.slice p2 m.funcs.length c2, Value.slice p3 m.tables.length c3, Value.slice p4 m.mems.length c4, Value.slice p5 m.globals.length c5, Value.slice p6 m.exports.length c6, Value.bool m.hasStart, Value.int .i64 m.start, Value.slice p7 m.elems.length c7, Value.slice p8 m.datas.length c8, Value.slice p9 m.customs.length c9] : List Value) rfl rfl rfl fun b => ?_
      repeat' (first | refine wau ?_ | (refine wspl ?_ ?_ <;> intro hc_))
      refine OpsH.call1g rfl rfl rfl rfl (fun w' hw' => hfn w' hw'.at) ?_
      repeat' (first | refine wau ?_ | (refine wspl ?_ ?_ <;> intro hc_))
      all_goals exact FinH.ret1 rfl rfl fun w' hw' => ⟨rfl, hw'.at⟩
  · rw [declK_no m i (by omega)]
    refine enterH (l := [.agg (([Value.slice p0 m.types.length c0, Value.slice p1 m.imports.length c1, Value.slice p2 m.funcs.length c2, Value.slice p3 m.tables.length c3, Value.slice p4 m.mems.length c4, Value.slice p5 m.globals.length c5, Value.slice p6 m.exports.length c6, Value.bool m.hasStart, Value.int .i64 m.start, Value.slice p7 m.elems.length c7, Value.slice p8 m.datas.length c8, Value.slice p9 m.customs.length c9] : List Value)).toArray, _]) Tryz.func146 rfl Tryz.ntmps146 rfl (Ok.start w) ?_
    repeat' (first | refine wau ?_ | (refine wspl ?_ ?_ <;> intro hc_))
    refine OpsH.box ([Value.slice p0 m.types.length c0, Value.slice p1 m.imports.length c1, Value.slice p2 m.funcs.length c2, Value.slice p3 m.tables.length c3, Value.slice p4 m.mems.length c4, Value.slice p5 m.globals.length c5, Value.slice p6 m.exports.length c6, Value.bool m.hasStart, Value.int .i64 m.start, Value.slice p7 m.elems.length c7, Value.slice p8 m.datas.length c8, Value.slice p9 m.customs.length c9] : List Value) rfl rfl rfl fun b => ?_
    repeat' (first | refine wau ?_ | (refine wspl ?_ ?_ <;> intro hc_))
    all_goals exact FinH.ret1 rfl rfl fun w' hw' => ⟨rfl, hw'.at⟩
end Go.Proofs.YtgbgnipidakdhaaGreatDoor
