/- law08.Few and law23.few: what their being true tells. -/
import Derived.Test.YtgbgnipidakdhaaGreatDoorJAq
import Derived.Test.YtgbgnipidakdhaaGreatDoorJM4
namespace Go.Proofs.YtgbgnipidakdhaaGreatDoor
open Go.RowKit
set_option maxRecDepth 100000
set_option maxHeartbeats 8000000 in
theorem law08_Few (F : Nat → Prop) (m : ApiModule) (cs : List Value) (w : World) (hm : ApiModuleV F w cs m) : Calls G.P 33 #[.agg cs.toArray] w (BoolTells (LensQ m) w) := by
  obtain ⟨v0, v1, v2, v3, v4, v5, v6, v7, v8, v9, rfl, r0, r1, r2, r3, r4, r5, r6, r7, r8, r9, g0⟩ := hm; obtain ⟨p0, c0, rfl, l0⟩ := r0.slice; obtain ⟨p1, c1, rfl, l1⟩ := r1.slice; obtain ⟨p2, c2, rfl, l2⟩ := r2.slice; obtain ⟨p3, c3, rfl, l3⟩ := r3.slice; obtain ⟨p4, c4, rfl, l4⟩ := r4.slice; obtain ⟨p5, c5, rfl, l5⟩ := r5.slice; obtain ⟨p6, c6, rfl, l6⟩ := r6.slice; obtain ⟨p7, c7, rfl, l7⟩ := r7.slice; obtain ⟨p8, c8, rfl, l8⟩ := r8.slice; obtain ⟨p9, c9, rfl, l9⟩ := r9.slice
  refine enterH (l := [.agg (([Value.slice p0 m.types.length c0, Value.slice p1 m.imports.length c1, Value.slice p2 m.funcs.length c2, Value.slice p3 m.tables.length c3, Value.slice p4 m.mems.length c4, Value.slice p5 m.globals.length c5, Value.slice p6 m.exports.length c6, Value.bool m.hasStart, Value.int .i64 m.start, Value.slice p7 m.elems.length c7, Value.slice p8 m.datas.length c8, Value.slice p9 m.customs.length c9] : List Value)).toArray]) Tryz.func33 rfl Tryz.ntmps33 rfl (Ok.start w) ?_
  refine wgh ?_
  refine OpsH.box ([Value.slice p0 m.types.length c0, Value.slice p1 m.imports.length c1, Value.slice p2 m.funcs.length c2, Value.slice p3 m.tables.length c3, Value.slice p4 m.mems.length c4, Value.slice p5 m.globals.length c5, Value.slice p6 m.exports.length c6, Value.bool m.hasStart, Value.int .i64 m.start, Value.slice p7 m.elems.length c7, Value.slice p8 m.datas.length c8, Value.slice p9 m.customs.length c9] : List Value) rfl rfl rfl fun b => ?_
  refine wgh ?_
  refine CdH.loop (σ := Nat × Int) (fun s => [(1, .pointer (some ⟨b, 0, none⟩)), (3, .int .i64 s.2), (4, .int .i64 s.1)]) (fun _ => [.blk b ([Value.slice p0 m.types.length c0, Value.slice p1 m.imports.length c1, Value.slice p2 m.funcs.length c2, Value.slice p3 m.tables.length c3, Value.slice p4 m.mems.length c4, Value.slice p5 m.globals.length c5, Value.slice p6 m.exports.length c6, Value.bool m.hasStart, Value.int .i64 m.start, Value.slice p7 m.elems.length c7, Value.slice p8 m.datas.length c8, Value.slice p9 m.customs.length c9] : List Value) TMod]) (fun _ => [Ext w]) (fun s => s.1 ≤ m.elems.length ∧ 0 ≤ s.2 ∧ s.2 ≤ 100000000000000000) (fun s => m.elems.length - s.1) (0, 0) wsub wsl wsr ⟨by omega, by decide, by decide⟩ ?_
  rintro ⟨i, q⟩ ⟨hi, hq0, hq⟩
  dsimp only at hi hq0 hq ⊢
  by_cases hlt : i < m.elems.length
  · obtain ⟨b1, o1, rfl, hF, he⟩ := r7.el hlt
    obtain ⟨u, hu, hr⟩ := he.items
    obtain ⟨x2, y2, rfl, z2⟩ := hr.slice
    repeat' (first | refine wau ?_ | (refine wspl ?_ ?_ <;> intro hc_))
    all_goals first | exact FinH.next (i + 1, q + (ix m.elems i).items.length) wsub wsl wsr ⟨by dsimp only; omega, by dsimp only; omega, by dsimp only; omega⟩ (by dsimp only; omega) | refine FinH.ret1 rfl rfl fun w' hw' => ⟨⟨_, rfl, fun h_ => ?_⟩, hw'.at⟩
    all_goals first | (cases h_; done) | (have hh_ := of_decide_eq_true h_; refine ⟨?_, ?_, ?_, ?_, ?_, ?_, ?_, ?_, ?_⟩ <;> omega)
  · repeat' (first | refine wau ?_ | (refine wspl ?_ ?_ <;> intro hc_))
    all_goals first | omega | refine FinH.ret1 rfl rfl fun w' hw' => ⟨⟨_, rfl, fun h_ => ?_⟩, hw'.at⟩
    all_goals first | (cases h_; done) | (have hh_ := of_decide_eq_true h_; refine ⟨?_, ?_, ?_, ?_, ?_, ?_, ?_, ?_, ?_⟩ <;> omega)
end Go.Proofs.YtgbgnipidakdhaaGreatDoor
/- law23.few: what its being true tells. -/
namespace Go.Proofs.YtgbgnipidakdhaaGreatDoor
open Go.RowKit
set_option maxRecDepth 100000
/-- what a small input is -/
def FewP (m : ApiModule) (nl : Nat) (l : List Ins) : Prop := LensQ m ∧ nl ≤ 80 ∧ l.length ≤ 60 ∧ ∀ i, i < l.length → (ix l i).labels.length ≤ 300 ∧ (ix l i).types.length ≤ 300
set_option maxHeartbeats 8000000 in
theorem law23_few (F : Nat → Prop) (m : ApiModule) (locals : List Int) (l : List Ins) (cs : List Value) (lp : Option Addr) (lc : Nat) (bv : Value) (w : World) (hm : ApiModuleV F w cs m) (hl : BodyR F w bv l) : Calls G.P 9 #[.agg cs.toArray, .slice lp locals.length lc, bv] w (BoolTells (FewP m locals.length l) w) := by
  have hm0 := hm
  obtain ⟨v0, v1, v2, v3, v4, v5, v6, v7, v8, v9, rfl, r0, r1, r2, r3, r4, r5, r6, r7, r8, r9, g0⟩ := hm; obtain ⟨p0, c0, rfl, l0⟩ := r0.slice; obtain ⟨p1, c1, rfl, l1⟩ := r1.slice; obtain ⟨p2, c2, rfl, l2⟩ := r2.slice; obtain ⟨p3, c3, rfl, l3⟩ := r3.slice; obtain ⟨p4, c4, rfl, l4⟩ := r4.slice; obtain ⟨p5, c5, rfl, l5⟩ := r5.slice; obtain ⟨p6, c6, rfl, l6⟩ := r6.slice; obtain ⟨p7, c7, rfl, l7⟩ := r7.slice; obtain ⟨p8, c8, rfl, l8⟩ := r8.slice; obtain ⟨p9, c9, rfl, l9⟩ := r9.slice
  obtain ⟨pb, cb, rfl, hb⟩ := hl.slice
  obtain ⟨S, hS⟩ : ∃ S : Nat → Int, ∀ k, S k = ((l.take k).map fun x => ((x.labels.length + x.types.length : Nat) : Int)).sum := ⟨_, fun _ => rfl⟩
  have hS0 : S 0 = 0 := by rw [hS]; rfl
  have hSn : ∀ k, k < l.length → S (k + 1) = S k + (((ix l k).labels.length + (ix l k).types.length : Nat) : Int) := fun k hk => by rw [hS, hS, take_succ_ix hk]; simp
  have hfw : ∀ w', Ext w w' → Calls G.P 33 #[.agg (([Value.slice p0 m.types.length c0, Value.slice p1 m.imports.length c1, Value.slice p2 m.funcs.length c2, Value.slice p3 m.tables.length c3, Value.slice p4 m.mems.length c4, Value.slice p5 m.globals.length c5, Value.slice p6 m.exports.length c6, Value.bool m.hasStart, Value.int .i64 m.start, Value.slice p7 m.elems.length c7, Value.slice p8 m.datas.length c8, Value.slice p9 m.customs.length c9] : List Value)).toArray] w' (BoolTells (LensQ m) w') := fun w' hx => law08_Few F m _ w' (hm0.chg hx (fun _ _ _ h => h))
  refine enterH (l := [.agg (([Value.slice p0 m.types.length c0, Value.slice p1 m.imports.length c1, Value.slice p2 m.funcs.length c2, Value.slice p3 m.tables.length c3, Value.slice p4 m.mems.length c4, Value.slice p5 m.globals.length c5, Value.slice p6 m.exports.length c6, Value.bool m.hasStart, Value.int .i64 m.start, Value.slice p7 m.elems.length c7, Value.slice p8 m.datas.length c8, Value.slice p9 m.customs.length c9] : List Value)).toArray, _, _]) Tryz.func9 rfl Tryz.ntmps9 rfl (Ok.start w) ?_
  refine wgh ?_
  refine OpsH.box ([Value.slice p0 m.types.length c0, Value.slice p1 m.imports.length c1, Value.slice p2 m.funcs.length c2, Value.slice p3 m.tables.length c3, Value.slice p4 m.mems.length c4, Value.slice p5 m.globals.length c5, Value.slice p6 m.exports.length c6, Value.bool m.hasStart, Value.int .i64 m.start, Value.slice p7 m.elems.length c7, Value.slice p8 m.datas.length c8, Value.slice p9 m.customs.length c9] : List Value) rfl rfl rfl fun b => ?_
  refine wgh ?_
  refine CdH.loop (σ := Nat) (fun i => [(1, .slice lp locals.length lc), (2, .slice pb l.length cb), (3, .pointer (some ⟨b, 0, none⟩)), (7, .int .i64 (S i)), (8, .int .i64 i)]) (fun _ => [.blk b ([Value.slice p0 m.types.length c0, Value.slice p1 m.imports.length c1, Value.slice p2 m.funcs.length c2, Value.slice p3 m.tables.length c3, Value.slice p4 m.mems.length c4, Value.slice p5 m.globals.length c5, Value.slice p6 m.exports.length c6, Value.bool m.hasStart, Value.int .i64 m.start, Value.slice p7 m.elems.length c7, Value.slice p8 m.datas.length c8, Value.slice p9 m.customs.length c9] : List Value) TMod]) (fun _ => [Ext w]) (fun i => i ≤ l.length ∧ 0 ≤ S i ∧ S i ≤ 100000000000000000 ∧ (∀ k, k < i → ((ix l k).labels.length : Int) ≤ S i ∧ ((ix l k).types.length : Int) ≤ S i)) (fun i => l.length - i) 0 (by rw [hS0]; exact wsub) wsl wsr ⟨by omega, by omega, by omega, fun k hk => by omega⟩ ?_
  rintro i ⟨hi, hq0, hq, hall⟩
  by_cases hlt : i < l.length
  · obtain ⟨b1, o1, rfl, hF, he⟩ := hl.at hlt
    obtain ⟨tv, ct, htv⟩ := (he i hlt).types
    obtain ⟨lv, cl_, hlv⟩ := (he i hlt).labels
    obtain ⟨pl, cpl, rfl, hll⟩ := hlv.slice
    obtain ⟨pt, cpt, rfl, htl⟩ := htv.slice
    have hst := hSn i hlt
    repeat' (first | refine wau ?_ | (refine wspl ?_ ?_ <;> intro hc_))
    all_goals first | exact FinH.next (i + 1) wsub wsl wsr ⟨by omega, by omega, by omega, fun k hk => by
      by_cases e : k = i
      · subst e; omega
      · have := hall k (by omega); omega⟩ (by omega) | (refine OpsH.he (HE.callB rfl rfl (fun w' hw' => hfw w' hw'.at)) rfl ?_; rintro fb hfb; cases fb)
    all_goals repeat' (first | refine wau ?_ | (refine wspl ?_ ?_ <;> intro hc_))
    all_goals first | omega | refine FinH.ret1 rfl rfl fun w' hw' => ⟨⟨_, rfl, fun h_ => ?_⟩, hw'.at⟩
    all_goals first | (cases h_; done) | skip
    all_goals (have hh_ := of_decide_eq_true h_; exfalso; omega)
  · obtain rfl : i = l.length := by omega
    generalize S l.length = q at *
    repeat' (first | refine wau ?_ | (refine wspl ?_ ?_ <;> intro hc_))
    all_goals refine OpsH.he (HE.callB rfl rfl (fun w' hw' => hfw w' hw'.at)) rfl ?_
    all_goals rintro fb hfb
    all_goals cases fb
    all_goals repeat' (first | refine wau ?_ | (refine wspl ?_ ?_ <;> intro hc_))
    all_goals first | omega | refine FinH.ret1 rfl rfl fun w' hw' => ⟨⟨_, rfl, fun h_ => ?_⟩, hw'.at⟩
    all_goals first | (cases h_; done) | skip
    all_goals (have hh_ := of_decide_eq_true h_; refine ⟨hfb rfl, by omega, by omega, fun k hk => ?_⟩; have := hall k hk; omega)
end Go.Proofs.YtgbgnipidakdhaaGreatDoor
