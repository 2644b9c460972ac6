/- What the index spaces answer: the accessors of space.Space. -/
import Derived.Test.YtgbgnipidakdhaaGreatDoorJGi
import Derived.Test.YtgbgnipidakdhaaGreatDoorJAw
namespace Go.Proofs.YtgbgnipidakdhaaGreatDoor
open Go.RowKit
set_option maxRecDepth 100000
theorem qr2q {g g' : Prop} (h : g') (hw : Hold g' → g := by (intro hk_; (first | (refine OpsH.isCall (f := 155) ?_; refine OpsH.call1 rfl rfl rfl (fun w' hw' => space_whole bS sp w' (h.s.chg (show Ext w w' from hw'.at) (fun h => h))) ?_)); exact hk_.out)) : g := hw ⟨h⟩
theorem space_Table (B : Nat) (m : ApiModule) (v : Value) (i : Int) (w : World) (h : SpaceRd B m w v) : Calls G.P 132 #[v, .int .i64 i] w fun e w' => e = .returned (.tuple #[.agg (tblC ((atK (tablesM m) i).getD noT)).toArray, .bool (atK (tablesM m) i).isSome]) ∧ Ext w w' := by
  obtain ⟨bS, sp, im, dm, vs, tc, ig, dg, rfl, -, h⟩ := h
  have hb := own_rowC h.bs
  have c2 : w.cell? ⟨sp, 2, none⟩ = some vs.bv := h.x.cell rfl
  have et : (spX m).tables = tablesM m := by rw [spX_eq]
  rw [et] at hb
  refine enterH (l := [_, _]) Tryz.func132 rfl Tryz.ntmps132 rfl (Ok.start w) ?_
  repeat' (first | refine wau ?_ | (refine qal2q fun b_ => ?_) | (refine qal5q fun b_ => ?_) | (refine qal4q fun b_ => ?_) | (refine qal3q fun b_ => ?_) | refine qr2q ?_ | (refine OpsH.isCall (f := 163) ?_; refine OpsH.call1 rfl rfl rfl (fun w' hw' => at_Table _ _ i w' (hb.ext hw'.at)) ?_) | (refine wspl ?_ ?_ <;> intro hc_))
  all_goals exact FinH.ret2c (.inl rfl) rfl rfl rfl rfl rfl wup rfl rfl fun w' hw' => ⟨by rfl, hw'.at⟩
theorem space_Mem (B : Nat) (m : ApiModule) (v : Value) (i : Int) (w : World) (h : SpaceRd B m w v) : Calls G.P 137 #[v, .int .i64 i] w fun e w' => e = .returned (.tuple #[.agg (limC ((atK (memsM m) i).getD noL)).toArray, .bool (atK (memsM m) i).isSome]) ∧ Ext w w' := by
  obtain ⟨bS, sp, im, dm, vs, tc, ig, dg, rfl, -, h⟩ := h
  have hb := own_rowC h.ms
  have c2 : w.cell? ⟨sp, 3, none⟩ = some vs.mv := h.x.cell rfl
  have et : (spX m).mems = memsM m := by rw [spX_eq]
  rw [et] at hb
  refine enterH (l := [_, _]) Tryz.func137 rfl Tryz.ntmps137 rfl (Ok.start w) ?_
  repeat' (first | refine wau ?_ | (refine qal2q fun b_ => ?_) | (refine qal5q fun b_ => ?_) | (refine qal4q fun b_ => ?_) | (refine qal3q fun b_ => ?_) | refine qr2q ?_ | (refine OpsH.isCall (f := 166) ?_; refine OpsH.call1 rfl rfl rfl (fun w' hw' => at_Limits _ _ i w' (hb.ext hw'.at)) ?_) | (refine wspl ?_ ?_ <;> intro hc_))
  all_goals exact FinH.ret2c (.inl rfl) rfl rfl rfl rfl rfl wup rfl rfl fun w' hw' => ⟨by rfl, hw'.at⟩
theorem space_Global (B : Nat) (m : ApiModule) (v : Value) (i : Int) (w : World) (h : SpaceRd B m w v) : Calls G.P 133 #[v, .int .i64 i] w fun e w' => e = .returned (.tuple #[.agg (gloC ((atK (globalsM m) i).getD noG)).toArray, .bool (atK (globalsM m) i).isSome]) ∧ Ext w w' := by
  obtain ⟨bS, sp, im, dm, vs, tc, ig, dg, rfl, -, h⟩ := h
  have hb := own_rowC h.gs
  have c2 : w.cell? ⟨sp, 4, none⟩ = some vs.gv := h.x.cell rfl
  have et : (spX m).globals = globalsM m := by rw [spX_eq]
  rw [et] at hb
  refine enterH (l := [_, _]) Tryz.func133 rfl Tryz.ntmps133 rfl (Ok.start w) ?_
  repeat' (first | refine wau ?_ | (refine qal2q fun b_ => ?_) | (refine qal5q fun b_ => ?_) | (refine qal4q fun b_ => ?_) | (refine qal3q fun b_ => ?_) | refine qr2q ?_ | (refine OpsH.isCall (f := 164) ?_; refine OpsH.call1 rfl rfl rfl (fun w' hw' => at_Global _ _ i w' (hb.ext hw'.at)) ?_) | (refine wspl ?_ ?_ <;> intro hc_))
  all_goals exact FinH.ret2c (.inl rfl) rfl rfl rfl rfl rfl wup rfl rfl fun w' hw' => ⟨by rfl, hw'.at⟩
theorem space_Elem (B : Nat) (m : ApiModule) (v : Value) (i : Int) (w : World) (h : SpaceRd B m w v) : Calls G.P 135 #[v, .int .i64 i] w fun e w' => e = .returned (.tuple #[.int .i64 ((atK (elemsM m) i).getD 0), .bool (atK (elemsM m) i).isSome]) ∧ Ext w w' := by
  obtain ⟨bS, sp, im, dm, vs, tc, ig, dg, rfl, -, h⟩ := h
  have hb := own_rowC h.es
  have c2 : w.cell? ⟨sp, 5, none⟩ = some vs.ev := h.x.cell rfl
  have et : (spX m).elems = elemsM m := by rw [spX_eq]
  rw [et] at hb
  refine enterH (l := [_, _]) Tryz.func135 rfl Tryz.ntmps135 rfl (Ok.start w) ?_
  repeat' (first | refine wau ?_ | (refine qal2q fun b_ => ?_) | (refine qal5q fun b_ => ?_) | (refine qal4q fun b_ => ?_) | (refine qal3q fun b_ => ?_) | refine qr2q ?_ | (refine OpsH.isCall (f := 165) ?_; refine OpsH.call1 rfl rfl rfl (fun w' hw' => at_Val _ _ i w' (hb.ext hw'.at)) ?_) | (refine wspl ?_ ?_ <;> intro hc_))
  all_goals exact FinH.ret2 rfl rfl rfl fun w' hw' => ⟨by rfl, hw'.at⟩
theorem space_Datas (B : Nat) (m : ApiModule) (v : Value) (w : World) (h : SpaceRd B m w v) : Calls G.P 136 #[v] w fun e w' => e = .returned (.int .i64 m.datas.length) ∧ Ext w w' := by
  obtain ⟨bS, sp, im, dm, vs, tc, ig, dg, rfl, -, h⟩ := h
  have c2 : w.cell? ⟨sp, 6, none⟩ = some (.int .i64 (spX m).datas) := h.x.cell rfl
  have et : (spX m).datas = m.datas.length := by rw [spX_eq]
  rw [et] at c2
  refine enterH (l := [_]) Tryz.func136 rfl Tryz.ntmps136 rfl (Ok.start w) ?_
  repeat' (first | refine wau ?_ | refine qr2q ?_ | (refine wspl ?_ ?_ <;> intro hc_))
  all_goals exact FinH.ret1 rfl rfl fun w' hw' => ⟨by rfl, hw'.at⟩
theorem space_Funcs (B : Nat) (m : ApiModule) (v : Value) (w : World) (h : SpaceRd B m w v) : Calls G.P 162 #[v] w fun e w' => e = .returned (.int .i64 (funcsM m).length) ∧ Ext w w' := by
  obtain ⟨bS, sp, im, dm, vs, tc, ig, dg, rfl, -, h⟩ := h
  have hb := own_rowC h.fs
  have c2 : w.cell? ⟨sp, 1, none⟩ = some vs.fv := h.x.cell rfl
  have et : (spX m).funcs = funcsM m := by rw [spX_eq]
  rw [et] at hb
  obtain ⟨p, c, e⟩ := hb.slice
  rw [e] at c2
  refine enterH (l := [_]) Tryz.func162 rfl Tryz.ntmps162 rfl (Ok.start w) ?_
  repeat' (first | refine wau ?_ | refine qr2q ?_ | (refine wspl ?_ ?_ <;> intro hc_))
  all_goals exact FinH.ret1 rfl rfl fun w' hw' => ⟨by rfl, hw'.at⟩
theorem space_Declared (B : Nat) (m : ApiModule) (v : Value) (i : Int) (w : World) (h : SpaceRd B m w v) (hi : R64 i) : Calls G.P 131 #[v, .int .i64 i] w fun e w' => e = .returned (.bool (declK m i)) ∧ Ext w w' := by
  have h0 := h
  obtain ⟨bS, sp, im, dm, vs, tc, ig, dg, rfl, -, h⟩ := h
  have c2 : w.cell? ⟨sp, 8, none⟩ = some (.map (some dm)) := h.x.cell rfl
  have hd := h.dec i
  refine enterH (l := [_, _]) Tryz.func131 rfl Tryz.ntmps131 rfl (Ok.start w) ?_
  repeat' (first | refine wau ?_ | (refine OpsH.isCallG (f := 155) ?_; refine OpsH.call1g wgd rfl rfl rfl (fun w' hw' => space_whole bS sp w' (h.s.chg (show Ext w w' from hw'.at) (fun h => h))) ?_) | (refine OpsH.isCallG (f := 162) ?_; refine OpsH.call1g wgd rfl rfl rfl (fun w' hw' => space_Funcs B m _ w' (h0.chg (show Ext w w' from hw'.at) (fun _ _ h => h))) ?_) | (refine OpsH.isLookG ?_; refine OpsH.yg (by first | exact gdT rfl wraq) (Yl.lookupE (zv := .bool false) Tryz.underlying93 Tryz.underlying3 (fun _ => rfl) rfl rfl hi h.dm wmem) rfl ?_; rw [hd]) | (refine wspl ?_ ?_ <;> intro hc_))
  all_goals exact FinH.ret1 rfl rfl fun w' hw' => ⟨by unfold declK; by_cases a_ : 0 ≤ i <;> by_cases b_ : i < ((funcsM m).length : Int) <;> first | omega | simp [a_, b_] | simp_all, hw'.at⟩
def fnO (B : Nat) (f : ApiFunc) (x : Value × Value) : List Res := [.own B TVal 1 x.1 f.params.length (f.params.map (Value.int .i64)), .own B TVal 1 x.2 f.results.length (f.results.map (Value.int .i64))]
set_option maxHeartbeats 16000000 in
theorem space_copiedM (F : Nat → Prop) (B : Nat) (f : ApiFunc) (u0 u1 : Value) (w : World) (h0 : IntsR F w u0 f.params) (h1 : IntsR F w u1 f.results) (hB : B ≤ w.heap.size) : Calls G.P 37 #[.agg #[u0, u1]] w (MutPost [] w (fun x : Value × Value => .agg #[x.1, x.2]) (fun _ => True) (fnO B f)) := by
  obtain ⟨p0, c0, rfl, l0⟩ := h0.slice
  obtain ⟨p1, c1, rfl, l1⟩ := h1.slice
  refine enterH (l := [.agg #[.slice p0 f.params.length c0, .slice p1 f.results.length c1]]) Tryz.func37 rfl Tryz.ntmps37 rfl (Ok.start w) ?_
  refine wgh ?_
  refine OpsH.box [.slice p0 f.params.length c0, .slice p1 f.results.length c1] rfl rfl rfl fun b1 => ?_
  refine wgh ?_
  refine OpsH.alloc [Value.slice none 0 0, Value.slice none 0 0] rfl rfl rfl fun b2 => ?_
  refine wgh ?_
  refine CdH.nilO B TVal 1 ?_
  refine CdH.nilO B TVal 1 ?_
  refine CdH.regionS [0, 1, 3, 4, 2, 5, 6] 7 [.blk b1 [.slice p0 f.params.length c0, .slice p1 f.results.length c1] TFn] [Ext w] (by kernel_rfl) wsl wsr ?_
  refine wgs ?_
  refine OpsS.he (HE.appRB (f.params.map (Value.int .i64)) rfl rfl (fun _ => wup) (ints_rd h0 wmem) (by simp) rfl rfl rfl (by rfl) (by rfl) (by rfl) (ints_one _) (by show (0 + f.params.length) * 8 ≤ _; omega) (by omega) (fun w' hw' => Nat.le_trans hB (show Ext w w' from hw'.at).size)) rfl (fun _ => wsl) (fun _ => wsr) ?_
  intro v1 _
  refine OpsS.he (HE.appRB (f.results.map (Value.int .i64)) rfl rfl (fun _ => wup) (ints_rd h1 wmem) (by simp) rfl rfl rfl (by rfl) (by rfl) (by rfl) (ints_one _) (by show (0 + f.results.length) * 8 ≤ _; omega) (by omega) (fun w' hw' => Nat.le_trans hB (show Ext w w' from hw'.at).size)) rfl (fun _ => wsl) (fun _ => wsr) ?_
  intro v2 _
  refine OpsS.pure (φ := (∃ p c, v1 = .slice p (0 + f.params.length) c) ∧ ∃ p c, v2 = .slice p (0 + f.results.length) c) (fun w' hw' => ⟨?_, ?_⟩) ?_
  · obtain ⟨p, c, e, _⟩ := own_slice (hw'.own (v := v1)); exact ⟨p, c, e⟩
  · obtain ⟨p, c, e, _⟩ := own_slice (hw'.own (v := v2)); exact ⟨p, c, e⟩
  rintro ⟨⟨q1, d1, rfl⟩, ⟨q2, d2, rfl⟩⟩
  refine wgs ?_
  refine OpsS.hez0 (HE0.storeB _ rfl rfl rfl rfl rfl rfl wup rfl) rfl ?_
  rintro ⟨⟩ _
  simp only [Nat.zero_add, List.nil_append]
  refine wgh ?_
  refine FinH.ret1c (.inl rfl) rfl rfl rfl rfl rfl wup rfl fun w' hw' => MutPost.ofE (x := (Value.slice q1 f.params.length d1, Value.slice q2 f.results.length d2)) trivial hw' ?_ wmem
  dsimp only [fnO]
  exact wsl
theorem at_Func_in (b o n c j n0 n1 y0 y1 : Nat) (x0 x1 : Option Addr) (w : World) (hj : j < n) (g0 : w.cell? ⟨b, o + j * 2, none⟩ = some (.slice x0 n0 y0)) (g1 : w.cell? ⟨b, o + j * 2 + 1, none⟩ = some (.slice x1 n1 y1)) : Calls G.P 154 #[.slice (some ⟨b, o, none⟩) n c, .int .i64 j] w fun e w' => e = .returned (.tuple #[.agg #[.slice x0 n0 y0, .slice x1 n1 y1], .bool true]) ∧ Ext w w' := by
  refine enterH (l := [_, _]) Tryz.func154 rfl Tryz.ntmps154 rfl (Ok.start w) ?_
  refine CdH.der (Cs b (o + j * 2) [Value.slice x0 n0 y0, Value.slice x1 n1 y1]) (fun w' hw' => by
    intro k hk
    have hx : Ext w w' := hw' _ wmem
    match k, hk with
    | 0, _ => exact hx.cell g0
    | 1, _ => exact hx.cell g1) ?_
  repeat' (first | refine wau ?_ | (refine qal2q fun b_ => ?_) | (refine qal5q fun b_ => ?_) | (refine qal4q fun b_ => ?_) | (refine qal3q fun b_ => ?_) | (refine wspl ?_ ?_ <;> intro hc_))
  all_goals exact FinH.ret2c (.inl rfl) rfl rfl rfl rfl rfl wup rfl rfl fun w' hw' => ⟨by rfl, hw'.at⟩
theorem at_Func_out (p : Option Addr) (n c : Nat) (i : Int) (w : World) (hin : ¬ (0 ≤ i ∧ i < n)) : Calls G.P 154 #[.slice p n c, .int .i64 i] w fun e w' => e = .returned (.tuple #[.agg #[.slice none 0 0, .slice none 0 0], .bool false]) ∧ Ext w w' := by
  refine enterH (l := [_, _]) Tryz.func154 rfl Tryz.ntmps154 rfl (Ok.start w) ?_
  repeat' (first | refine wau ?_ | (refine qal2q fun b_ => ?_) | (refine qal5q fun b_ => ?_) | (refine qal4q fun b_ => ?_) | (refine qal3q fun b_ => ?_) | (refine wspl ?_ ?_ <;> intro hc_))
  all_goals first | omega | exact FinH.ret2c (.inl rfl) rfl rfl rfl rfl rfl wup rfl rfl fun w' hw' => ⟨by rfl, hw'.at⟩
theorem fn_of {m : ApiModule} {i : Int} {B : Nat} {w : World} {tc : List Value} {tv : Value} (hr : RowC 2 w tv m.types.length tc) (ht : TyRd B tc m.types w) : ∃ p c, tv = .slice p m.types.length c ∧ ((¬ (0 ≤ i ∧ i < m.types.length) ∧ atK m.types i = none) ∨ ∃ (j b o : Nat) (x0 x1 : Option Addr) (y0 y1 : Nat), i = j ∧ j < m.types.length ∧ p = some ⟨b, o, none⟩ ∧ atK m.types i = some (ix m.types j) ∧
    w.cell? ⟨b, o + j * 2, none⟩ = some (.slice x0 (ix m.types j).params.length y0) ∧ w.cell? ⟨b, o + j * 2 + 1, none⟩ = some (.slice x1 (ix m.types j).results.length y1) ∧ IntsR (fun k => B ≤ k) w (.slice x0 (ix m.types j).params.length y0) (ix m.types j).params ∧ IntsR (fun k => B ≤ k) w (.slice x1 (ix m.types j).results.length y1) (ix m.types j).results) := by
  obtain ⟨p, c, rfl, hl, hr⟩ := hr
  refine ⟨p, c, rfl, ?_⟩
  by_cases hin : 0 ≤ i ∧ i < m.types.length
  · obtain ⟨j, rfl⟩ := Int.eq_ofNat_of_zero_le hin.1
    have hj : j < m.types.length := by omega
    obtain ⟨b, o, rfl, hc⟩ := hr.resolve_left (by omega)
    obtain ⟨u0, u1, e1, e2, q0, q1⟩ := ht.2 j hj
    obtain ⟨x0, y0, rfl, z0⟩ := q0.slice
    obtain ⟨x1, y1, rfl, z1⟩ := q1.slice
    have hlt : j * 2 + 1 < tc.length := (List.getElem?_eq_some_iff.1 e2).1
    exact .inr ⟨j, b, o, x0, x1, y0, y1, rfl, hj, rfl, atK_in hj, by rw [hc _ (by omega), e1], by rw [Nat.add_assoc, hc _ hlt, e2], q0, q1⟩
  · exact .inl ⟨hin, atK_out hin⟩
def FnPost (B : Nat) (w : World) (r : Option ApiFunc) : Ending → World → Prop := MutPost [] w (fun x : Value × Value => .tuple #[.agg #[x.1, x.2], .bool r.isSome]) (fun _ => True) (fnO B (r.getD noF))
set_option maxHeartbeats 16000000 in
theorem space_TypeM (B0 B : Nat) (m : ApiModule) (v : Value) (i : Int) (w : World) (h : SpaceRd B0 m w v) (hB : B ≤ w.heap.size) : Calls G.P 106 #[v, .int .i64 i] w (FnPost B w (atK m.types i)) := by
  obtain ⟨bS, sp, im, dm, vs, tc, ig, dg, rfl, -, h⟩ := h
  have hb := own_rowC h.ts
  have c2 : w.cell? ⟨sp, 0, none⟩ = some vs.tv := h.x.cell rfl
  obtain ⟨p, c, e, hh⟩ := fn_of (i := i) hb h.ty
  rw [e] at c2
  unfold FnPost
  rcases hh with ⟨hin, hat⟩ | ⟨j, b, o, x0, x1, y0, y1, rfl, hj, rfl, hat, g0, g1, q0, q1⟩
  · rw [hat]
    refine enterH (l := [_, _]) Tryz.func106 rfl Tryz.ntmps106 rfl (Ok.start w) ?_
    repeat' (first | refine wau ?_ | (refine qal2q fun b_ => ?_) | (refine qal5q fun b_ => ?_) | (refine qal4q fun b_ => ?_) | (refine qal3q fun b_ => ?_) | refine qr2q ?_ | (refine OpsH.isCall (f := 154) ?_; refine OpsH.call1 rfl rfl rfl (fun w' hw' => at_Func_out p m.types.length c i w' hin) ?_) | (refine wspl ?_ ?_ <;> intro hc_))
    refine OpsH.he (HE.callM (M0 := []) rfl rfl (fun w' hw' => space_copiedM (fun _ => False) B noF _ _ w' (IntsR.nil0 _ _) (IntsR.nil0 _ _) (Nat.le_trans hB (show Ext w w' from hw'.at).size))) rfl ?_
    rintro ⟨v1, v2⟩ _
    dsimp only [fnO, List.cons_append, List.nil_append]
    refine OpsH.pure (φ := (∃ p c, v1 = .slice p noF.params.length c) ∧ ∃ p c, v2 = .slice p noF.results.length c) (fun w' hw' => ⟨?_, ?_⟩) ?_
    · obtain ⟨p, c, e, _⟩ := own_slice (hw'.own (v := v1)); exact ⟨p, c, e⟩
    · obtain ⟨p, c, e, _⟩ := own_slice (hw'.own (v := v2)); exact ⟨p, c, e⟩
    rintro ⟨⟨q1, d1, rfl⟩, ⟨q2, d2, rfl⟩⟩
    repeat' (first | refine wau ?_ | (refine wspl ?_ ?_ <;> intro hc_))
    exact FinH.ret2c (.inl rfl) rfl rfl rfl rfl rfl wup rfl rfl fun w' hw' => MutPost.ofE (x := (Value.slice q1 noF.params.length d1, Value.slice q2 noF.results.length d2)) trivial hw' (by dsimp only [fnO]; exact wsl) wmem
  · rw [hat]
    refine enterH (l := [_, _]) Tryz.func106 rfl Tryz.ntmps106 rfl (Ok.start w) ?_
    repeat' (first | refine wau ?_ | (refine qal2q fun b_ => ?_) | (refine qal5q fun b_ => ?_) | (refine qal4q fun b_ => ?_) | (refine qal3q fun b_ => ?_) | refine qr2q ?_ | (refine OpsH.isCall (f := 154) ?_; refine OpsH.call1 rfl rfl rfl (fun w' hw' => at_Func_in b o m.types.length c j _ _ y0 y1 x0 x1 w' hj ((show Ext w w' from hw'.at).cell g0) ((show Ext w w' from hw'.at).cell g1)) ?_) | (refine wspl ?_ ?_ <;> intro hc_))
    refine OpsH.he (HE.callM (M0 := []) rfl rfl (fun w' hw' => space_copiedM (fun k => B0 ≤ k) B (ix m.types j) _ _ w' (q0.chg (show Ext w w' from hw'.at) (fun _ _ _ h => h)) (q1.chg (show Ext w w' from hw'.at) (fun _ _ _ h => h)) (Nat.le_trans hB (show Ext w w' from hw'.at).size))) rfl ?_
    rintro ⟨v1, v2⟩ _
    dsimp only [fnO, List.cons_append, List.nil_append]
    refine OpsH.pure (φ := (∃ p c, v1 = .slice p (ix m.types j).params.length c) ∧ ∃ p c, v2 = .slice p (ix m.types j).results.length c) (fun w' hw' => ⟨?_, ?_⟩) ?_
    · obtain ⟨p, c, e, _⟩ := own_slice (hw'.own (v := v1)); exact ⟨p, c, e⟩
    · obtain ⟨p, c, e, _⟩ := own_slice (hw'.own (v := v2)); exact ⟨p, c, e⟩
    rintro ⟨⟨q1, d1, rfl⟩, ⟨q2, d2, rfl⟩⟩
    repeat' (first | refine wau ?_ | (refine wspl ?_ ?_ <;> intro hc_))
    exact FinH.ret2c (.inl rfl) rfl rfl rfl rfl rfl wup rfl rfl fun w' hw' => MutPost.ofE (x := (Value.slice q1 (ix m.types j).params.length d1, Value.slice q2 (ix m.types j).results.length d2)) trivial hw' (by dsimp only [fnO]; exact wsl) wmem
end Go.Proofs.YtgbgnipidakdhaaGreatDoor
