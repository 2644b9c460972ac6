/- law08.Few and law23.few: what their being true tells. -/
import Derived.Test.YtgbgnipidakdhaaGreatDoorJLm
import Derived.Test.YtgbgnipidakdhaaGreatDoorJM4
namespace Go.Proofs.YtgbgnipidakdhaaGreatDoor
open Go.RowKit
set_option maxRecDepth 100000
set_option maxHeartbeats 8000000 in
theorem law08_Few (F : Nat → Prop) (m : ApiModule) (cs : List Value) (w : World) (hm : ApiModuleV F w cs m) : Calls G.P 33 #[.agg cs.toArray] w (BoolTells (LensQ m) w) := by
  obtain ⟨v0, v1, v2, v3, v4, v5, v6, v7, v8, v9, rfl, r0, r1, r2, r3, r4, r5, r6, r7, r8, r9, g0⟩ := hm; obtain ⟨p0, c0, rfl, l0⟩ := r0.slice; obtain ⟨p1, c1, rfl, l1⟩ := r1.slice; obtain ⟨p2, c2, rfl, l2⟩ := r2.slice; obtain ⟨p3, c3, rfl, l3⟩ := r3.slice; obtain ⟨p4, c4, rfl, l4⟩ := r4.slice; obtain ⟨p5, c5, rfl, l5⟩ := r5.slice; obtain ⟨p6, c6, rfl, l6⟩ := r6.slice; obtain ⟨p7, c7, rfl, l7⟩ := r7.slice; obtain ⟨p8, c8, rfl, l8⟩ := r8.slice; obtain ⟨p9, c9, rfl, l9⟩ := r9.slice
  refine enterH (l := [.agg (([Value.slice p0 m.types.length c0, Value.slice p1 m.imports.length c1, Value.slice p2 m.funcs.length c2, Value.slice p3 m.tables.length c3, Value.slice p4 m.mems.length c4, Value.slice p5 m.globals.length c5, Value.slice p6 m.exports.length c6, Value.bool m.hasStart, Value.int .i64 m.start, Value.slice p7 m.elems.length c7, Value.slice p8 m.datas.length c8, Value.slice p9 m.customs.length c9] : List Value)).toArray]) Tryz.func33 rfl Tryz.ntmps33 rfl (Ok.start w) ?_
  refine wgh ?_
  refine OpsH.box ([Value.slice p0 m.types.length c0, Value.slice p1 m.imports.length c1, Value.slice p2 m.funcs.length c2, Value.slice p3 m.tables.length c3, Value.slice p4 m.mems.length c4, Value.slice p5 m.globals.length c5, Value.slice p6 m.exports.length c6, Value.bool m.hasStart, Value.int .i64 m.start, Value.slice p7 m.elems.length c7, Value.slice p8 m.datas.length c8, Value.slice p9 m.customs.length c9] : List Value) rfl rfl rfl fun b => ?_
  refine wgh ?_
  refine CdH.loop (σ := Nat × Int) (fun s => [(1, .pointer (some ⟨b, 0, none⟩)), (3, .int .i64 s.2), (4, .int .i64 s.1)]) (fun _ => [.blk b ([Value.slice p0 m.types.length c0, Value.slice p1 m.imports.length c1, Value.slice p2 m.funcs.length c2, Value.slice p3 m.tables.length c3, Value.slice p4 m.mems.length c4, Value.slice p5 m.globals.length c5, Value.slice p6 m.exports.length c6, Value.bool m.hasStart, Value.int .i64 m.start, Value.slice p7 m.elems.length c7, Value.slice p8 m.datas.length c8, Value.slice p9 m.customs.length c9] : List Value) TMod]) (fun _ => [Ext w]) (fun s => s.1 ≤ m.elems.length ∧ 0 ≤ s.2 ∧ s.2 ≤ 100000000000000000) (fun s => m.elems.length - s.1) (0, 0) wsub wsl wsr ⟨by omega, by decide, by decide⟩ ?_
  rintro ⟨i, q⟩ ⟨hi, hq0, hq⟩
  dsimp only at hi hq0 hq ⊢
  by_cases hlt : i < m.elems.length
  · obtain ⟨b1, o1, rfl, hF, he⟩ := r7.el hlt
    obtain ⟨u, hu, hr⟩ := he.items
    obtain ⟨x2, y2, rfl, z2⟩ := hr.slice
    repeat' (first | refine wau ?_ | (refine wspl ?_ ?_ <;> intro hc_))
    all_goals first | exact FinH.next (i + 1, q + (ix m.elems i).items.length) wsub wsl wsr ⟨by dsimp only; omega, by dsimp only; omega, by dsimp only; omega⟩ (by dsimp only; omega) | refine FinH.ret1 rfl rfl fun w' hw' => ⟨⟨_, rfl, fun h_ => ?_⟩, hw'.at⟩
    all_goals first | (cases h_; done) | (have hh_ := of_decide_eq_true h_; refine ⟨?_, ?_, ?_, ?_, ?_, ?_, ?_, ?_, ?_⟩ <;> omega)
  · repeat' (first | refine wau ?_ | (refine wspl ?_ ?_ <;> intro hc_))
    all_goals first | omega | refine FinH.ret1 rfl rfl fun w' hw' => ⟨⟨_, rfl, fun h_ => ?_⟩, hw'.at⟩
    all_goals first | (cases h_; done) | (have hh_ := of_decide_eq_true h_; refine ⟨?_, ?_, ?_, ?_, ?_, ?_, ?_, ?_, ?_⟩ <;> omega)
def FewP (m : ApiModule) (nl : Nat) (l : List Ins) : Prop := LensQ m ∧ nl ≤ 80 ∧ l.length ≤ 60 ∧ ∀ i, i < l.length → (ix l i).labels.length ≤ 300 ∧ (ix l i).types.length ≤ 300
set_option maxHeartbeats 8000000 in
theorem law23_few (F : Nat → Prop) (m : ApiModule) (locals : List Int) (l : List Ins) (cs : List Value) (lp : Option Addr) (lc : Nat) (bv : Value) (w : World) (hm : ApiModuleV F w cs m) (hl : BodyR F w bv l) : Calls G.P 9 #[.agg cs.toArray, .slice lp locals.length lc, bv] w (BoolTells (FewP m locals.length l) w) := by
  have hm0 := hm
  obtain ⟨v0, v1, v2, v3, v4, v5, v6, v7, v8, v9, rfl, r0, r1, r2, r3, r4, r5, r6, r7, r8, r9, g0⟩ := hm; obtain ⟨p0, c0, rfl, l0⟩ := r0.slice; obtain ⟨p1, c1, rfl, l1⟩ := r1.slice; obtain ⟨p2, c2, rfl, l2⟩ := r2.slice; obtain ⟨p3, c3, rfl, l3⟩ := r3.slice; obtain ⟨p4, c4, rfl, l4⟩ := r4.slice; obtain ⟨p5, c5, rfl, l5⟩ := r5.slice; obtain ⟨p6, c6, rfl, l6⟩ := r6.slice; obtain ⟨p7, c7, rfl, l7⟩ := r7.slice; obtain ⟨p8, c8, rfl, l8⟩ := r8.slice; obtain ⟨p9, c9, rfl, l9⟩ := r9.slice
  obtain ⟨pb, cb, rfl, hb⟩ := hl.slice
  obtain ⟨S, hS⟩ : ∃ S : Nat → Int, ∀ k, S k = ((l.take k).map fun x => ((x.labels.length + x.types.length : Nat) : Int)).sum := ⟨_, fun _ => rfl⟩
  have hS0 : S 0 = 0 := by rw [hS]; rfl
  have hSn : ∀ k, k < l.length → S (k + 1) = S k + (((ix l k).labels.length + (ix l k).types.length : Nat) : Int) := fun k hk => by rw [hS, hS, take_succ_ix hk]; simp
  have hfw : ∀ w', Ext w w' → Calls G.P 33 #[.agg (([Value.slice p0 m.types.length c0, Value.slice p1 m.imports.length c1, Value.slice p2 m.funcs.length c2, Value.slice p3 m.tables.length c3, Value.slice p4 m.mems.length c4, Value.slice p5 m.globals.length c5, Value.slice p6 m.exports.length c6, Value.bool m.hasStart, Value.int .i64 m.start, Value.slice p7 m.elems.length c7, Value.slice p8 m.datas.length c8, Value.slice p9 m.customs.length c9] : List Value)).toArray] w' (BoolTells (LensQ m) w') := fun w' hx => law08_Few F m _ w' (hm0.chg hx (fun _ _ _ h => h))
  refine enterH (l := [.agg (([Value.slice p0 m.types.length c0, Value.slice p1 m.imports.length c1, Value.slice p2 m.funcs.length c2, Value.slice p3 m.tables.length c3, Value.slice p4 m.mems.length c4, Value.slice p5 m.globals.length c5, Value.slice p6 m.exports.length c6, Value.bool m.hasStart, Value.int .i64 m.start, Value.slice p7 m.elems.length c7, Value.slice p8 m.datas.length c8, Value.slice p9 m.customs.length c9] : List Value)).toArray, _, _]) Tryz.func9 rfl Tryz.ntmps9 rfl (Ok.start w) ?_
  refine wgh ?_
  refine OpsH.box ([Value.slice p0 m.types.length c0, Value.slice p1 m.imports.length c1, Value.slice p2 m.funcs.length c2, Value.slice p3 m.tables.length c3, Value.slice p4 m.mems.length c4, Value.slice p5 m.globals.length c5, Value.slice p6 m.exports.length c6, Value.bool m.hasStart, Value.int .i64 m.start, Value.slice p7 m.elems.length c7, Value.slice p8 m.datas.length c8, Value.slice p9 m.customs.length c9] : List Value) rfl rfl rfl fun b => ?_
  refine wgh ?_
  refine CdH.loop (σ := Nat) (fun i => [(1, .slice lp locals.length lc), (2, .slice pb l.length cb), (3, .pointer (some ⟨b, 0, none⟩)), (7, .int .i64 (S i)), (8, .int .i64 i)]) (fun _ => [.blk b ([Value.slice p0 m.types.length c0, Value.slice p1 m.imports.length c1, Value.slice p2 m.funcs.length c2, Value.slice p3 m.tables.length c3, Value.slice p4 m.mems.length c4, Value.slice p5 m.globals.length c5, Value.slice p6 m.exports.length c6, Value.bool m.hasStart, Value.int .i64 m.start, Value.slice p7 m.elems.length c7, Value.slice p8 m.datas.length c8, Value.slice p9 m.customs.length c9] : List Value) TMod]) (fun _ => [Ext w]) (fun i => i ≤ l.length ∧ 0 ≤ S i ∧ S i ≤ 100000000000000000 ∧ (∀ k, k < i → ((ix l k).labels.length : Int) ≤ S i ∧ ((ix l k).types.length : Int) ≤ S i)) (fun i => l.length - i) 0 (by rw [hS0]; exact wsub) wsl wsr ⟨by omega, by omega, by omega, fun k hk => by omega⟩ ?_
  rintro i ⟨hi, hq0, hq, hall⟩
  by_cases hlt : i < l.length
  · obtain ⟨b1, o1, rfl, hF, he⟩ := hl.at hlt
    obtain ⟨tv, ct, htv⟩ := (he i hlt).types
    obtain ⟨lv, cl_, hlv⟩ := (he i hlt).labels
    obtain ⟨pl, cpl, rfl, hll⟩ := hlv.slice
    obtain ⟨pt, cpt, rfl, htl⟩ := htv.slice
    have hst := hSn i hlt
    repeat' (first | refine wau ?_ | (refine wspl ?_ ?_ <;> intro hc_))
    all_goals first | exact FinH.next (i + 1) wsub wsl wsr ⟨by omega, by omega, by omega, fun k hk => by
      by_cases e : k = i
      · subst e; omega
      · have := hall k (by omega); omega⟩ (by omega) | (refine OpsH.he (HE.callB rfl rfl (fun w' hw' => hfw w' hw'.at)) rfl ?_; rintro fb hfb; cases fb)
    all_goals repeat' (first | refine wau ?_ | (refine wspl ?_ ?_ <;> intro hc_))
    all_goals first | omega | refine FinH.ret1 rfl rfl fun w' hw' => ⟨⟨_, rfl, fun h_ => ?_⟩, hw'.at⟩
    all_goals first | (cases h_; done) | skip
    all_goals (have hh_ := of_decide_eq_true h_; exfalso; omega)
  · obtain rfl : i = l.length := by omega
    generalize S l.length = q at *
    repeat' (first | refine wau ?_ | (refine wspl ?_ ?_ <;> intro hc_))
    all_goals refine OpsH.he (HE.callB rfl rfl (fun w' hw' => hfw w' hw'.at)) rfl ?_
    all_goals rintro fb hfb
    all_goals cases fb
    all_goals repeat' (first | refine wau ?_ | (refine wspl ?_ ?_ <;> intro hc_))
    all_goals first | omega | refine FinH.ret1 rfl rfl fun w' hw' => ⟨⟨_, rfl, fun h_ => ?_⟩, hw'.at⟩
    all_goals first | (cases h_; done) | skip
    all_goals (have hh_ := of_decide_eq_true h_; refine ⟨hfb rfl, by omega, by omega, fun k hk => ?_⟩; have := hall k hk; omega)
section
variable {n : Nat} {E : Env} {M : List Res} {R : List (World → Prop)} {f : Nat} {args : List Operand} {tys : Array TypeId} {vs : List Value}
theorem HE.callSp {m : ApiModule} (hf : G.fb[f]? = some true) (ha : evs E args = some vs) (hc : ∀ w, Ok M R w → Calls G.P f vs.toArray w (SpacePost m w)) :
    HE n (.call ⟨.value (.func f), args.toArray, tys⟩) E M R (fun _ : Nat × Value => True) (fun x => x.2) (fun _ => M) (fun x => (fun w => SpaceRd x.1 m w x.2) :: R) :=
  ⟨fun w hw => (Eff.call hf ha (hc w hw) (fun e w' h => by obtain ⟨⟨x, e1, _⟩, _⟩ := h; exact ⟨_, e1⟩)).mono fun v w' ⟨⟨x, e1, hv⟩, hx⟩ => by
    cases e1
    refine ⟨(w.heap.size, v), trivial, rfl, (hw.ext hx).add fun w2 h2 => hv.chg h2 fun k hk hm => ?_⟩
    obtain ⟨q, hq, hk'⟩ := hm
    have := (hw.m q hq).2 k hk'; omega⟩
theorem HE.callD0 {β : Type} {V : (Nat → Prop) → World → β → Prop} (hV : FrD V) {tf : β → Value} (hf : G.fb[f]? = some true) (ha : evs E args = some vs) (hc : ∀ w, Ok M R w → Calls G.P f vs.toArray w (Gives V tf (fun _ => False) w)) :
    HE n (.call ⟨.value (.func f), args.toArray, tys⟩) E M R (fun _ : (Nat → Prop) × β => True) (fun x => tf x.2) (fun _ => M) (fun x => (fun w => V x.1 w x.2) :: R) :=
  ⟨fun w hw => (Eff.call hf ha (hc w hw) (fun e w' h => by obtain ⟨⟨x, e1, _⟩, _⟩ := h; exact ⟨_, e1⟩)).mono fun v w' ⟨⟨x, e1, hv⟩, hx⟩ => by
    cases e1
    refine ⟨(fun k => False ∨ w.heap.size ≤ k, x), trivial, rfl, (hw.ext hx).add fun w2 h2 => hV hv h2 fun k _ hk hm => ?_⟩
    rcases hk with hk | hk
    · exact hk
    · obtain ⟨q, hq, hk'⟩ := hm
      have := (hw.m q hq).2 k hk'; omega⟩
end
theorem CtlPostE.good {M0 : List Res} {cp : Nat} {r : Ctl × Int} {w w' : World} {e : Ending} (h : CtlPostE M0 cp r w e w') (hr : r.2 = 0) : MutPost M0 w (fun _ : CtV => .int .i64 0) (fun v' => v'.Good r.1) (ctlM cp r.1) e w' := by
  obtain ⟨x, e1, h2, h3, h4, h5⟩ := h
  dsimp only at h3 h5
  rw [if_pos hr] at h3
  simp only [if_pos hr] at h5
  rw [hr] at e1
  exact ⟨x, e1, h2 hr, h3, h4, h5⟩
theorem CtlPostE.bad {M0 : List Res} {cp : Nat} {r : Ctl × Int} {w w' : World} {e : Ending} (h : CtlPostE M0 cp r w e w') {q : Int} (hr : r.2 = q) (hq : q ≠ 0) : MutPost M0 w (fun _ : CtV => .int .i64 q) (fun _ => True) (fun _ => []) e w' := by
  obtain ⟨x, e1, h2, h3, h4, h5⟩ := h
  dsimp only at h3 h5
  rw [if_neg (by omega)] at h3
  simp only [if_neg (show ¬ r.2 = 0 by omega)] at h5
  rw [hr] at e1
  exact ⟨x, e1, trivial, h3, h4, h5⟩
theorem Ok.newB {M : List Res} {R : List (World → Prop)} {w0 w : World} {b T : Nat} {cs : List Value} (h : Ok M R w) (hR : Ext w0 ∈ R) (hm : Res.blk b cs T ∈ M) : Blk w b cs T ∧ w0.heap.size ≤ b := by
  refine ⟨(h.m _ hm).1, ?_⟩
  rcases Nat.lt_or_ge b w0.heap.size with hlt | hge
  · exact (h.origin (S := fun _ => False) hR b ⟨_, hm, rfl⟩ hlt).elim
  · exact hge
theorem cells_of {w : World} {b T : Nat} {cs : List Value} (h : Blk w b cs T) {s : Nat} (hs : cs.length = s) : ∀ j, j < s → w.cell? ⟨b, 0 + 0 * s + j, none⟩ = cs[j]? := fun j hj => by
  rw [Nat.zero_mul, Nat.zero_add, List.getElem?_eq_getElem (by omega)]
  exact h.cell (List.getElem?_eq_getElem (by omega))
def m23 : ApiModule := ⟨[⟨[2], []⟩], [], [], [⟨3, ⟨0, 0, false⟩⟩], [], [⟨⟨1, false⟩, []⟩], [], false, 0, [], [], []⟩
theorem ModV.fr (m : ApiModule) : FrD (fun D w cs => ApiModuleV D w cs m) := fun h hc hd => h.chg hc hd
theorem law23_module (w : World) : Calls G.P 15 #[] w (Gives (fun D w cs => ApiModuleV D w cs m23) (fun cs : List Value => .agg cs.toArray) (fun _ => False) w) := by
  refine enterH (l := []) Tryz.func15 rfl Tryz.ntmps15 rfl (Ok.start w) ?_
  refine wgh ?_
  refine OpsH.alloc (t := TMod) [.slice none 0 0, .slice none 0 0, .slice none 0 0, .slice none 0 0, .slice none 0 0, .slice none 0 0, .slice none 0 0, .bool false, .int .i64 0, .slice none 0 0, .slice none 0 0, .slice none 0 0] rfl rfl rfl fun b0 => ?_
  repeat' (first | refine wau ?_ | (refine qbsq fun b_ _ => ?_) | (refine wspl ?_ ?_ <;> intro hc_))
  rename_i k1 _ k2 _ k3 _ _
  refine FinH.ret1c (.inl rfl) rfl rfl rfl rfl rfl wup rfl ?_
  intro w' hw'
  obtain ⟨B2, n2⟩ := hw'.newB (b := k2) (w0 := w) wmem wmm
  obtain ⟨B3, n3⟩ := hw'.newB (b := k3) (w0 := w) wmem wmm
  obtain ⟨B4, n4⟩ := hw'.newB (b := b_) (w0 := w) wmem wmm
  refine ⟨⟨_, rfl, _, _, _, _, _, _, _, _, _, _, rfl, ⟨_, _, rfl, by decide, .inr ⟨k2, 0, rfl, .inr n2, fun i hi => ?_⟩⟩, SlR.nil, SlR.nil, ⟨_, _, rfl, by decide, .inr ⟨b_, 0, rfl, .inr n4, fun i hi => ?_⟩⟩, SlR.nil, ⟨_, _, rfl, by decide, .inr ⟨k3, 0, rfl, .inr n3, fun i hi => ?_⟩⟩, SlR.nil, SlR.nil, SlR.nil, SlR.nil, by show R64 0; unfold R64; omega⟩, hw'.at⟩
  · obtain rfl : i = 0 := by have : i < 1 := hi; omega
    exact ⟨[.slice (some ⟨k1, 0, none⟩) 1 1, .slice none 0 0], ⟨_, _, rfl, blk_ints [2] hw' wmem (hD := fun _ h => .inr h), IntsR.nil0 _ _⟩, cells_of B2 rfl⟩
  · obtain rfl : i = 0 := by have : i < 1 := hi; omega
    exact ⟨[.int .i64 3, .int .i64 0, .int .i64 0, .bool false], ⟨rfl, by show R64 3; unfold R64; omega, by show R64 0; unfold R64; omega, by show R64 0; unfold R64; omega⟩, cells_of B4 rfl⟩
  · obtain rfl : i = 0 := by have : i < 1 := hi; omega
    exact ⟨[.int .i64 1, .bool false, .slice none 0 0], ⟨_, rfl, ⟨_, 0, rfl, by decide, .inl rfl⟩, by show R64 1; unfold R64; omega⟩, cells_of B3 rfl⟩
def xSet : Ins := { op := 36, a := 0, b := 0, n := 0, kind := 0, val := 0, index := 0, types := [], labels := [] }
def xCon : Ins := { op := 65, a := 0, b := 0, n := 5, kind := 0, val := 0, index := 0, types := [], labels := [] }
def xInd : Ins := { op := 17, a := 0, b := 0, n := 0, kind := 0, val := 0, index := 0, types := [], labels := [] }
theorem set_T : typedK m23 [] xSet = (noF, 18) := by kernel_rfl
theorem con_T : typedK m23 [] xCon = (⟨[], [1]⟩, 0) := by kernel_rfl
theorem ind_W : wantsP m23 [] xInd = (⟨[2, 1], []⟩, 0) := by kernel_rfl
theorem m23_T : TyB m23 := fun f hf => by
  have : f = ⟨[2], []⟩ := by simpa [m23] using hf
  subst this; decide
theorem ap_nil {M : List Res} {R : List (World → Prop)} {w : World} {B : Nat} {m : ApiModule} {sv : Value} (x : Ins) (hx : x.types = []) (hx2 : x.labels = []) (h : Ok M R w) (he : Env0 ∈ R) (hs : (fun w => SpaceRd B m w sv) ∈ R) : Ok M (ApR B (fun _ => False) m sv ([] : List Int) (.slice none ([] : List Int).length 0) x (.slice none x.types.length 0) (.slice none x.labels.length 0)) w := by
  refine ⟨h.m, h.d, fun p hp w2 h2 => ?_⟩
  simp only [ApR, List.mem_cons, List.not_mem_nil, or_false] at hp
  rcases hp with rfl | rfl | rfl | rfl | rfl
  · exact h.r _ he w2 h2
  · exact h.r _ hs w2 h2
  · exact IntsR.nil0 _ _
  · dsimp only; rw [hx]; exact IntsR.nil0 _ _
  · dsimp only; rw [hx2]; exact IntsR.nil0 _ _
abbrev c23 : Ctl := (applyT (newC [1]) (⟨[], [1]⟩, 0)).1
theorem c23_ok : (applyT (newC [1]) (⟨[], [1]⟩, 0)).2 = 0 := by kernel_rfl
theorem c23_len : c23.stk.ts.length = 1 := by kernel_rfl
set_option maxHeartbeats 8000000 in
theorem law23_alive (w : World) (h0 : Env0 w) : Calls G.P 10 #[] w fun e w' => e = .returned (.bool true) ∧ Ext w w' := by
  refine enterH (l := []) Tryz.func10 rfl Tryz.ntmps10 rfl (Ok.start w) ?_
  refine CdH.der Env0 (fun w' h => h0.ext (h (Ext w) wmem)) ?_
  repeat' (first | refine wau ?_ | (refine wspl ?_ ?_ <;> intro hc_))
  refine OpsH.he (HE.callD0 (V := fun D w (cs : List Value) => ApiModuleV D w cs m23) (tf := fun cs => .agg cs.toArray) (ModV.fr m23) rfl rfl (fun w' hw' => law23_module w')) rfl ?_
  rintro ⟨D0, cs⟩ _
  refine OpsH.he (HE.callSp (m := m23) rfl rfl (fun w' hw' => space_Of D0 m23 cs w' (hw'.get (p := fun w => ApiModuleV D0 w cs m23) wmem) (by unfold LensQ; decide))) rfl ?_
  rintro ⟨B, sv⟩ _
  repeat' (first | refine wau ?_ | (refine wspl ?_ ?_ <;> intro hc_))
  refine OpsH.he (HE.callN (M0 := []) Rms.nil rfl rfl (fun w' hw' => ctrl_New (fun _ => False) [] (.slice none 0 0) w' (IntsR.nil0 _ _))) rfl ?_
  rintro ⟨cp, sp, tv, pv, bv, rv, fv, D, L⟩ hg
  dsimp only [ctlM, stkM, List.cons_append, List.nil_append] at hg ⊢
  repeat' (first | refine wau ?_ | (refine wspl ?_ ?_ <;> intro hc_))
  refine OpsH.he (HE.callN (M0 := ctlM cp (newC []) ⟨sp, tv, pv, bv, rv, fv, D, L⟩) wrms rfl rfl (fun w' hw' => by
    have := rule_Apply_typed B (fun _ => False) cp (newC []) ⟨sp, tv, pv, bv, rv, fv, D, L⟩ m23 [] sv xSet none none none 0 0 0 w' (ap_nil xSet rfl rfl (hw'.subP wsp (fun _ h => h)) wmem wmem) hg (newC_wf _) (by kernel_rfl) (by kernel_rfl) m23_T (by rw [set_T]; decide)
    exact this.mono fun _ _ h => h.bad (q := 18) (by rw [set_T]; rfl) (by decide))) rfl ?_
  rintro _ _
  dsimp only [List.nil_append]
  repeat' (first | refine wau ?_ | (refine wspl ?_ ?_ <;> intro hc_))
  refine OpsH.he (HE.bsl rfl rfl rfl rfl rfl wcel (by rfl) (by rfl)) rfl ?_
  intro b1 _
  refine OpsH.he (HE.callN (M0 := []) Rms.nil rfl rfl (fun w' hw' => ctrl_New (fun k => k = b1) [1] (.slice (some ⟨b1, 0, none⟩) 1 1) w' (blk_ints1 (hw'.m (.blk b1 [.int .i64 1] 37) wmm).1))) rfl ?_
  rintro ⟨cp2, sp2, tv2, pv2, bv2, rv2, fv2, D2, L2⟩ hg2
  dsimp only [ctlM, stkM, List.cons_append, List.nil_append] at hg2 ⊢
  repeat' (first | refine wau ?_ | (refine wspl ?_ ?_ <;> intro hc_))
  refine OpsH.he (HE.callN (M0 := ctlM cp2 (newC [1]) ⟨sp2, tv2, pv2, bv2, rv2, fv2, D2, L2⟩) wrms rfl rfl (fun w' hw' => by
    have := rule_Apply_typed B (fun _ => False) cp2 (newC [1]) ⟨sp2, tv2, pv2, bv2, rv2, fv2, D2, L2⟩ m23 [] sv xCon none none none 0 0 0 w' (ap_nil xCon rfl rfl (hw'.subP wsp (fun _ h => h)) wmem wmem) hg2 (newC_wf _) (by kernel_rfl) (by kernel_rfl) m23_T (by rw [con_T]; decide)
    rw [con_T] at this
    exact this.mono fun _ _ h => h.good c23_ok)) rfl ?_
  rintro ⟨sp3, tv3, pv3, bv3, rv3, fv3, D3, L3⟩ hg3
  dsimp only [ctlM, stkM, List.cons_append, List.nil_append] at hg3 ⊢
  repeat' (first | refine wau ?_ | (refine wspl ?_ ?_ <;> intro hc_))
  refine OpsH.he (HE.sgW1 (r := (⟨[2, 1], []⟩, 0)) rfl rfl (fun w' hw' => by
    have := rule_Wants B (fun _ => False) m23 [] sv xInd none none none 0 0 0 w' (hw'.get (p := Env0) wmem) (hw'.get (p := fun w => SpaceRd B m23 w sv) wmem) (IntsR.nil0 _ _) (IntsR.nil0 _ _) (IntsR.nil0 _ _) m23_T
    rw [ind_W] at this; exact this)) rfl ?_
  rintro ⟨D4, p4, c4, q4, d4⟩ _
  dsimp only
  refine OpsH.pure (φ := ∃ b o, p4 = some ⟨b, o, none⟩) (fun w' hw' => ?_) ?_
  · have h1 : IntsR D4 w' (.slice p4 2 c4) [2, 1] := (hw'.get (p := SgR ⟨[2, 1], []⟩ ⟨D4, p4, c4, q4, d4⟩) wmem).1
    obtain ⟨b, o, e, -⟩ := h1.at (i := 0) (by decide)
    exact ⟨b, o, e⟩
  rintro ⟨b5, o5, rfl⟩
  have hcell : ∀ w2, SgR ⟨[2, 1], []⟩ ⟨D4, some ⟨b5, o5, none⟩, c4, q4, d4⟩ w2 → w2.cell? ⟨b5, o5 + 0, none⟩ = some (.int .i64 2) ∧ w2.cell? ⟨b5, o5 + 1, none⟩ = some (.int .i64 1) := fun w2 h => by
    have h1 : IntsR D4 w2 (.slice (some ⟨b5, o5, none⟩) 2 c4) [2, 1] := h.1
    obtain ⟨b, o, e, -, hc⟩ := h1.at (i := 0) (by decide)
    cases e
    exact ⟨hc 0 (by decide), hc 1 (by decide)⟩
  refine OpsH.der (cl b5 (o5 + 0) (.int .i64 2)) (fun w2 h => (hcell w2 (h _ wmem)).1) ?_
  refine OpsH.der (cl b5 (o5 + 1) (.int .i64 1)) (fun w2 h => (hcell w2 (h (SgR ⟨[2, 1], []⟩ ⟨D4, some ⟨b5, o5, none⟩, c4, q4, d4⟩) wmem)).2) ?_
  repeat' (first | refine wau ?_ | (refine qal2q fun b_ => ?_) | (refine wspl ?_ ?_ <;> intro hc_))
  refine OpsH.call1g rfl rfl rfl rfl (fun w' hw' => ctrl_Stack cp2 ⟨sp3, 0, none⟩ w' (hw'.c1 wup (by rfl))) ?_
  refine OpsH.call1g (v := .int .i64 1) rfl rfl rfl rfl (fun w' hw' => by
    have := stack_Len sp3 c23.stk (tv3, pv3) w' (hw'.subP wsp (fun p hp => absurd hp (by simp))) (by decide)
    rw [c23_len] at this; exact this) ?_
  repeat' (first | refine wau ?_ | (refine OpsH.isG ?_; refine OpsH.isIdx ?_; refine OpsH.yg (by rfl) (Yl.idx1 (i := 0) rfl rfl rfl rfl rfl rfl (by decide)) rfl ?_) | (refine OpsH.isG ?_; refine OpsH.isIdx ?_; refine OpsH.yg (by rfl) (Yl.idx1 (i := 1) rfl rfl rfl rfl rfl rfl (by decide)) rfl ?_) | (refine wspl ?_ ?_ <;> intro hc_))
  all_goals exact FinH.ret1 rfl rfl fun w' hw' => ⟨rfl, hw'.at⟩
section
variable {n : Nat} {E : Env} {C : World → Prop} {x y : Operand} {t t2 : TypeId}
end
def NilP (v : Value) (w : World) : Prop := v = .pointer none ∨ ∃ b, v = .pointer (some ⟨b, 0, none⟩) ∧ w.cell? ⟨b, 0, none⟩ = some (.pointer none)
theorem NilP.ext {v : Value} {w w' : World} (h : NilP v w) (hx : Ext w w') : NilP v w' := by
  rcases h with h | ⟨b, h, hc⟩
  · exact .inl h
  · exact .inr ⟨b, h, hx.cell hc⟩
structure InV (w : World) (x : Ins) (tv bv : Value) : Prop where
  t : IntsR (fun _ => True) w tv x.types
  l : IntsR (fun _ => True) w bv x.labels
  op : R64 x.op
  a : R64 x.a
theorem InV.ext {w w' : World} {x : Ins} {tv bv : Value} (h : InV w x tv bv) (hx : Ext w w') : InV w' x tv bv := ⟨h.t.chg hx (fun _ _ _ h => h), h.l.chg hx (fun _ _ _ h => h), h.op, h.a⟩
theorem body_one {w : World} {b T : Nat} {x : Ins} {pt pl : Option Addr} {ct cl c : Nat} (h : Blk w b [Value.int .i64 x.op, Value.int .i64 x.a, Value.int .i64 x.b, Value.int .u64 x.n, Value.int .i64 x.kind, Value.int .i64 x.val, Value.int .i64 x.index, Value.slice pt x.types.length ct, Value.slice pl x.labels.length cl] T) (hx : InV w x (.slice pt x.types.length ct) (.slice pl x.labels.length cl)) : BodyR (fun _ => True) w (.slice (some ⟨b, 0, none⟩) 1 c) [x] := by
  refine ⟨_, c, rfl, by show 1 ≤ 1353247013952; omega, .inr ⟨b, 0, rfl, trivial, fun i hi => ?_⟩⟩
  obtain rfl : i = 0 := by have : i < 1 := hi; omega
  have hc : ∀ j v, ([Value.int .i64 x.op, Value.int .i64 x.a, Value.int .i64 x.b, Value.int .u64 x.n, Value.int .i64 x.kind, Value.int .i64 x.val, Value.int .i64 x.index, Value.slice pt x.types.length ct, Value.slice pl x.labels.length cl] : List Value)[j]? = some v → w.cell? ⟨b, 0 + 0 * 9 + j, none⟩ = some v := fun j v hj => by rw [Nat.zero_mul, Nat.zero_add]; exact h.cell hj
  exact ⟨hc 0 _ rfl, hc 1 _ rfl, hc 2 _ rfl, hc 3 _ rfl, hc 4 _ rfl, hc 5 _ rfl, hc 6 _ rfl, ⟨_, hc 7 _ rfl, hx.t⟩, ⟨_, hc 8 _ rfl, hx.l⟩, hx.op, hx.a⟩
end Go.Proofs.YtgbgnipidakdhaaGreatDoor
