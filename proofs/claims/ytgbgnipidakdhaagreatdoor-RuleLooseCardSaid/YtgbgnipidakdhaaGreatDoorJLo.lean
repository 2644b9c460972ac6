/- Layer 23: rule.Apply of unreachable; signatures told by rule.Wants; an operand stack that is polymorphic. -/
import Derived.Test.YtgbgnipidakdhaaGreatDoorJNb
import Derived.Test.YtgbgnipidakdhaaGreatDoorJTt
namespace Go.Proofs.YtgbgnipidakdhaaGreatDoor
open Go.RowKit
set_option maxRecDepth 100000
set_option maxHeartbeats 4000000 in
theorem rule_Apply_unr (B : Nat) (F : Nat → Prop) (cp : Nat) (c : Ctl) (v : CtV) (m : ApiModule) (locals : List Int) (sv : Value) (x : Ins) (lp pt pl : Option Addr) (lc ct cl : Nat) (w : World) (hw : Ok (ctlM cp c v) (ApR B F m sv locals (.slice lp locals.length lc) x (.slice pt x.types.length ct) (.slice pl x.labels.length cl)) w) (hg : v.Good c) (hwf : c.Wf) (hb : c.broken = 0) (hp : plainK x = true) (hop : x.op = 0) : Calls G.P 16 #[.pointer (some ⟨cp, 0, none⟩), sv, .slice lp locals.length lc, .agg #[Value.int .i64 x.op, Value.int .i64 x.a, Value.int .i64 x.b, Value.int .u64 x.n, Value.int .i64 x.kind, Value.int .i64 x.val, Value.int .i64 x.index, Value.slice pt x.types.length ct, Value.slice pl x.labels.length cl]] w (CtlPostE (ctlM cp c v) cp (deadC c, 0) w) := by
  refine enterH (l := [_, _, _, _]) Tryz.func16 rfl Tryz.ntmps16 rfl (Ok.startM hw) ?_
  generalize hS : Mb (ctlM cp c v) = S0
  unfold ApR
  obtain ⟨sp, tv, pv, bv, rv, fv, D, L⟩ := v
  dsimp only [ctlM, stkM, List.cons_append, List.nil_append]
  have hno := fun w' M (hw' : Ok M _ w') => none_of (B := B) (F := F) (m := m) (locals := locals) (sv := sv) (lv := .slice lp locals.length lc) (x := x) (pt := pt) (pl := pl) (ct := ct) (cl := cl) hw'
  rw [hp] at hno
  repeat' (first | refine wau ?_ | (refine OpsH.isBox ?_; refine OpsH.box _ rfl rfl rfl fun b_ => ?_) | (refine OpsH.isBin ?_; refine OpsH.y_ (Yl.eqPN Tryz.underlying62 rfl rfl) rfl ?_) | (refine OpsH.isCall (f := 23) ?_; refine OpsH.call1 rfl rfl rfl (fun w' hw' => ctrl_Stack cp ⟨sp, 0, none⟩ w' (hw'.c1 wup (by rfl))) ?_) | (refine OpsH.isCall (f := 35) ?_; refine OpsH.call1 rfl rfl rfl (fun w' hw' => hno w' _ (hw'.sub (List.Sublist.refl _) wsr)) ?_) | (refine wspl ?_ ?_ <;> intro hc_))
  refine OpsH.he (HE.callN (M0 := ctlM cp c ⟨sp, tv, pv, bv, rv, fv, D, L⟩) wrms rfl rfl (fun w' hw' => ctrl_Dead cp c ⟨sp, tv, pv, bv, rv, fv, D, L⟩ w' (hw'.subP wsp (fun p hp => absurd hp (by simp))) hg hb hwf)) rfl ?_
  rintro ⟨sp2, tv2, pv2, bv2, rv2, fv2, D2, L2⟩ hg2
  dsimp only [ctlM, stkM, List.cons_append, List.nil_append] at hg2 ⊢
  repeat' (first | refine wau ?_ | (refine wspl ?_ ?_ <;> intro hc_))
  exact FinH.ret1 rfl rfl fun w' hw' => CtlPostE.ok (r := (deadC c, 0)) (⟨sp2, tv2, pv2, bv2, rv2, fv2, D2, L2⟩ : CtV) rfl hg2 hS hw' (by dsimp only [ctlM, stkM, List.cons_append, List.nil_append]; exact wsp) wmem
/-- what rule.Apply needs, where nothing of the arguments has been changed -/
theorem ap_ext {M : List Res} {R : List (World → Prop)} {w0 w : World} {B : Nat} {m : ApiModule} {sv lv tv bv : Value} {locals : List Int} {x : Ins} (h : Ok M R w) (hR : Ext w0 ∈ R) (h0 : Env0 w0) (hs : (fun w => SpaceRd B m w sv) ∈ R) (hl : IntsR (fun _ => True) w0 lv locals) (ht : IntsR (fun _ => True) w0 tv x.types) (hb : IntsR (fun _ => True) w0 bv x.labels) : Ok M (ApR B (fun _ => True) m sv locals lv x tv bv) w := by
  refine ⟨h.m, h.d, fun p hp w2 h2 => ?_⟩
  have hx : Ext w0 w2 := h.r _ hR w2 h2
  simp only [ApR, List.mem_cons, List.not_mem_nil, or_false] at hp
  rcases hp with rfl | rfl | rfl | rfl | rfl
  · exact h0.ext hx
  · exact h.r _ hs w2 h2
  · exact hl.chg hx (fun _ _ _ h => h)
  · exact ht.chg hx (fun _ _ _ h => h)
  · exact hb.chg hx (fun _ _ _ h => h)
theorem wantsP_ok {m : ApiModule} {locals : List Int} {x : Ins} {f : ApiFunc} (h : wantsP m locals x = (f, 0)) : plainK x = true ∧ apartK x.op = false ∧ typedK m locals x = (f, 0) := by
  unfold wantsP at h
  cases hp : plainK x with
  | false => rw [hp, if_pos rfl] at h; cases h
  | true =>
    rw [hp, if_neg (by decide)] at h
    cases ha : apartK x.op with
    | true => rw [ha, if_pos rfl] at h; cases h
    | false => rw [ha, if_neg (by decide)] at h; exact ⟨rfl, rfl, h⟩
theorem wantsP_err {m : ApiModule} {locals : List Int} {x : Ins} {f : ApiFunc} {e : Int} (h : wantsP m locals x = (f, e)) (h1 : e ≠ 1) : (plainK x = false ∧ e = 10) ∨ (plainK x = true ∧ apartK x.op = false ∧ typedK m locals x = (f, e)) := by
  unfold wantsP at h
  cases hp : plainK x with
  | false => rw [hp, if_pos rfl] at h; cases h; exact .inl ⟨rfl, rfl⟩
  | true =>
    rw [hp, if_neg (by decide)] at h
    cases ha : apartK x.op with
    | true => rw [ha, if_pos rfl] at h; cases h; exact absurd rfl h1
    | false => rw [ha, if_neg (by decide)] at h; exact .inr ⟨rfl, rfl, h⟩
/-- a polymorphic part that holds nothing gives whatever is asked of it -/
theorem leftK_loose {s : Stk} (h0 : s.at_ = 0) (hl : s.loose = true) : ∀ l : List Int, leftK s l 0 = (0, 0)
  | [] => rfl
  | x :: r => by rw [leftK, if_pos (by rw [h0]; rfl), if_pos hl]; exact leftK_loose h0 hl r
theorem loose_turn (f : ApiFunc) : turnK (deadC (newC [])).stk f = (pushK (deadC (newC [])).stk f.results, 0) := by
  have hs : (deadC (newC [])).stk = ⟨[], [(0, false), (0, true)], 0⟩ := rfl
  rw [hs]
  have hw : wantK ⟨[], [(0, false), (0, true)], 0⟩ f.params = (⟨[], [(0, false), (0, true)], 0⟩, 0) := by
    unfold wantK
    dsimp only
    rw [show (([] : List Int).length) = 0 from rfl, leftK_loose rfl rfl]
    rfl
  unfold turnK
  rw [hw]
  rfl
end Go.Proofs.YtgbgnipidakdhaaGreatDoor
/- Guarded operations in a region gone through as a tree, by the walker. -/
namespace Go.Proofs.YtgbgnipidakdhaaGreatDoor
open Go.RowKit
set_option maxRecDepth 100000
section
variable {l : List Oper} {Q : Exit → Act → World → Prop} {Mc : List Res} {Rc : List (World → Prop)} {n fuel : Nat} {listed : Array Bool} {E : Env} {M : List Res} {R : List (World → Prop)} {d : Nat} {op : Op} {ty : TypeId} {pos : String} {aft : Array Edge} {v : Value} {β : Type} {φ : β → Prop} {vf : β → Value} {Mf : β → List Res} {Rf : β → List (World → Prop)}
theorem OpsT.qG (k : Nat) {j : Nat} {b : Bool} (hk : l[k]? = some ⟨some d, op, ty, pos, aft, some (j, b)⟩) (hc : (Region.noSelect l.toArray && (Region.ready .any l.toArray listed).contains k && Region.free .any l.toArray listed k && isQ op && Nat.blt d n) = true) (hg : gdv l.toArray E j = some b) (hy : Yl G n op E (Ok Mc Rc) v)
    (h : OpsT l Q Mc Rc n fuel (listed.setIfInBounds k true) ((d, v) :: E) M R) : OpsT l Q Mc Rc n (fuel + 1) listed E M R := ⟨fun w hw hC hcl a ha => by
  simp only [Bool.and_eq_true] at hc
  obtain ⟨⟨⟨⟨h1, h2⟩, h3⟩, -⟩, h5⟩ := hc
  have hkl : k < l.length := (List.getElem?_eq_some_iff.1 hk).1
  have ho : l.toArray[k]? = some ⟨some d, op, ty, pos, aft, some (j, b)⟩ := by simpa using hk
  have hkr : k ∈ Region.ready .any l.toArray listed := by simpa using h2
  exact wpAnyM_first ho (Region.noSelect_spec h1) (fun _ _ _ _ => no_z) (by omega) fuel listed a w hC hcl (Region.free_spec ho h3) hkr (.inl ⟨by simp [Region.wanted, yielded_of ha hg], fun w hw => hy.h w hw a ha _ _ _ _ _⟩) (h.h w hw hC (hcl.set hkr) _ (ha.put (by simpa using h5) v))⟩
theorem StepT.heG {i j : Nat} {b : Bool} (hi : l[i]? = some ⟨some d, op, ty, pos, aft, some (j, b)⟩) (hd : Nat.blt d n = true) (hg : gdv l.toArray E j = some b) (he : HE n op E M R φ vf Mf Rf) (hM : ∀ x, Mc.Sublist (Mf x)) (hR : ∀ x p, p ∈ Rc → p ∈ Rf x) (h : ∀ x, φ x → OpsT l Q Mc Rc n fuel (listed.setIfInBounds i true) ((d, vf x) :: E) (Mf x) (Rf x)) : StepT l Q Mc Rc n fuel listed i E M R := ⟨fun w hw hC hcl hr a ha => by
  have ho : l.toArray[i]? = some ⟨some d, op, ty, pos, aft, some (j, b)⟩ := by simpa using hi
  unfold mOp
  simp only [ho]
  have hw' : Region.wanted ⟨some d, op, ty, pos, aft, some (j, b)⟩ (yielded l.toArray a.tmps) = true := by simp [Region.wanted, yielded_of ha hg]
  simp only [hw', if_true]
  exact effUp_mono ((he.h w hw).h a ha _ _ _ _ _) fun v w2 ⟨x, h1, h2, h3⟩ => by
    subst h2
    exact ⟨.inr (h3.sub (hM x) (hR x)), (h x h1).h w2 h3 (h3.sub (hM x) (hR x)) (hcl.set hr) _ (ha.put (by simpa using hd) _)⟩⟩
theorem OpsT.qGa (k : Nat) {j : Nat} {b : Bool} (hk : l[k]? = some ⟨some d, op, ty, pos, aft, some (j, b)⟩)
    (h : OpsT l Q Mc Rc n fuel (listed.setIfInBounds k true) ((d, v) :: E) M R) (hc : (Region.noSelect l.toArray && (Region.ready .any l.toArray listed).contains k && Region.free .any l.toArray listed k && isQ op && Nat.blt d n) = true := by decide +kernel) (hg : gdv l.toArray E j = some b := by rfl) (hy : Yl G n op E (Ok Mc Rc) v := by (first | exact Yl.move rfl | exact Yl.assign rfl | (apply Yl.isBin; (first | (apply Yl.isBin (bo := .lss); (first | exact Yl.lssT rfl rfl (by omega) | exact Yl.lssF rfl rfl (by omega))) | (apply Yl.isBin (bo := .eql); (first | exact Yl.eqlT rfl rfl (by omega) | exact Yl.eqlF rfl rfl (by omega))) | (apply Yl.isBin (bo := .neq); (first | exact Yl.neqT rfl rfl (by omega) | exact Yl.neqF rfl rfl (by omega))) | (apply Yl.isBin (bo := .leq); (first | exact Yl.leqT rfl rfl (by omega) | exact Yl.leqF rfl rfl (by omega))) | (apply Yl.isBin (bo := .gtr); (first | exact Yl.gtrT rfl rfl (by omega) | exact Yl.gtrF rfl rfl (by omega))) | (apply Yl.isBin (bo := .geq); (first | exact Yl.geqT rfl rfl (by omega) | exact Yl.geqF rfl rfl (by omega))) | exact Yl.add rfl rfl (by omega) | exact Yl.sub rfl rfl (by omega) | exact Yl.shr1 rfl rfl | exact Yl.eqNil rfl rfl rfl rfl | exact Yl.neqb Tryz.underlying4 rfl rfl | exact Yl.eqlb Tryz.underlying4 rfl rfl | exact Yl.eqS rfl rfl | exact Yl.neqS rfl rfl | exact Yl.addS rfl rfl (by omega) | exact Yl.addw rfl rfl | exact Yl.mulw rfl rfl)) | (apply Yl.isField; (first | exact Yl.fieldZ rfl rfl rfl | exact Yl.field0 rfl rfl rfl | exact Yl.field rfl rfl rfl)) | (apply Yl.isLoad; (first | exact Yl.loadH rfl rfl rfl (by intro w_; repeat (first | ((with_reducible apply Ld.blk); rfl) | (with_reducible exact Ld.cl) | ((with_reducible apply Ld.ent); with_reducible assumption) | (exact Ld.cs 0 rfl rfl) | (exact Ld.cs _ rfl rfl) | apply Ld.tailM | apply Ld.tailR)) | exact Yl.loadB rfl rfl rfl rfl (by repeat (first | with_reducible exact Up.head | apply Up.tail)) | exact Yl.loadP rfl rfl rfl rfl (by repeat (first | with_reducible exact Up.head | apply Up.tail)) (by repeat (first | exact SubT.zero | apply SubT.succ | apply SubC.here | apply SubC.drop)) | exact Yl.loadC rfl rfl rfl (by repeat (first | with_reducible exact List.mem_cons_self | apply List.mem_cons_of_mem)) rfl)) | (apply Yl.isIdx; (first | exact Yl.idx1 rfl rfl rfl rfl rfl rfl (by omega) | exact Yl.idx rfl rfl rfl rfl rfl rfl (by omega))) | exact Yl.len rfl rfl rfl | exact Yl.extract rfl rfl | exact Yl.pickT rfl rfl | exact Yl.pickF rfl rfl | exact Yl.nilCheck rfl | exact Yl.not rfl | exact Yl.convI rfl rfl rfl rfl rfl (by omega) | exact Yl.convU rfl rfl rfl rfl rfl (by omega) | exact Yl.makeFunc rfl rfl | exact Yl.build0 rfl rfl | exact Yl.buildC rfl rfl rfl (by repeat (first | exact Cells.nil | exact App.nil | (with_reducible apply Cells.agg) | apply Cells.one | apply App.cons)) (by rfl) | exact Yl.buildF rfl rfl rfl (by repeat (first | exact fill0 | (apply fill1; rfl; rfl; rfl; (repeat (first | exact SetL.zero | apply SetL.succ))))) | exact Yl.buildP rfl rfl rfl rfl | exact Yl.sliceSHi Tryz.underlying9 rfl rfl rfl (by omega) | exact Yl.sliceSLo Tryz.underlying9 rfl rfl rfl (by omega) | exact Yl.sliceSLH Tryz.underlying9 rfl rfl rfl rfl rfl (by omega) (by omega) | exact Yl.sliceHi rfl rfl rfl rfl rfl rfl (by omega) | exact Yl.lenS Tryz.underlying9 rfl)) : OpsT l Q Mc Rc n (fuel + 1) listed E M R := OpsT.qG k hk hc hg hy h
def isClGB (l : List Oper) (i f : Nat) : Bool := match l[i]? with | some ⟨some _, .call ⟨.value (.func f'), _, _⟩, _, _, _, some _⟩ => Nat.beq f' f | _ => false
theorem StepT.isClG {i : Nat} (f : Nat) (h : StepT l Q Mc Rc n fuel listed i E M R) (_ : isClGB l i f = true := by decide +kernel) : StepT l Q Mc Rc n fuel listed i E M R := h
end
theorem wgtg {g g' : Prop} (h : g') (hw : Hold g' → g := by (intro hk_; (first | refine OpsT.qGa 0 rfl ?_ | refine OpsT.qGa 1 rfl ?_ | refine OpsT.qGa 2 rfl ?_ | refine OpsT.qGa 3 rfl ?_ | refine OpsT.qGa 4 rfl ?_ | refine OpsT.qGa 5 rfl ?_ | refine OpsT.qGa 6 rfl ?_ | refine OpsT.qGa 7 rfl ?_ | refine OpsT.qGa 8 rfl ?_ | refine OpsT.qGa 9 rfl ?_ | refine OpsT.qGa 10 rfl ?_ | refine OpsT.qGa 11 rfl ?_ | refine OpsT.qGa 12 rfl ?_ | refine OpsT.qGa 13 rfl ?_ | refine OpsT.qGa 14 rfl ?_ | refine OpsT.qGa 15 rfl ?_ | refine OpsT.qGa 16 rfl ?_ | refine OpsT.qGa 17 rfl ?_ | refine OpsT.qGa 18 rfl ?_ | refine OpsT.qGa 19 rfl ?_ | refine OpsT.qGa 20 rfl ?_ | refine OpsT.qGa 21 rfl ?_ | refine OpsT.qGa 22 rfl ?_ | refine OpsT.qGa 23 rfl ?_); (repeat (first | refine OpsT.qGa 0 rfl ?_ | refine OpsT.qGa 1 rfl ?_ | refine OpsT.qGa 2 rfl ?_ | refine OpsT.qGa 3 rfl ?_ | refine OpsT.qGa 4 rfl ?_ | refine OpsT.qGa 5 rfl ?_ | refine OpsT.qGa 6 rfl ?_ | refine OpsT.qGa 7 rfl ?_ | refine OpsT.qGa 8 rfl ?_ | refine OpsT.qGa 9 rfl ?_ | refine OpsT.qGa 10 rfl ?_ | refine OpsT.qGa 11 rfl ?_ | refine OpsT.qGa 12 rfl ?_ | refine OpsT.qGa 13 rfl ?_ | refine OpsT.qGa 14 rfl ?_ | refine OpsT.qGa 15 rfl ?_ | refine OpsT.qGa 16 rfl ?_ | refine OpsT.qGa 17 rfl ?_ | refine OpsT.qGa 18 rfl ?_ | refine OpsT.qGa 19 rfl ?_ | refine OpsT.qGa 20 rfl ?_ | refine OpsT.qGa 21 rfl ?_ | refine OpsT.qGa 22 rfl ?_ | refine OpsT.qGa 23 rfl ?_)); exact hk_.out)) : g := hw ⟨h⟩
end Go.Proofs.YtgbgnipidakdhaaGreatDoor
/- law23.RuleLoose. -/
namespace Go.Proofs.YtgbgnipidakdhaaGreatDoor
open Go.RowKit
set_option maxRecDepth 100000
def xUnr : Ins := { op := 0, a := 0, b := 0, n := 0, kind := 0, val := 0, index := 0, types := [], labels := [] }
set_option maxHeartbeats 8000000 in
theorem law23_RuleLoose (m : ApiModule) (cs : List Value) (locals : List Int) (lp : Option Addr) (lc : Nat) (x : Ins) (pt pl : Option Addr) (ct cl : Nat) (w : World) (hm : ApiModuleV (fun _ => True) w cs m) (hT : TyB m) (hl : IntsR (fun _ => True) w (.slice lp locals.length lc) locals) (hx : InV w x (.slice pt x.types.length ct) (.slice pl x.labels.length cl)) (h0 : Env0 w) : Calls G.P 7 #[.agg cs.toArray, .slice lp locals.length lc, .agg #[Value.int .i64 x.op, Value.int .i64 x.a, Value.int .i64 x.b, Value.int .u64 x.n, Value.int .i64 x.kind, Value.int .i64 x.val, Value.int .i64 x.index, Value.slice pt x.types.length ct, Value.slice pl x.labels.length cl]] w fun e w' => e = .returned (.bool true) ∧ Ext w w' := by
  have hm0 := hm
  obtain ⟨v0, v1, v2, v3, v4, v5, v6, v7, v8, v9, rfl, r0, r1, r2, r3, r4, r5, r6, r7, r8, r9, g0⟩ := hm; obtain ⟨p0, c0, rfl, l0⟩ := r0.slice; obtain ⟨p1, c1, rfl, l1⟩ := r1.slice; obtain ⟨p2, c2, rfl, l2⟩ := r2.slice; obtain ⟨p3, c3, rfl, l3⟩ := r3.slice; obtain ⟨p4, c4, rfl, l4⟩ := r4.slice; obtain ⟨p5, c5, rfl, l5⟩ := r5.slice; obtain ⟨p6, c6, rfl, l6⟩ := r6.slice; obtain ⟨p7, c7, rfl, l7⟩ := r7.slice; obtain ⟨p8, c8, rfl, l8⟩ := r8.slice; obtain ⟨p9, c9, rfl, l9⟩ := r9.slice
  obtain ⟨r, hr⟩ : ∃ r, wantsP m locals x = r := ⟨_, rfl⟩
  obtain ⟨f, e0⟩ := r
  refine enterH (l := [.agg (([Value.slice p0 m.types.length c0, Value.slice p1 m.imports.length c1, Value.slice p2 m.funcs.length c2, Value.slice p3 m.tables.length c3, Value.slice p4 m.mems.length c4, Value.slice p5 m.globals.length c5, Value.slice p6 m.exports.length c6, Value.bool m.hasStart, Value.int .i64 m.start, Value.slice p7 m.elems.length c7, Value.slice p8 m.datas.length c8, Value.slice p9 m.customs.length c9] : List Value)).toArray, _, _]) Tryz.func7 rfl Tryz.ntmps7 rfl (Ok.start w) ?_
  repeat' (first | refine wau ?_ | (refine wspl ?_ ?_ <;> intro hc_))
  refine OpsH.box ([Value.slice p0 m.types.length c0, Value.slice p1 m.imports.length c1, Value.slice p2 m.funcs.length c2, Value.slice p3 m.tables.length c3, Value.slice p4 m.mems.length c4, Value.slice p5 m.globals.length c5, Value.slice p6 m.exports.length c6, Value.bool m.hasStart, Value.int .i64 m.start, Value.slice p7 m.elems.length c7, Value.slice p8 m.datas.length c8, Value.slice p9 m.customs.length c9] : List Value) rfl rfl rfl fun b3 => ?_
  repeat' (first | refine wau ?_ | (refine OpsH.isBox ?_; refine OpsH.box _ rfl rfl rfl fun b_ => ?_) | (refine wspl ?_ ?_ <;> intro hc_))
  obtain ⟨bx, rfl⟩ : ∃ y : Nat, y = b_ := ⟨_, rfl⟩
  repeat' (first | refine wau ?_ | (refine OpsH.isBsl ?_; refine OpsH.he (HE.bsl rfl rfl rfl rfl rfl wcel (by rfl) (by rfl)) rfl ?_; intro b_ _) | (refine wspl ?_ ?_ <;> intro hc_))
  obtain ⟨bb, rfl⟩ : ∃ y : Nat, y = b_ := ⟨_, rfl⟩
  refine OpsH.he (HE.callB (P := FewP m locals.length [x]) rfl rfl (fun w' hw' => law23_few (fun _ => True) m locals [x] ([Value.slice p0 m.types.length c0, Value.slice p1 m.imports.length c1, Value.slice p2 m.funcs.length c2, Value.slice p3 m.tables.length c3, Value.slice p4 m.mems.length c4, Value.slice p5 m.globals.length c5, Value.slice p6 m.exports.length c6, Value.bool m.hasStart, Value.int .i64 m.start, Value.slice p7 m.elems.length c7, Value.slice p8 m.datas.length c8, Value.slice p9 m.customs.length c9] : List Value) lp lc (.slice (some ⟨bb, 0, none⟩) 1 1) w' (hm0.chg (show Ext w w' from hw'.at) (fun _ _ _ h => h)) (body_one (hw'.m (.blk bb [Value.int .i64 x.op, Value.int .i64 x.a, Value.int .i64 x.b, Value.int .u64 x.n, Value.int .i64 x.kind, Value.int .i64 x.val, Value.int .i64 x.index, Value.slice pt x.types.length ct, Value.slice pl x.labels.length cl] 42) wmm).1 (hx.ext hw'.at)))) rfl ?_
  intro fb hfb
  cases fb with
  | false =>
    repeat' (first | refine wau ?_ | (refine OpsH.isCall (f := 10) ?_; refine OpsH.call1 rfl rfl rfl (fun w' hw' => law23_alive w' (h0.ext hw'.at)) ?_) | (refine wspl ?_ ?_ <;> intro hc_))
    all_goals exact FinH.ret1 rfl rfl fun w' hw' => ⟨rfl, hw'.at⟩
  | true =>
    have hLQ := (hfb rfl).1
    repeat' (first | refine wau ?_ | (refine wspl ?_ ?_ <;> intro hc_))
    refine OpsH.he (HE.callSp (m := m) rfl rfl (fun w' hw' => space_Of (fun _ => True) m ([Value.slice p0 m.types.length c0, Value.slice p1 m.imports.length c1, Value.slice p2 m.funcs.length c2, Value.slice p3 m.tables.length c3, Value.slice p4 m.mems.length c4, Value.slice p5 m.globals.length c5, Value.slice p6 m.exports.length c6, Value.bool m.hasStart, Value.int .i64 m.start, Value.slice p7 m.elems.length c7, Value.slice p8 m.datas.length c8, Value.slice p9 m.customs.length c9] : List Value) w' (hm0.chg (show Ext w w' from hw'.at) (fun _ _ _ h => h)) hLQ)) rfl ?_
    rintro ⟨B, sv⟩ _
    repeat' (first | refine wau ?_ | (refine wspl ?_ ?_ <;> intro hc_))
    refine OpsH.he (HE.callN (M0 := []) Rms.nil rfl rfl (fun w' hw' => ctrl_New (fun _ => False) [] (.slice none 0 0) w' (IntsR.nil0 _ _))) rfl ?_
    rintro ⟨cp, sp, tv, pv, bv, rv, fv, D, L⟩ hg
    dsimp only [ctlM, stkM, List.cons_append, List.nil_append] at hg ⊢
    repeat' (first | refine wau ?_ | (refine wspl ?_ ?_ <;> intro hc_))
    refine OpsH.he (HE.callN (M0 := ctlM cp (newC []) ⟨sp, tv, pv, bv, rv, fv, D, L⟩) wrms rfl rfl (fun w' hw' => by have := rule_Apply_unr B (fun _ => True) cp (newC []) ⟨sp, tv, pv, bv, rv, fv, D, L⟩ m locals sv xUnr lp none none lc 0 0 w' (ap_ext (hw'.subP wsp (fun _ h => h)) wmem h0 wmem hl (IntsR.nil0 _ _) (IntsR.nil0 _ _)) hg (newC_wf _) rfl (by kernel_rfl) rfl; exact this.mono fun _ _ h => h.good rfl)) rfl ?_
    rintro ⟨sp2, tv2, pv2, bv2, rv2, fv2, D2, L2⟩ hg2
    dsimp only [ctlM, stkM, List.cons_append, List.nil_append] at hg2 ⊢
    repeat' (first | refine wau ?_ | (refine OpsH.isCallG (f := 29) ?_; refine OpsH.call1g (v := .bool false) (by rfl) rfl rfl rfl (fun w' hw' => ctrl_Live cp (deadC (newC [])) ⟨sp2, tv2, pv2, bv2, rv2, fv2, D2, L2⟩ w' ((hw'.subP (M' := ctlM cp (deadC (newC [])) ⟨sp2, tv2, pv2, bv2, rv2, fv2, D2, L2⟩) wsp (fun _ h => h)).ctl (List.Sublist.refl _)) rfl) ?_) | (refine wspl ?_ ?_ <;> intro hc_))
    refine OpsH.he (HE.sgW1 (r := (f, e0)) rfl rfl (fun w' hw' => by have := rule_Wants B (fun _ => True) m locals sv x lp pt pl lc ct cl w' (h0.ext hw'.at) (hw'.get (p := fun w => SpaceRd B m w sv) wmem) (hl.chg (show Ext w w' from hw'.at) (fun _ _ _ h => h)) (hx.ext hw'.at).t (hx.ext hw'.at).l hT; rw [hr] at this; exact this)) rfl ?_
    rintro ⟨D4, p4, c4, q4, d4⟩ _
    dsimp only
    refine OpsH.pure (φ := f.results.length ≤ 17592186044416) (fun w' hw' => by obtain ⟨_, _, _, h⟩ := (hw'.get (p := SgR f ⟨D4, p4, c4, q4, d4⟩) wmem).2.slice; exact h) ?_
    intro hres
    by_cases e1 : e0 = 1
    · repeat' (first | refine wau ?_ | (refine OpsH.isAlloc (t := TFn) ?_; refine OpsH.alloc (t := TFn) [Value.slice none 0 0, Value.slice none 0 0] rfl rfl rfl fun b_ => ?_) | (refine OpsH.isCall (f := 10) ?_; refine OpsH.call1 rfl rfl rfl (fun w' hw' => law23_alive w' (h0.ext hw'.at)) ?_) | (refine wspl ?_ ?_ <;> intro hc_))
      all_goals first | omega | exact FinH.ret1 rfl rfl fun w' hw' => ⟨rfl, hw'.at⟩
    by_cases e2 : e0 = 0
    · subst e2
      obtain ⟨hp, ha, ht⟩ := wantsP_ok hr
      repeat' (first | refine wau ?_ | (refine OpsH.isAlloc (t := TFn) ?_; refine OpsH.alloc (t := TFn) [Value.slice none 0 0, Value.slice none 0 0] rfl rfl rfl fun b_ => ?_) | (refine wspl ?_ ?_ <;> intro hc_))
      obtain ⟨bf, rfl⟩ : ∃ y : Nat, y = b_ := ⟨_, rfl⟩
      refine CdH.regionR [.blk bf [.slice p4 f.params.length c4, .slice q4 f.results.length d4] TFn, .blk bx [Value.int .i64 x.op, Value.int .i64 x.a, Value.int .i64 x.b, Value.int .u64 x.n, Value.int .i64 x.kind, Value.int .i64 x.val, Value.int .i64 x.index, Value.slice pt x.types.length ct, Value.slice pl x.labels.length cl] 42] [Ext w] wsl wsr ?_
      obtain ⟨c3, hA, hts, hlv, hbr, hps⟩ : ∃ c3 : Ctl, applyT (deadC (newC [])) (f, 0) = (c3, 0) ∧ c3.stk.ts = f.results ∧ c3.live = false ∧ c3.broken = 0 ∧ 0 < c3.stk.ps.length := by
        refine ⟨{ deadC (newC []) with stk := pushK (deadC (newC [])).stk f.results }, ?_, ?_, rfl, rfl, ?_⟩
        · unfold applyT turnC
          rw [if_neg (fun h => h rfl)]
          dsimp only
          rw [loose_turn]
        · rw [show (deadC (newC [])).stk = ⟨[], [(0, false), (0, true)], 0⟩ from rfl]; rfl
        · rw [show (deadC (newC [])).stk = ⟨[], [(0, false), (0, true)], 0⟩ from rfl]; exact Nat.zero_lt_succ _
      repeat' (first | refine wgt ?_ | (refine wgtg ?_) | (refine StepT.isCl 16 ?_; refine StepT.he rfl rfl (HE.callN (M0 := ctlM cp (deadC (newC [])) ⟨sp2, tv2, pv2, bv2, rv2, fv2, D2, L2⟩) wrms rfl rfl (fun w' hw' => by have := rule_Apply_typed B (fun _ => True) cp (deadC (newC [])) ⟨sp2, tv2, pv2, bv2, rv2, fv2, D2, L2⟩ m locals sv x lp pt pl lc ct cl w' (ap_ext (hw'.subP wsp (fun _ h => h)) wmem h0 wmem hl hx.t hx.l) hg2 (deadC_wf (newC_wf _)) hp ha hT (by rw [ht]; exact hb_of _ (by show (0 + f.results.length) * 8 ≤ _; omega)); rw [ht, hA] at this; exact this.mono fun _ _ h => h.good rfl)) (fun _ => by dsimp only [ctlM, stkM, List.cons_append, List.nil_append]; exact wsl) (fun _ => wsr) ?_; rintro ⟨sp3, tv3, pv3, bv3, rv3, fv3, D3, L3⟩ hg3; dsimp only [ctlM, stkM, List.cons_append, List.nil_append] at hg3 ⊢) | (refine StepT.isClG 23 ?_; refine StepT.heG rfl rfl rfl (HE.callV rfl rfl (fun w' hw' => ctrl_Stack cp ⟨sp3, 0, none⟩ w' (hw'.c1 wup (by rfl)))) (fun _ => wsl) (fun _ => wsr) ?_; rintro ⟨⟩ _) | (refine StepT.isClG 28 ?_; refine StepT.heG rfl rfl rfl (HE.callN (M0 := []) Rms.nil rfl rfl (fun w' hw' => stack_All sp3 c3.stk (tv3, pv3) w' (hw'.subP wsp (fun p hp => absurd hp (by simp))) hps (by rw [hts]; exact hres))) (fun _ => by dsimp only [List.cons_append, List.nil_append]; exact wsl) (fun _ => wsr) ?_; rintro u _; dsimp only [List.cons_append, List.nil_append]) | (refine StepT.isClG 27 ?_; refine StepT.heG rfl rfl rfl (HE.callV (v := .bool true) rfl rfl (fun w' hw' => by have g1 := own_reads (hw'.own (B := 0) (T := TVl) (v := u)) (by rw [hts]; exact hres); rw [hts] at g1; have := ref21_Same _ _ f.results f.results u (.slice q4 f.results.length d4) w' g1 (hw'.get (p := SgR f ⟨D4, p4, c4, q4, d4⟩) wmem).2; rw [decide_eq_true rfl] at this; exact this)) (fun _ => wsl) (fun _ => wsr) ?_; rintro ⟨⟩ _) | (refine StepT.isClG 29 ?_; refine StepT.heG rfl rfl rfl (HE.callV (v := .bool false) rfl rfl (fun w' hw' => by have := ctrl_Live cp c3 ⟨sp3, tv3, pv3, bv3, rv3, fv3, D3, L3⟩ w' ((hw'.subP (M' := ctlM cp c3 ⟨sp3, tv3, pv3, bv3, rv3, fv3, D3, L3⟩) wsp (fun _ h => h)).ctl (List.Sublist.refl _)) hbr; rw [hlv] at this; exact this)) (fun _ => wsl) (fun _ => wsr) ?_; rintro ⟨⟩ _) | (refine StepT.isClG 10 ?_; refine StepT.heG rfl rfl rfl (HE.callV rfl rfl (fun w' hw' => law23_alive w' (h0.ext hw'.at))) (fun _ => wsl) (fun _ => wsr) ?_; rintro ⟨⟩ _) | refine OpsT.nil (by decide +kernel) ?_ | refine OpsT.any (by decide +kernel) ?_ | exact StepsT.fin rfl | refine StepsT.skip (by decide +kernel) ?_ | refine StepsT.go ?_ ?_)
      all_goals
        repeat' (first | refine wau ?_ | (refine wspl ?_ ?_ <;> intro hc_))
        exact FinH.ret1 rfl rfl fun w' hw' => ⟨rfl, hw'.at⟩
    · repeat' (first | refine wau ?_ | (refine OpsH.isAlloc (t := TFn) ?_; refine OpsH.alloc (t := TFn) [Value.slice none 0 0, Value.slice none 0 0] rfl rfl rfl fun b_ => ?_) | (refine wspl ?_ ?_ <;> intro hc_))
      rcases wantsP_err hr e1 with ⟨hp, rfl⟩ | ⟨hp, ha, ht⟩
      · refine OpsH.he (HE.callN (M0 := ctlM cp (deadC (newC [])) ⟨sp2, tv2, pv2, bv2, rv2, fv2, D2, L2⟩) wrms rfl rfl (fun w' hw' => (rule_Apply_no B (fun _ => True) cp (deadC (newC [])) ⟨sp2, tv2, pv2, bv2, rv2, fv2, D2, L2⟩ m locals sv x lp pt pl lc ct cl w' (ap_ext (hw'.subP wsp (fun _ h => h)) wmem h0 wmem hl hx.t hx.l) hp).mono fun _ _ h => h.bad (q := 10) rfl (by decide))) rfl ?_
        rintro _ _
        dsimp only [List.nil_append]
        repeat' (first | refine wau ?_ | (refine OpsH.isCallG (f := 10) ?_; refine OpsH.call1g wgd rfl rfl rfl (fun w' hw' => law23_alive w' (h0.ext hw'.at)) ?_) | (refine wspl ?_ ?_ <;> intro hc_))
        all_goals exact FinH.ret1 rfl rfl fun w' hw' => ⟨rfl, hw'.at⟩
      · refine OpsH.he (HE.callN (M0 := ctlM cp (deadC (newC [])) ⟨sp2, tv2, pv2, bv2, rv2, fv2, D2, L2⟩) wrms rfl rfl (fun w' hw' => by have := rule_Apply_typed B (fun _ => True) cp (deadC (newC [])) ⟨sp2, tv2, pv2, bv2, rv2, fv2, D2, L2⟩ m locals sv x lp pt pl lc ct cl w' (ap_ext (hw'.subP wsp (fun _ h => h)) wmem h0 wmem hl hx.t hx.l) hg2 (deadC_wf (newC_wf _)) hp ha hT (by rw [ht]; exact hb_of _ (by show (0 + f.results.length) * 8 ≤ _; omega)); rw [ht] at this; exact this.mono fun _ _ h => h.bad (q := e0) (by unfold applyT; rw [if_pos e2]) e2)) rfl ?_
        rintro _ _
        dsimp only [List.nil_append]
        repeat' (first | refine wau ?_ | (refine OpsH.isCallG (f := 10) ?_; refine OpsH.call1g wgd rfl rfl rfl (fun w' hw' => law23_alive w' (h0.ext hw'.at)) ?_) | (refine wspl ?_ ?_ <;> intro hc_))
        all_goals exact FinH.ret1 rfl rfl fun w' hw' => ⟨rfl, hw'.at⟩
end Go.Proofs.YtgbgnipidakdhaaGreatDoor
