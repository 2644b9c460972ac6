/- Rows: out of the laws' walks; what every seat needs. -/
import Derived.Test.YtgbgnipidakdhaaGreatDoorRows
import Derived.Test.YtgbgnipidakdhaaGreatDoorJU
import Derived.ProofKit
import Derived.OpenShut
import Derived.Test.YtgbgnipidakdhaaGreatDoorJNb
import Derived.Test.YtgbgnipidakdhaaGreatDoorCards
import Derived.Test.YtgbgnipidakdhaaGreatDoorTie
import Derived.Deep.DeepHandedRow
import Derived.Deep.DeepWitnessRowRef
import Derived.Lib.LaidTab
import Derived.Lib.Space
import Derived.Lib.SpaceR
import Derived.Shelf.Vars
import Derived.Test.YtgbgnipidakdhaaGreatDoorJLw
namespace Go.Proofs.YtgbgnipidakdhaaGreatDoor
open Go.ChangeShapes Go.WideShapes Go.ChangeAt Go.RowKit
set_option maxRecDepth 100000
theorem own : ownKnob Tryz.prog.godebug = none := by kernel_rfl
theorem laidOut : laidOutB Tryz.prog = true := by kernel_rfl
section
variable {H : Type} {enc : TypeId × Value → H} {P : Program}
def rowed (P : Program) (ts : List TypeId) : Bool := ts.all fun t => P.readableRec t && decide (t < P.types.size)
theorem trodAll_stays (hl : laidOutB P = true) {W W' : World} (hb : Below W.heap.size W W') {sp : Nat → Bool} : ∀ {ts : List TypeId} {vs : List Value} {ds : List (DataW H)} {ps : List MemPlace}, rowed P ts = true →
    DataW.TrodAll enc P W 0 (fun _ => true) true ts vs ds ps → (∀ x ∈ ps, x.block < W.heap.size) → (∀ x ∈ ps, sp x.block = true) → DataW.TrodAll enc P W' 0 sp true ts vs ds ps
  | [], _, _, _, _, h, _, _ => by
    obtain ⟨rfl, rfl, rfl⟩ := trodAll_nil h
    exact trodAll_mk0
  | t :: ts, _, _, _, hr, h, h1, h2 => by
    obtain ⟨v, vs, d, ds, p, q, rfl, rfl, rfl, ht, hts⟩ := trodAll_cons h
    simp only [rowed, List.all_cons, Bool.and_eq_true, decide_eq_true_eq] at hr
    refine trodAll_cons_mk (Go.WideElems.Trod_stays hl hr.1.1 hr.1.2 ht (fun x hx => hb.same (h1 x (by simp [hx]))) (fun x hx => h2 x (by simp [hx]))) (trodAll_stays hl hb (by simpa [rowed] using hr.2) hts (fun x hx => h1 x (by simp [hx])) (fun x hx => h2 x (by simp [hx])))
theorem post_of_true {f : Func} {s : ChangeSpec} {apart fresh handsOn again : Bool} {W W' : World} {args : Array Value} {ds gs : List (DataW H)} {before : List MemPlace} {tb : TypeId}
    (hl : laidOutB P = true) (hv : s.vars = []) (hr : f.resultTypes = #[tb]) (hb : P.underlying tb = some .bool) (hp : rowed P f.params.toList = true)
    (hW : DataW.Whole enc P f.params.toList s.vars apart W args.toList ds gs before) (hfn : gs = [] → s.fn H ds = { results := [.lit (.bool true)], args := ds }) (hx : Below W.heap.size W W') :
    s.post enc P f apart fresh handsOn again W args (.bool true) W' := by
  have hlt := hW.lt
  have hW' := hW
  obtain ⟨pa, pv, hA, hV, rfl, hz, hn⟩ := hW
  rw [hv] at hV
  obtain ⟨rfl, rfl⟩ := trodVars_none hV
  have e : s.fn H (ds ++ []) = { results := [.lit (.bool true)], args := ds } := by rw [List.append_nil]; exact hfn rfl
  simp only [List.append_nil] at hlt hz hn hW'
  have hres : ∀ b sp hd, DataW.TrodAll enc P W' b sp hd f.resultTypes.toList ((Value.bool true).resultList f.resultTypes.size) [.lit (.bool true)] [] := fun b sp hd => by
    rw [hr]; exact trodAll_cons_mk (shut_bool hb _) trodAll_mk0
  have hargs : ∀ sp : Nat → Bool, (∀ p ∈ pa, sp p.block = true) → DataW.TrodAll enc P W' 0 sp true f.params.toList args.toList ds pa := fun sp hsp => trodAll_stays hl hx hp hA hlt hsp
  have hvars : ∀ sp : Nat → Bool, DataW.TrodVars enc P W' sp s.vars [] [] := fun sp => by rw [hv]; rfl
  refine ⟨ds, [], pa, [], pa, [], hW', by rw [e]; exact hres _ _ _, by rw [e]; exact hargs _ (fun p hp => by simpa using hlt p hp), by rw [e]; exact hvars _, hx.frame _, fun _ => ⟨?_, [.lit (.bool true)] ++ ds, [], ([] ++ pa) ++ [], ⟨[] ++ pa, [], ?_, hvars _, rfl, ?_, ?_⟩, ?_⟩⟩
  · exact ok_one hr rfl (okWide_bool_mk hb _)
  · exact trodAll_append (hargs _ (fun _ _ => rfl)) (hres _ _ _)
  · intro b off hp
    have hp' : MemPlace.cell b off ∈ pa := by simpa using hp
    rw [hx.frozen (hlt _ hp')]
    exact hz b off hp'
  · intro ha
    simpa using hn ha
  · intro p hp _
    simpa using hp
theorem weights_app {P : Program} : ∀ (ts us : List TypeId) (ds : List (DataW H)), ∀ n ∈ DataW.weightsEach P ts ds, n ∈ DataW.weightsEach P (ts ++ us) ds
  | [], _, _, n, h => by simp [DataW.weightsEach] at h
  | _ :: _, _, [], n, h => by simp [DataW.weightsEach] at h
  | t :: ts, us, d :: ds, n, h => by
    simp only [DataW.weightsEach, List.cons_append, List.mem_append] at h ⊢
    rcases h with h | h
    · exact .inl h
    · exact .inr (weights_app ts us ds n h)
end
section
variable {H : Type} {enc : TypeId × Value → H} {w : World} {t : TypeId} {v : Value} {d : DataW H} {ps : List MemPlace}
set_option maxRecDepth 100000
theorem arg_tr (h : DataW.Trod enc G.P w 0 (fun _ => true) true t v d ps) (hw : ∀ n ∈ d.weights G.P t, n ≤ reachBytes) : Tr w t v.cells.toList := by
  obtain ⟨fuel, h⟩ := h
  exact ⟨H, enc, _, _, fuel, _, h, hw⟩
theorem arg_struct {bs : Nat} {fs : Array Field} (ht : G.P.underlying t = some (.struct fs)) (ho : Value.okWide G.P w .any bs t v) (h : DataW.Trod enc G.P w 0 (fun _ => true) true t v d ps) (hw : ∀ n ∈ d.weights G.P t, n ≤ reachBytes) : ∃ cs : List Value, v = .agg cs.toArray ∧ cs.length = G.P.cellsOf t ∧ Tr w t cs := by
  obtain ⟨cs, rfl, hcl⟩ := okWide_struct ht ho
  exact ⟨cs.toList, by simp, by simpa using hcl, arg_tr h hw⟩
end
theorem tabIs_second {P : Program} {W : World} {name n0 : String} {d0 : DataW Unit} {k : IntKind} {zs : List Int} {rest : List (String × DataW Unit)} {g : Nat} {t e : TypeId} {n : Nat}
    (hg : P.globalNamed name = some g) (hty : (P.globals[g]?).map (·.type) = some t) (ht : P.underlying t = some (.array n e)) (he : P.underlying e = some (.int k)) (hce : P.cellsOf e = 1) (hct : P.cellsOf t = n)
    (h : laidMet P ((n0, d0) :: (name, Lib.tabData k zs) :: rest) W) : Lib.TabIs P W name k zs := by
  obtain ⟨ps, ⟨_, _, _, _, _, _, _, _, _, _, ⟨g', t', cs, fuel, p, q, hg', ht', hvar, hd, _, _⟩, _⟩, _⟩ := h
  obtain rfl := Option.some.inj (hg.symm.trans hg')
  obtain rfl := Option.some.inj (hty.symm.trans ht')
  unfold Lib.TabIs
  rw [hvar, ← Lib.cells_of_tab ht he hce hct hd]
theorem laid_asc : (Rows.laid_strings_asciiSpace : DataW Unit) = Lib.tabData .u8 Lib.asciiSpaceTab := by kernel_rfl
def laidS : List (String × DataW Unit) := [("unicode.White_Space", Rows.laid_unicode_White_Space), ("strings.asciiSpace", Rows.laid_strings_asciiSpace)]
theorem gAsc : Tryz.prog.globalNamed "strings.asciiSpace" = some 0 := by kernel_rfl
theorem env0_of {W : World} (hL : laidMetH Tryz.prog laidS W) (hsh : W.ShapedOpen Tryz.prog) : Env0 W := by
  have hL' : laidMet Tryz.prog [("unicode.White_Space", Rows.laid_unicode_White_Space), ("strings.asciiSpace", Lib.tabData .u8 Lib.asciiSpaceTab)] W := by
    have : laidMet Tryz.prog [("unicode.White_Space", Rows.laid_unicode_White_Space), ("strings.asciiSpace", Rows.laid_strings_asciiSpace)] W := hL
    rwa [laid_asc] at this
  have ht := tabIs_second (t := 252) (e := 5) (n := 256) gAsc (by kernel_rfl) (by kernel_rfl) Tryz.underlying5 (by kernel_rfl) (by kernel_rfl) hL'
  refine ⟨fun c hc => ?_, cell_of_shapedOpen_int (zero := #[.int .i64 0]) (t := 3) hsh (of_decide_eq_true (by kernel_rfl)) (by kernel_rfl) rfl (by kernel_rfl) (by kernel_rfl) Tryz.underlying3⟩
  have := ht.cell gAsc c (by unfold Lib.asciiSpaceTab; simp; exact hc)
  rw [this]
  unfold Lib.asciiSpaceTab
  simp [List.getD_eq_getElem?_getD, hc]
section
variable {H : Type} {enc : TypeId × Value → H} {w : World} {t e : TypeId} {v : Value} {d : DataW H} {ps : List MemPlace}
theorem arg_vals {bs : Nat} (ht : G.P.underlying t = some (.slice e)) (he : G.P.underlying e = some (.int .i64)) (hc : G.P.cellsOf e = 1) (hby : G.P.bytesOf e = 8) (ho : Value.okWide G.P w .any bs t v) (h : DataW.Trod enc G.P w 0 (fun _ => true) true t v d ps) (hw : ∀ n ∈ d.weights G.P t, n ≤ reachBytes) : ∃ xs, IntsR (fun _ => True) w v xs := by
  obtain ⟨p0, l0, c0, rfl⟩ := okWide_slice ht ho
  obtain ⟨u, xs, e, hb⟩ := (arg_tr h hw).ints ht he hc hby
  cases e
  exact ⟨xs, hb⟩
end
theorem ins_of {w : World} {cs : List Value} (hcl : cs.length = 9) (h : Tr w 42 cs) : ∃ (x : Ins) (pt pl : Option Addr) (ct cl : Nat), cs = [.int .i64 x.op, .int .i64 x.a, .int .i64 x.b, .int .u64 x.n, .int .i64 x.kind, .int .i64 x.val, .int .i64 x.index, .slice pt x.types.length ct, .slice pl x.labels.length cl] ∧ InV w x (.slice pt x.types.length ct) (.slice pl x.labels.length cl) := by
  obtain ⟨c0, c1, c2, c3, c4, c5, c6, c7, c8, rfl⟩ := len9 hcl
  obtain ⟨-, hf⟩ := h.struct Tryz.underlying42
  obtain ⟨n0, e0, w0⟩ := (show Tr w _ [c0] from Tr.fld hf 0 0 1 rfl (by kernel_rfl)).int Tryz.underlying35
  obtain ⟨n1, e1, w1⟩ := (show Tr w _ [c1] from Tr.fld hf 1 1 1 rfl (by kernel_rfl)).int Tryz.underlying3
  obtain ⟨n2, e2, w2⟩ := (show Tr w _ [c2] from Tr.fld hf 2 2 1 rfl (by kernel_rfl)).int Tryz.underlying3
  obtain ⟨n3, e3, w3⟩ := (show Tr w _ [c3] from Tr.fld hf 3 3 1 rfl (by kernel_rfl)).int Tryz.underlying36
  obtain ⟨-, hg⟩ := (show Tr w _ [c4, c5, c6] from Tr.fld hf 4 4 3 rfl (by kernel_rfl)).struct Tryz.underlying39
  obtain ⟨n4, e4, w4⟩ := (show Tr w _ [c4] from Tr.fld hg 0 0 1 rfl (by kernel_rfl)).int Tryz.underlying3
  obtain ⟨n5, e5, w5⟩ := (show Tr w _ [c5] from Tr.fld hg 1 1 1 rfl (by kernel_rfl)).int Tryz.underlying37
  obtain ⟨n6, e6, w6⟩ := (show Tr w _ [c6] from Tr.fld hg 2 2 1 rfl (by kernel_rfl)).int Tryz.underlying3
  obtain ⟨v7, x7, e7, r7⟩ := (show Tr w _ [c7] from Tr.fld hf 5 7 1 rfl (by kernel_rfl)).ints Tryz.underlying34 Tryz.underlying37 (by kernel_rfl) (by kernel_rfl)
  obtain ⟨v8, x8, e8, r8⟩ := (show Tr w _ [c8] from Tr.fld hf 6 8 1 rfl (by kernel_rfl)).ints Tryz.underlying40 Tryz.underlying3 (by kernel_rfl) (by kernel_rfl)
  cases e0; cases e1; cases e2; cases e3; cases e4; cases e5; cases e6; cases e7; cases e8
  obtain ⟨p7, k7, rfl, z7⟩ := r7.slice
  obtain ⟨p8, k8, rfl, z8⟩ := r8.slice
  exact ⟨⟨n0, n1, n2, n3, n4, n5, n6, x7, x8⟩, p7, p8, k7, k8, rfl, r7, r8, wf_R64 w0, wf_R64 w1⟩
open Go.RowKit
theorem val_cap {w : World} {u : Value} (h : Tr w 34 [u]) {p : Option Addr} {n c : Nat} (e : u = .slice p n c) : n ≤ 17592186043904 := by
  obtain ⟨p', n', c', e', hl, -⟩ := h.slice (s := 1) (bt := 8) Tryz.underlying34 (by kernel_rfl) (by kernel_rfl) (by omega)
  subst e
  simp only [List.cons.injEq, Value.slice.injEq, and_true] at e'
  omega
theorem tyb_of {w : World} {cs : List Value} {m : ApiModule} (h : Tr w 33 cs) (hm : ApiModuleV (fun _ => True) w cs m) : TyB m := by
  obtain ⟨v0, v1, v2, v3, v4, v5, v6, v7, v8, v9, rfl, r0, -⟩ := hm
  obtain ⟨-, hf⟩ := h.struct Tryz.underlying33
  obtain ⟨p, len, cap, e, -, hx⟩ := (show Tr w _ [v0] from Tr.fld hf 0 0 1 rfl (by kernel_rfl)).slice (s := 2) (bt := 48) Tryz.underlying22 (by kernel_rfl) (by kernel_rfl) (by omega)
  simp only [List.cons.injEq, and_true] at e
  subst e
  obtain ⟨p', c', e', -⟩ := r0.slice
  simp only [Value.slice.injEq] at e'
  obtain ⟨rfl, rfl, rfl⟩ := e'
  intro f hfm
  obtain ⟨i, hi, rfl⟩ := List.getElem_of_mem hfm
  obtain ⟨b, o, rfl, -, cs2, ⟨u0, u1, rfl, q0, q1⟩, hc⟩ := r0.el hi
  obtain ⟨b', o', e2, hx⟩ := hx.resolve_left (by omega)
  cases e2
  obtain ⟨cs', hl', hcc, ht⟩ := hx i hi
  match cs', hl' with
  | [a0, a1], _ =>
    have e0 : a0 = u0 := by
      have h1 := hcc 0 (by omega); have h2 := hc 0 (by omega)
      rw [h1] at h2; simpa using h2
    have e1 : a1 = u1 := by
      have h1 := hcc 1 (by omega); have h2 := hc 1 (by omega)
      rw [h1] at h2; simpa using h2
    subst e0 e1
    obtain ⟨-, hg⟩ := ht.struct Tryz.underlying47
    rw [ix_eq hi] at q0 q1
    obtain ⟨x0, y0, z0, -⟩ := q0.slice
    obtain ⟨x1, y1, z1, -⟩ := q1.slice
    exact ⟨val_cap (show Tr w _ [a0] from Tr.fld hg 0 0 1 rfl (by kernel_rfl)) z0, val_cap (show Tr w _ [a1] from Tr.fld hg 1 1 1 rfl (by kernel_rfl)) z1⟩
noncomputable def ruleWantsWorld (os : Os) : World :=
  let N := (World.settled Tryz.prog os).heap.size
  let w0 := World.holding Tryz.prog os ⟨#[.cells (Lib.whiteT.map fun (z : Nat) => Value.int .u16 (z : Int)).toArray 272, .cells #[.slice (some ⟨N, 0, none⟩) 7 7, .slice none 0 0, .int .i64 2] 269], #[], []⟩
  let put (h : Array Obj) (g : Nat) (cs : Array Value) : Array Obj := h.modify g fun
    | .cells _ t frozen => .cells cs t frozen
    | o => o
  let h1 := put w0.heap 0 (Lib.asciiSpaceTab.map fun z => Value.int .u8 z).toArray
  let h2 := put h1 2 #[.pointer (some ⟨N + 1, 0, none⟩)]
  { w0 with heap := h2 }
theorem ruleWants_met (os : Os) (args : Array Value) : laidMet Tryz.prog Rows.ruleWantsRow.laid ((ruleWantsWorld os).forCall (fun _ _ => 0) ⟨#[], args, []⟩).memory :=
  laidMet_of_run' 8 (by kernel_rfl) (by kernel_rfl)
theorem ruleWants_witness (os : Os) {H : Type} (enc : TypeId × Value → H) :
    (OpenSpec.ofChange Rows.ruleWantsSpec).preRow enc Tryz.prog Tryz.f3 Rows.ruleWantsRow.domain false Rows.ruleWantsRow.laid ((ruleWantsWorld os).forCall (fun _ _ => 0) ⟨#[], #[.agg #[.slice none 0 0, .slice none 0 0, .slice none 0 0, .slice none 0 0, .slice none 0 0, .slice none 0 0, .slice none 0 0, .bool false, .int .i64 0, .slice none 0 0, .slice none 0 0, .slice none 0 0], .slice none 0 0, .agg #[.int .i64 0, .int .i64 0, .int .i64 0, .int .u64 0, .int .i64 0, .int .i64 0, .int .i64 0, .slice none 0 0, .slice none 0 0]], []⟩).memory #[.agg #[.slice none 0 0, .slice none 0 0, .slice none 0 0, .slice none 0 0, .slice none 0 0, .slice none 0 0, .slice none 0 0, .bool false, .int .i64 0, .slice none 0 0, .slice none 0 0, .slice none 0 0], .slice none 0 0, .agg #[.int .i64 0, .int .i64 0, .int .i64 0, .int .u64 0, .int .i64 0, .int .i64 0, .int .i64 0, .slice none 0 0, .slice none 0 0]] := by
  have hw : (DataW.whole enc Tryz.prog ((ruleWantsWorld os).forCall (fun _ _ => 0) ⟨#[], #[.agg #[.slice none 0 0, .slice none 0 0, .slice none 0 0, .slice none 0 0, .slice none 0 0, .slice none 0 0, .slice none 0 0, .bool false, .int .i64 0, .slice none 0 0, .slice none 0 0, .slice none 0 0], .slice none 0 0, .agg #[.int .i64 0, .int .i64 0, .int .i64 0, .int .u64 0, .int .i64 0, .int .i64 0, .int .i64 0, .slice none 0 0, .slice none 0 0]], []⟩).memory Tryz.f3.params.toList Rows.ruleWantsSpec.vars false (#[.agg #[.slice none 0 0, .slice none 0 0, .slice none 0 0, .slice none 0 0, .slice none 0 0, .slice none 0 0, .slice none 0 0, .bool false, .int .i64 0, .slice none 0 0, .slice none 0 0, .slice none 0 0], .slice none 0 0, .agg #[.int .i64 0, .int .i64 0, .int .i64 0, .int .u64 0, .int .i64 0, .int .i64 0, .int .i64 0, .slice none 0 0, .slice none 0 0]] : Array Value).toList 8).map (fun x => (x.1, x.2.1)) =
      some ([.agg [.nil, .nil, .nil, .nil, .nil, .nil, .nil, .lit (.bool false), .lit (.int .i64 0), .nil, .nil, .nil], .nil, .agg [.lit (.int .i64 0), .lit (.int .i64 0), .lit (.int .i64 0), .lit (.int .u64 0), .agg [.lit (.int .i64 0), .lit (.int .i64 0), .lit (.int .i64 0)], .nil, .nil]], []) := by kernel_rfl
  obtain ⟨⟨x1, x2, x3⟩, hx, hx1⟩ := Option.map_eq_some_iff.1 hw
  simp only [Prod.mk.injEq] at hx1
  obtain ⟨rfl, rfl⟩ := hx1
  exact OpenSpec.preRow_of_cond 8 hx (by kernel_rfl) (fun k hk => by cases hk) (by kernel_rfl) (ruleWants_met os _)
theorem ruleWants_lifted (os : Os) (started : os.Started) (H : Type) (enc : TypeId × Value → H) (F : Stop.Interp) :
    ReturnsInHanded {} Tryz.checked os 3 .any ((OpenSpec.ofChange Rows.ruleWantsSpec).preRow enc Tryz.prog Tryz.f3 Rows.ruleWantsRow.domain false Rows.ruleWantsRow.laid) (((OpenSpec.ofChange Rows.ruleWantsSpec).at F).post enc Tryz.prog Tryz.f3 false true false false) := by
  refine returnsInHanded_of_row (C := Tryz.checked) (s := OpenSpec.ofChange Rows.ruleWantsSpec) own started (by kernel_rfl) Tryz.func3
    (witness_row_atRef (enc := enc) (C := Tryz.checked) false (ruleWantsWorld os) #[.agg #[.slice none 0 0, .slice none 0 0, .slice none 0 0, .slice none 0 0, .slice none 0 0, .slice none 0 0, .slice none 0 0, .bool false, .int .i64 0, .slice none 0 0, .slice none 0 0, .slice none 0 0], .slice none 0 0, .agg #[.int .i64 0, .int .i64 0, .int .i64 0, .int .u64 0, .int .i64 0, .int .i64 0, .int .i64 0, .slice none 0 0, .slice none 0 0]] rfl (by kernel_rfl) (by kernel_rfl) (by kernel_rfl) (ruleWants_witness os enc)) ?_
  intro W base args ds gs before hval0 hW _ _ hsz hL hsh _
  have h0 : Env0 W := env0_of hL hsh
  have hW' : DataW.Whole enc Tryz.prog Tryz.f3.params.toList Rows.ruleWantsSpec.vars false W args.toList ds gs before := hW
  obtain ⟨p, q, hA0, hV, rfl, hfz, hnd⟩ := hW
  have hA : DataW.TrodAll enc Tryz.prog W 0 (fun _ => true) true Tryz.f3.params.toList args.toList ds p := hA0
  obtain ⟨rfl, rfl⟩ := trodVars_none hV
  have hz : ∀ n ∈ DataW.weightsEach Tryz.prog Tryz.f3.params.toList ds, n ≤ reachBytes := fun n hn => by
    have h1 := List.all_eq_true.1 hsz n (by rw [List.append_nil]; exact weights_app _ _ _ n hn)
    simpa using h1
  have hval : ∀ (j : Nat) t v, Tryz.f3.params[j]? = some t → args[j]? = some v → Value.okWide Tryz.prog W .any base t v := hval0
  rw [Tryz.params3] at hA hz hval
  obtain ⟨v0, vs0, d0, ds0, p0, q0, hargs, rfl, rfl, h0', r0⟩ := trodAll_cons hA
  obtain ⟨v1, vs1, d1, ds1, p1, q1, rfl, rfl, rfl, h1', r1⟩ := trodAll_cons r0
  obtain ⟨v2, vs2, d2, ds2, p2, q2, rfl, rfl, rfl, h2', r2⟩ := trodAll_cons r1
  obtain ⟨rfl, rfl, rfl⟩ := trodAll_nil r2
  obtain rfl : args = #[v0, v1, v2] := by cases args; simp_all
  obtain ⟨cs0, rfl, hl0, ht0⟩ := arg_struct Tryz.underlying33 (hval 0 _ v0 rfl rfl) h0' (fun n hn => hz n (by simp only [DataW.weightsEach, List.append_nil, List.mem_append]; first | exact hn | exact .inl hn | exact .inr hn | exact .inr (.inl hn) | exact .inr (.inr hn) | exact .inr (.inr (.inl hn)) | exact .inr (.inr (.inr hn)) | exact .inr (.inr (.inr (.inl hn))) | exact .inr (.inr (.inr (.inr hn)))))
  obtain ⟨m0, hm0⟩ := ApiModuleV.of ht0 (by rw [hl0]; kernel_rfl)
  obtain ⟨l1, hl1⟩ := arg_vals Tryz.underlying34 Tryz.underlying37 (by kernel_rfl) (by kernel_rfl) (hval 1 _ v1 rfl rfl) h1' (fun n hn => hz n (by simp only [DataW.weightsEach, List.append_nil, List.mem_append]; first | exact hn | exact .inl hn | exact .inr hn | exact .inr (.inl hn) | exact .inr (.inr hn) | exact .inr (.inr (.inl hn)) | exact .inr (.inr (.inr hn)) | exact .inr (.inr (.inr (.inl hn))) | exact .inr (.inr (.inr (.inr hn)))))
  obtain ⟨lp1, lc1, rfl, -⟩ := hl1.slice
  obtain ⟨cs2, rfl, hl2, ht2⟩ := arg_struct Tryz.underlying42 (hval 2 _ v2 rfl rfl) h2' (fun n hn => hz n (by simp only [DataW.weightsEach, List.append_nil, List.mem_append]; first | exact hn | exact .inl hn | exact .inr hn | exact .inr (.inl hn) | exact .inr (.inr hn) | exact .inr (.inr (.inl hn)) | exact .inr (.inr (.inr hn)) | exact .inr (.inr (.inr (.inl hn))) | exact .inr (.inr (.inr (.inr hn)))))
  obtain ⟨x2, pt2, pl2, ct2, cl2, rfl, hx2⟩ := ins_of (by rw [hl2]; kernel_rfl) ht2
  refine (law23_RuleWants m0 cs0 l1 lp1 lc1 x2 pt2 pl2 ct2 cl2 W hm0 (tyb_of ht0 hm0) hl1 hx2 h0).mono fun e W' ⟨he, hx⟩ => ?_
  subst he
  exact ⟨_, rfl, post_of_true (P := Tryz.prog) laidOut rfl (tb := 4) (by kernel_rfl) Tryz.underlying4 (by kernel_rfl) hW' (fun _ => rfl) hx.below⟩
theorem ruleWants_c1 : (Rows.ruleWantsRow.inPlace == Tryz.pinned.checked.prog.inPlace 3) = true := by kernel_rfl
theorem ruleWants_c2 : (Rows.ruleWantsRow.unfollowed == Tryz.pinned.checked.prog.unfollowed 3) = true := by kernel_rfl
theorem ruleWants_c3 : (Rows.ruleWantsRow.recurses == Tryz.pinned.checked.prog.recurses 3) = true := by kernel_rfl
theorem ruleWants_c4 : (Rows.ruleWantsRow.named == Tryz.pinned.checked.prog.varsNamed 3) = true := by kernel_rfl
theorem ruleWants_closed : joinedFacts Tryz.pinned.checked.prog 3 Tryz.f3 (OpenSpec.ofChange Rows.ruleWantsSpec).bare Rows.ruleWantsRow = true := by
  unfold joinedFacts
  rw [ruleWants_c1, ruleWants_c2, ruleWants_c3, ruleWants_c4]
  kernel_rfl
theorem ruleWants_inst : (Tryz.f3).isInstance Tryz.pinned.checked.prog Rows.ruleWantsRow.origin Rows.ruleWantsRow.targs := of_decide_eq_true (by kernel_rfl)
theorem ruleWants_wrap : (Tryz.f3).isWrapper Tryz.pinned.checked.prog Rows.ruleWantsRow.wrapper Rows.ruleWantsRow.mainSum := by
  unfold Func.isWrapper; first | (rw [if_pos (by decide +kernel)]; kernel_rfl) | (rw [if_neg (by decide +kernel)]; exact ⟨rfl, rfl⟩)
theorem ruleWants_holds : Rows.RuleWantsSaid :=
  OpenClaim.holds_of_cond 3 Tryz.f3 rfl rfl rfl rfl rfl rfl rfl ⟨rfl, rfl, rfl, rfl, rfl⟩ rfl rfl rfl rfl rfl (by kernel_rfl) Tryz.func3 ruleWants_closed ruleWants_inst ruleWants_wrap
    (fun os started H enc _ F => by rw [OpenClaim.pre_eq_preRow]; exact ruleWants_lifted os started H enc F)
theorem ruleWants_plain (f : FuncId) (fn : Func) (hf : Tryz.pinned.checked.prog.funcNamed "millwright/millwrightlaw23.RuleWants" = some f) (hfn : Tryz.pinned.checked.prog.funcs[f]? = some fn) :
    false = Tryz.pinned.checked.prog.looks [] ∧ ∀ (j : Nat) t, fn.params[j]? = some t → Tryz.pinned.checked.prog.wantsStandIn t = false := by
  obtain rfl : f = 3 := Option.some.inj ((show Tryz.prog.funcNamed "millwright/millwrightlaw23.RuleWants" = some 3 by kernel_rfl).symm.trans hf) |>.symm
  obtain rfl : fn = Tryz.f3 := (Option.some.inj (Tryz.func3.symm.trans hfn)).symm
  refine ⟨by kernel_rfl, fun j t ht => ?_⟩
  rw [Tryz.params3] at ht
  rcases (show t = 33 ∨ t = 34 ∨ t = 42 by simpa using Array.mem_of_getElem? ht) with rfl | rfl | rfl
  · exact (show Tryz.prog.wantsStandIn 33 = false by kernel_rfl)
  · exact (show Tryz.prog.wantsStandIn 34 = false by kernel_rfl)
  · exact (show Tryz.prog.wantsStandIn 42 = false by kernel_rfl)
theorem ruleWants_card : Rows.RuleWantsCardSaid :=
  Claim7.holds_tied_plain_at .later [] _ _ _ _ ruleWants_holds (fun _ h => by cases h) (by kernel_rfl) (fun _ h => by cases h) ruleWants_row_tie rfl ⟨rfl, rfl⟩ (by kernel_rfl) rfl ruleWants_plain (by kernel_rfl)
#print axioms ruleWants_card
end Go.Proofs.YtgbgnipidakdhaaGreatDoor
