/- Rows: out of the laws' walks; what every seat needs. -/
import Derived.Test.YtmkgfccfnpmcjaaDoorRows
import Derived.Test.YtmkgfccfnpmcjaaDoorJU
import Derived.ProofKit
import Derived.OpenShut
import Derived.Test.YtmkgfccfnpmcjaaDoorJEc
import Derived.Test.YtmkgfccfnpmcjaaDoorCards
import Derived.Test.YtmkgfccfnpmcjaaDoorTie
import Derived.Deep.DeepHandedRow
import Derived.Deep.DeepWitnessRowRef
import Derived.Lib.LaidTab
import Derived.Lib.Space
import Derived.Lib.SpaceR
import Derived.Shelf.Vars
namespace Go.Proofs.YtmkgfccfnpmcjaaDoor
open Go.ChangeShapes Go.WideShapes Go.ChangeAt Go.RowKit

theorem own : ownKnob Tryd.prog.godebug = none := by kernel_rfl
theorem laidOut : laidOutB Tryd.prog = true := by kernel_rfl

section
variable {H : Type} {enc : TypeId × Value → H} {P : Program}
/-- each of the types can be read and is a row of the table -/
def rowed (P : Program) (ts : List TypeId) : Bool := ts.all fun t => P.readableRec t && decide (t < P.types.size)
theorem trodAll_stays (hl : laidOutB P = true) {W W' : World} (hb : Below W.heap.size W W') {sp : Nat → Bool} : ∀ {ts : List TypeId} {vs : List Value} {ds : List (DataW H)} {ps : List MemPlace}, rowed P ts = true →
    DataW.TrodAll enc P W 0 (fun _ => true) true ts vs ds ps → (∀ x ∈ ps, x.block < W.heap.size) → (∀ x ∈ ps, sp x.block = true) → DataW.TrodAll enc P W' 0 sp true ts vs ds ps
  | [], _, _, _, _, h, _, _ => by
    obtain ⟨rfl, rfl, rfl⟩ := trodAll_nil h
    exact trodAll_mk0
  | t :: ts, _, _, _, hr, h, h1, h2 => by
    obtain ⟨v, vs, d, ds, p, q, rfl, rfl, rfl, ht, hts⟩ := trodAll_cons h
    simp only [rowed, List.all_cons, Bool.and_eq_true, decide_eq_true_eq] at hr
    refine trodAll_cons_mk (Go.WideElems.Trod_stays hl hr.1.1 hr.1.2 ht (fun x hx => hb.same (h1 x (by simp [hx]))) (fun x hx => h2 x (by simp [hx]))) (trodAll_stays hl hb (by simpa [rowed] using hr.2) hts (fun x hx => h1 x (by simp [hx])) (fun x hx => h2 x (by simp [hx])))
/-- a law's postcondition: it has answered true, and below the heap's old size nothing has turned -/
theorem post_of_true {f : Func} {s : ChangeSpec} {apart fresh handsOn again : Bool} {W W' : World} {args : Array Value} {ds gs : List (DataW H)} {before : List MemPlace} {tb : TypeId}
    (hl : laidOutB P = true) (hv : s.vars = []) (hr : f.resultTypes = #[tb]) (hb : P.underlying tb = some .bool) (hp : rowed P f.params.toList = true)
    (hW : DataW.Whole enc P f.params.toList s.vars apart W args.toList ds gs before) (hfn : gs = [] → s.fn H ds = { results := [.lit (.bool true)], args := ds }) (hx : Below W.heap.size W W') :
    s.post enc P f apart fresh handsOn again W args (.bool true) W' := by
  have hlt := hW.lt
  have hW' := hW
  obtain ⟨pa, pv, hA, hV, rfl, hz, hn⟩ := hW
  rw [hv] at hV
  obtain ⟨rfl, rfl⟩ := trodVars_none hV
  have e : s.fn H (ds ++ []) = { results := [.lit (.bool true)], args := ds } := by rw [List.append_nil]; exact hfn rfl
  simp only [List.append_nil] at hlt hz hn hW'
  have hres : ∀ b sp hd, DataW.TrodAll enc P W' b sp hd f.resultTypes.toList ((Value.bool true).resultList f.resultTypes.size) [.lit (.bool true)] [] := fun b sp hd => by
    rw [hr]; exact trodAll_cons_mk (shut_bool hb _) trodAll_mk0
  have hargs : ∀ sp : Nat → Bool, (∀ p ∈ pa, sp p.block = true) → DataW.TrodAll enc P W' 0 sp true f.params.toList args.toList ds pa := fun sp hsp => trodAll_stays hl hx hp hA hlt hsp
  have hvars : ∀ sp : Nat → Bool, DataW.TrodVars enc P W' sp s.vars [] [] := fun sp => by rw [hv]; rfl
  refine ⟨ds, [], pa, [], pa, [], hW', by rw [e]; exact hres _ _ _, by rw [e]; exact hargs _ (fun p hp => by simpa using hlt p hp), by rw [e]; exact hvars _, hx.frame _, fun _ => ⟨?_, [.lit (.bool true)] ++ ds, [], ([] ++ pa) ++ [], ⟨[] ++ pa, [], ?_, hvars _, rfl, ?_, ?_⟩, ?_⟩⟩
  · exact ok_one hr rfl (okWide_bool_mk hb _)
  · exact trodAll_append (hargs _ (fun _ _ => rfl)) (hres _ _ _)
  · intro b off hp
    have hp' : MemPlace.cell b off ∈ pa := by simpa using hp
    rw [hx.frozen (hlt _ hp')]
    exact hz b off hp'
  · intro ha
    simpa using hn ha
  · intro p hp _
    simpa using hp
theorem weights_app {P : Program} : ∀ (ts us : List TypeId) (ds : List (DataW H)), ∀ n ∈ DataW.weightsEach P ts ds, n ∈ DataW.weightsEach P (ts ++ us) ds
  | [], _, _, n, h => by simp [DataW.weightsEach] at h
  | _ :: _, _, [], n, h => by simp [DataW.weightsEach] at h
  | t :: ts, us, d :: ds, n, h => by
    simp only [DataW.weightsEach, List.cons_append, List.mem_append] at h ⊢
    rcases h with h | h
    · exact .inl h
    · exact .inr (weights_app ts us ds n h)
end

section
variable {H : Type} {enc : TypeId × Value → H} {w : World} {t : TypeId} {v : Value} {d : DataW H} {ps : List MemPlace}
set_option maxRecDepth 100000
/-- an argument's reading, as a typed reading of its cells -/
theorem arg_tr (h : DataW.Trod enc G.P w 0 (fun _ => true) true t v d ps) (hw : ∀ n ∈ d.weights G.P t, n ≤ reachBytes) : Tr w t v.cells.toList := by
  obtain ⟨fuel, h⟩ := h
  exact ⟨H, enc, _, _, fuel, _, h, hw⟩
/-- a struct that is an argument -/
theorem arg_struct {bs : Nat} {fs : Array Field} (ht : G.P.underlying t = some (.struct fs)) (ho : Value.okWide G.P w .any bs t v) (h : DataW.Trod enc G.P w 0 (fun _ => true) true t v d ps) (hw : ∀ n ∈ d.weights G.P t, n ≤ reachBytes) : ∃ cs : List Value, v = .agg cs.toArray ∧ cs.length = G.P.cellsOf t ∧ Tr w t cs := by
  obtain ⟨cs, rfl, hcl⟩ := okWide_struct ht ho
  exact ⟨cs.toList, by simp, by simpa using hcl, arg_tr h hw⟩
end
end Go.Proofs.YtmkgfccfnpmcjaaDoor
/- The rows of this seat whose laws lay strings.asciiSpace and unicode.White_Space: what the list gives; the witness. -/
namespace Go.Proofs.YtmkgfccfnpmcjaaDoor
open Go.ChangeShapes Go.WideShapes Go.ChangeAt Go.RowKit
set_option maxRecDepth 100000

/-- from the row's list: the table that stands second on it -/
theorem tabIs_second {P : Program} {W : World} {name n0 : String} {d0 : DataW Unit} {k : IntKind} {zs : List Int} {rest : List (String × DataW Unit)} {g : Nat} {t e : TypeId} {n : Nat}
    (hg : P.globalNamed name = some g) (hty : (P.globals[g]?).map (·.type) = some t) (ht : P.underlying t = some (.array n e)) (he : P.underlying e = some (.int k)) (hce : P.cellsOf e = 1) (hct : P.cellsOf t = n)
    (h : laidMet P ((n0, d0) :: (name, Lib.tabData k zs) :: rest) W) : Lib.TabIs P W name k zs := by
  obtain ⟨ps, ⟨_, _, _, _, _, _, _, _, _, _, ⟨g', t', cs, fuel, p, q, hg', ht', hvar, hd, _, _⟩, _⟩, _⟩ := h
  obtain rfl := Option.some.inj (hg.symm.trans hg')
  obtain rfl := Option.some.inj (hty.symm.trans ht')
  unfold Lib.TabIs
  rw [hvar, ← Lib.cells_of_tab ht he hce hct hd]
theorem laid_asc : (Rows.laid_strings_asciiSpace : DataW Unit) = Lib.tabData .u8 Lib.asciiSpaceTab := by kernel_rfl
def laidS : List (String × DataW Unit) := [("unicode.White_Space", Rows.laid_unicode_White_Space), ("strings.asciiSpace", Rows.laid_strings_asciiSpace)]
theorem gAsc : Tryd.prog.globalNamed "strings.asciiSpace" = some 0 := by kernel_rfl
theorem env0_of {W : World} (hL : laidMetH Tryd.prog laidS W) (hsh : W.ShapedOpen Tryd.prog) : Env0 W := by
  have hL' : laidMet Tryd.prog [("unicode.White_Space", Rows.laid_unicode_White_Space), ("strings.asciiSpace", Lib.tabData .u8 Lib.asciiSpaceTab)] W := by
    have : laidMet Tryd.prog [("unicode.White_Space", Rows.laid_unicode_White_Space), ("strings.asciiSpace", Rows.laid_strings_asciiSpace)] W := hL
    rwa [laid_asc] at this
  have ht := tabIs_second (t := 173) (e := 5) (n := 256) gAsc (by kernel_rfl) (by kernel_rfl) Tryd.underlying5 (by kernel_rfl) (by kernel_rfl) hL'
  refine ⟨fun c hc => ?_, cell_of_shapedOpen_int (zero := #[.int .i64 0]) (t := 3) hsh (of_decide_eq_true (by kernel_rfl)) (by kernel_rfl) rfl (by kernel_rfl) (by kernel_rfl) Tryd.underlying3⟩
  have := ht.cell gAsc c (by unfold Lib.asciiSpaceTab; simp; exact hc)
  rw [this]
  unfold Lib.asciiSpaceTab
  simp [List.getD_eq_getElem?_getD, hc]
end Go.Proofs.YtmkgfccfnpmcjaaDoor
/- CensusDeep: the row and its card. Conditions: none beyond the form's own. Printed by gen_vd.py. -/
namespace Go.Proofs.YtmkgfccfnpmcjaaDoor
open Go.ChangeShapes Go.WideShapes Go.ChangeAt Go.RowKit
set_option maxRecDepth 100000
section
variable {H : Type} {enc : TypeId × Value → H} {w : World} {t e : TypeId} {v : Value} {d : DataW H} {ps : List MemPlace} {bs : Nat}
theorem arg_num {k : IntKind} (ht : G.P.underlying t = some (.int k)) (ho : Value.okWide G.P w .any bs t v) (h : DataW.Trod enc G.P w 0 (fun _ => true) true t v d ps) (hw : ∀ n ∈ d.weights G.P t, n ≤ reachBytes) : ∃ a : Int, v = .int k a ∧ (Lit.int k a).wf = true := by
  obtain ⟨a, rfl⟩ := okWide_int ht ho
  obtain ⟨b, e, hb⟩ := (arg_tr h hw).int ht
  cases e
  exact ⟨a, rfl, hb⟩
theorem wf_nat8 {a : Int} (h : (Lit.int .u8 a).wf = true) : ∃ n : Nat, a = n ∧ n ≤ 255 := by
  have e1 : IntKind.u8.min = 0 := by decide
  have e2 : IntKind.u8.max = 255 := by decide
  simp only [Lit.wf, e1, e2, Bool.and_eq_true, decide_eq_true_eq] at h
  exact ⟨a.toNat, by omega, by omega⟩
theorem wf_nat16 {a : Int} (h : (Lit.int .u16 a).wf = true) : ∃ n : Nat, a = n ∧ n ≤ 65535 := by
  have e1 : IntKind.u16.min = 0 := by decide
  have e2 : IntKind.u16.max = 65535 := by decide
  simp only [Lit.wf, e1, e2, Bool.and_eq_true, decide_eq_true_eq] at h
  exact ⟨a.toNat, by omega, by omega⟩
theorem arg_u16 (ht : G.P.underlying t = some (.slice e)) (he : G.P.underlying e = some (.int .u16)) (hc : G.P.cellsOf e = 1) (hby : G.P.bytesOf e = 2) (ho : Value.okWide G.P w .any bs t v) (h : DataW.Trod enc G.P w 0 (fun _ => true) true t v d ps) (hw : ∀ n ∈ d.weights G.P t, n ≤ reachBytes) : ∃ ms : List Nat, U16R w v ms := by
  obtain ⟨p0, l0, c0, rfl⟩ := okWide_slice ht ho
  obtain ⟨p, cap, ys, heq, hl, hx0⟩ := (arg_tr h hw).slice_of (α := Nat) (fun b o y => w.cell? ⟨b, o, none⟩ = some (.int .u16 (y : Int)) ∧ y ≤ 65535) ht hc hby (by omega) (fun b o cs hcl hcc hcs => by
    obtain ⟨n, rfl, hn⟩ := hcs.int he
    obtain ⟨k, rfl, hk⟩ := wf_nat16 hn
    exact ⟨k, hcc 0 (by omega), hk⟩)
  cases heq
  refine ⟨ys, p0, c0, rfl, ?_⟩
  rcases hx0 with h | ⟨b, off, rfl, -, hx⟩
  · exact .inl h
  · exact .inr ⟨b, off, rfl, fun i hi => by have := hx i hi; rwa [Nat.mul_one] at this⟩
end
/-- the witness: the settled world with unicode.White_Space's ranges and its table, and strings.asciiSpace laid -/
noncomputable def censusDeepWorld (os : Os) : World :=
  let N := (World.settled Tryd.prog os).heap.size
  let w0 := World.holding Tryd.prog os ⟨#[.cells (Lib.whiteT.map fun (z : Nat) => Value.int .u16 (z : Int)).toArray 189, .cells #[.slice (some ⟨N, 0, none⟩) 7 7, .slice none 0 0, .int .i64 2] 187], #[], []⟩
  let put (h : Array Obj) (g : Nat) (cs : Array Value) : Array Obj := h.modify g fun
    | .cells _ t frozen => .cells cs t frozen
    | o => o
  let h1 := put w0.heap 0 (Lib.asciiSpaceTab.map fun z => Value.int .u8 z).toArray
  let h2 := put h1 2 #[.pointer (some ⟨N + 1, 0, none⟩)]
  { w0 with heap := h2 }
theorem censusDeep_met (os : Os) (args : Array Value) : laidMet Tryd.prog Rows.censusDeepRow.laid ((censusDeepWorld os).forCall (fun _ _ => 0) ⟨#[], args, []⟩).memory :=
  laidMet_of_run' 8 (by kernel_rfl) (by kernel_rfl)
theorem censusDeep_witness (os : Os) {H : Type} (enc : TypeId × Value → H) :
    (OpenSpec.ofChange Rows.censusDeepSpec).preRow enc Tryd.prog Tryd.f3 Rows.censusDeepRow.domain false Rows.censusDeepRow.laid ((censusDeepWorld os).forCall (fun _ _ => 0) ⟨#[], #[.int .u8 0, .int .u8 0, .slice none 0 0, .bool false, .int .u8 0, .int .u8 0], []⟩).memory #[.int .u8 0, .int .u8 0, .slice none 0 0, .bool false, .int .u8 0, .int .u8 0] := by
  have hw : (DataW.whole enc Tryd.prog ((censusDeepWorld os).forCall (fun _ _ => 0) ⟨#[], #[.int .u8 0, .int .u8 0, .slice none 0 0, .bool false, .int .u8 0, .int .u8 0], []⟩).memory Tryd.f3.params.toList Rows.censusDeepSpec.vars false (#[.int .u8 0, .int .u8 0, .slice none 0 0, .bool false, .int .u8 0, .int .u8 0] : Array Value).toList 8).map (fun x => (x.1, x.2.1)) =
      some ([.lit (.int .u8 0), .lit (.int .u8 0), .nil, .lit (.bool false), .lit (.int .u8 0), .lit (.int .u8 0)], []) := by kernel_rfl
  obtain ⟨⟨x1, x2, x3⟩, hx, hx1⟩ := Option.map_eq_some_iff.1 hw
  simp only [Prod.mk.injEq] at hx1
  obtain ⟨rfl, rfl⟩ := hx1
  exact OpenSpec.preRow_of_cond 8 hx (by kernel_rfl) (fun k hk => by cases hk) (by kernel_rfl) (censusDeep_met os _)
theorem censusDeep_lifted (os : Os) (started : os.Started) (H : Type) (enc : TypeId × Value → H) (F : Stop.Interp) :
    ReturnsInHanded {} Tryd.checked os 3 .any ((OpenSpec.ofChange Rows.censusDeepSpec).preRow enc Tryd.prog Tryd.f3 Rows.censusDeepRow.domain false Rows.censusDeepRow.laid) (((OpenSpec.ofChange Rows.censusDeepSpec).at F).post enc Tryd.prog Tryd.f3 false true false false) := by
  refine returnsInHanded_of_row (C := Tryd.checked) (s := OpenSpec.ofChange Rows.censusDeepSpec) own started (by kernel_rfl) Tryd.func3
    (witness_row_atRef (enc := enc) (C := Tryd.checked) false (censusDeepWorld os) #[.int .u8 0, .int .u8 0, .slice none 0 0, .bool false, .int .u8 0, .int .u8 0] rfl (by kernel_rfl) (by kernel_rfl) (by kernel_rfl) (censusDeep_witness os enc)) ?_
  intro W base args ds gs before hval0 hW _ _ hsz hL hsh _
  have h0 : Env0 W := env0_of hL hsh
  have hW' : DataW.Whole enc Tryd.prog Tryd.f3.params.toList Rows.censusDeepSpec.vars false W args.toList ds gs before := hW
  obtain ⟨p, q, hA0, hV, rfl, hfz, hnd⟩ := hW
  have hA : DataW.TrodAll enc Tryd.prog W 0 (fun _ => true) true Tryd.f3.params.toList args.toList ds p := hA0
  obtain ⟨rfl, rfl⟩ := trodVars_none hV
  have hz : ∀ n ∈ DataW.weightsEach Tryd.prog Tryd.f3.params.toList ds, n ≤ reachBytes := fun n hn => by
    have h1 := List.all_eq_true.1 hsz n (by rw [List.append_nil]; exact weights_app _ _ _ n hn)
    simpa using h1
  have hval : ∀ (j : Nat) t v, Tryd.f3.params[j]? = some t → args[j]? = some v → Value.okWide Tryd.prog W .any base t v := hval0
  rw [Tryd.params3] at hA hz hval
  obtain ⟨v0, vs0, d0, ds0, p0, q0, hargs, rfl, rfl, h0', r0⟩ := trodAll_cons hA
  obtain ⟨v1, vs1, d1, ds1, p1, q1, rfl, rfl, rfl, h1', r1⟩ := trodAll_cons r0
  obtain ⟨v2, vs2, d2, ds2, p2, q2, rfl, rfl, rfl, h2', r2⟩ := trodAll_cons r1
  obtain ⟨v3, vs3, d3, ds3, p3, q3, rfl, rfl, rfl, h3', r3⟩ := trodAll_cons r2
  obtain ⟨v4, vs4, d4, ds4, p4, q4, rfl, rfl, rfl, h4', r4⟩ := trodAll_cons r3
  obtain ⟨v5, vs5, d5, ds5, p5, q5, rfl, rfl, rfl, h5', r5⟩ := trodAll_cons r4
  obtain ⟨rfl, rfl, rfl⟩ := trodAll_nil r5
  obtain rfl : args = #[v0, v1, v2, v3, v4, v5] := by cases args; simp_all
  obtain ⟨a0, rfl, w0⟩ := arg_num Tryd.underlying5 (hval 0 _ v0 rfl rfl) h0' (fun n hn => hz n (by simp only [DataW.weightsEach, List.append_nil]; exact List.mem_append_left _ hn))
  obtain ⟨n0, rfl, b0⟩ := wf_nat8 w0
  obtain ⟨a1, rfl, w1⟩ := arg_num Tryd.underlying5 (hval 1 _ v1 rfl rfl) h1' (fun n hn => hz n (by simp only [DataW.weightsEach, List.append_nil]; refine List.mem_append_right _ ?_; exact List.mem_append_left _ hn))
  obtain ⟨n1, rfl, b1⟩ := wf_nat8 w1
  obtain ⟨a4, rfl, w4⟩ := arg_num Tryd.underlying5 (hval 4 _ v4 rfl rfl) h4' (fun n hn => hz n (by simp only [DataW.weightsEach, List.append_nil]; refine List.mem_append_right _ ?_; refine List.mem_append_right _ ?_; refine List.mem_append_right _ ?_; refine List.mem_append_right _ ?_; exact List.mem_append_left _ hn))
  obtain ⟨n4, rfl, b4⟩ := wf_nat8 w4
  obtain ⟨a5, rfl, w5⟩ := arg_num Tryd.underlying5 (hval 5 _ v5 rfl rfl) h5' (fun n hn => hz n (by simp only [DataW.weightsEach, List.append_nil]; refine List.mem_append_right _ ?_; refine List.mem_append_right _ ?_; refine List.mem_append_right _ ?_; refine List.mem_append_right _ ?_; refine List.mem_append_right _ ?_; exact hn))
  obtain ⟨n5, rfl, b5⟩ := wf_nat8 w5
  obtain ⟨b3, rfl⟩ := okWide_bool Tryd.underlying4 (hval 3 _ v3 rfl rfl)
  obtain ⟨ms, hms⟩ := arg_u16 Tryd.underlying22 Tryd.underlying57 (by kernel_rfl) (by kernel_rfl) (hval 2 _ v2 rfl rfl) h2' (fun n hn => hz n (by simp only [DataW.weightsEach, List.append_nil]; refine List.mem_append_right _ ?_; refine List.mem_append_right _ ?_; exact List.mem_append_left _ hn))
  refine (law57_CensusDeep n0 n1 n4 n5 ms b3 v2 W b0 b1 b4 b5 hms h0).mono fun e W' ⟨he, hx⟩ => ?_
  subst he
  exact ⟨_, rfl, post_of_true (P := Tryd.prog) laidOut rfl (tb := 4) (by kernel_rfl) Tryd.underlying4 (by kernel_rfl) hW' (fun _ => rfl) hx.below⟩
theorem censusDeep_holds : Rows.CensusDeepSaid :=
  OpenClaim.holds_of_cond 3 Tryd.f3 rfl rfl rfl rfl rfl rfl rfl ⟨rfl, rfl, rfl, rfl, rfl⟩ rfl rfl rfl rfl rfl (by kernel_rfl) Tryd.func3 (by kernel_rfl)
    (of_decide_eq_true (by kernel_rfl)) (by unfold Func.isWrapper; first | (rw [if_pos (by decide +kernel)]; kernel_rfl) | (rw [if_neg (by decide +kernel)]; exact ⟨rfl, rfl⟩))
    (fun os started H enc _ F => by rw [OpenClaim.pre_eq_preRow]; exact censusDeep_lifted os started H enc F)
theorem censusDeep_plain (f : FuncId) (fn : Func) (hf : Tryd.pinned.checked.prog.funcNamed "millwright/millwrightlaw57.CensusDeep" = some f) (hfn : Tryd.pinned.checked.prog.funcs[f]? = some fn) :
    false = Tryd.pinned.checked.prog.looks [] ∧ ∀ (j : Nat) t, fn.params[j]? = some t → Tryd.pinned.checked.prog.wantsStandIn t = false := by
  obtain rfl : f = 3 := Option.some.inj ((show Tryd.prog.funcNamed "millwright/millwrightlaw57.CensusDeep" = some 3 by kernel_rfl).symm.trans hf) |>.symm
  obtain rfl : fn = Tryd.f3 := (Option.some.inj (Tryd.func3.symm.trans hfn)).symm
  refine ⟨by kernel_rfl, fun j t ht => ?_⟩
  rw [Tryd.params3] at ht
  have hm := Array.mem_of_getElem? ht
  have h3 : t = 5 ∨ t = 22 ∨ t = 4 := by
    simp at hm
    first | (rcases hm with h | h | h | h <;> simp [h]) | (rcases hm with h | h | h | h | h | h <;> simp [h]) | (rcases hm with h | h | h <;> simp [h])
  rcases h3 with rfl | rfl | rfl
  · exact (show Tryd.prog.wantsStandIn 5 = false by kernel_rfl)
  · exact (show Tryd.prog.wantsStandIn 22 = false by kernel_rfl)
  · exact (show Tryd.prog.wantsStandIn 4 = false by kernel_rfl)
theorem censusDeep_card : Rows.CensusDeepCardSaid :=
  Claim7.holds_tied_plain_at .later [] _ _ _ _ censusDeep_holds (fun _ h => by cases h) (by kernel_rfl) (fun _ h => by cases h) censusDeep_row_tie rfl ⟨rfl, rfl⟩ (by kernel_rfl) rfl censusDeep_plain (by kernel_rfl)
#print axioms censusDeep_card
end Go.Proofs.YtmkgfccfnpmcjaaDoor
