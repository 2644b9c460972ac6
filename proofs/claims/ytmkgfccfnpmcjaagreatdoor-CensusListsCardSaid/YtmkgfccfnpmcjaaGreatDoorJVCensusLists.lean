/- Rows: out of the laws' walks; what every seat needs. -/
import Derived.Test.YtmkgfccfnpmcjaaGreatDoorRows
import Derived.Test.YtmkgfccfnpmcjaaGreatDoorJU
import Derived.ProofKit
import Derived.OpenShut
import Derived.Test.YtmkgfccfnpmcjaaGreatDoorJLb
import Derived.Test.YtmkgfccfnpmcjaaGreatDoorCards
import Derived.Test.YtmkgfccfnpmcjaaGreatDoorTie
import Derived.Deep.DeepHandedRow
import Derived.Deep.DeepWitnessRowRef
import Derived.Lib.LaidTab
import Derived.Lib.Space
import Derived.Lib.SpaceR
import Derived.Shelf.Vars
import Derived.Test.YtmkgfccfnpmcjaaGreatDoorJKc
import Derived.Test.YtmkgfccfnpmcjaaGreatDoorJOp
namespace Go.Proofs.YtmkgfccfnpmcjaaGreatDoor
open Go.ChangeShapes Go.WideShapes Go.ChangeAt Go.RowKit

theorem own : ownKnob Tryz.prog.godebug = none := by kernel_rfl
theorem laidOut : laidOutB Tryz.prog = true := by kernel_rfl

section
variable {H : Type} {enc : TypeId × Value → H} {P : Program}
/-- each of the types can be read and is a row of the table -/
def rowed (P : Program) (ts : List TypeId) : Bool := ts.all fun t => P.readableRec t && decide (t < P.types.size)
theorem trodAll_stays (hl : laidOutB P = true) {W W' : World} (hb : Below W.heap.size W W') {sp : Nat → Bool} : ∀ {ts : List TypeId} {vs : List Value} {ds : List (DataW H)} {ps : List MemPlace}, rowed P ts = true →
    DataW.TrodAll enc P W 0 (fun _ => true) true ts vs ds ps → (∀ x ∈ ps, x.block < W.heap.size) → (∀ x ∈ ps, sp x.block = true) → DataW.TrodAll enc P W' 0 sp true ts vs ds ps
  | [], _, _, _, _, h, _, _ => by
    obtain ⟨rfl, rfl, rfl⟩ := trodAll_nil h
    exact trodAll_mk0
  | t :: ts, _, _, _, hr, h, h1, h2 => by
    obtain ⟨v, vs, d, ds, p, q, rfl, rfl, rfl, ht, hts⟩ := trodAll_cons h
    simp only [rowed, List.all_cons, Bool.and_eq_true, decide_eq_true_eq] at hr
    refine trodAll_cons_mk (Go.WideElems.Trod_stays hl hr.1.1 hr.1.2 ht (fun x hx => hb.same (h1 x (by simp [hx]))) (fun x hx => h2 x (by simp [hx]))) (trodAll_stays hl hb (by simpa [rowed] using hr.2) hts (fun x hx => h1 x (by simp [hx])) (fun x hx => h2 x (by simp [hx])))
/-- a law's postcondition: it has answered true, and below the heap's old size nothing has turned -/
theorem post_of_true {f : Func} {s : ChangeSpec} {apart fresh handsOn again : Bool} {W W' : World} {args : Array Value} {ds gs : List (DataW H)} {before : List MemPlace} {tb : TypeId}
    (hl : laidOutB P = true) (hv : s.vars = []) (hr : f.resultTypes = #[tb]) (hb : P.underlying tb = some .bool) (hp : rowed P f.params.toList = true)
    (hW : DataW.Whole enc P f.params.toList s.vars apart W args.toList ds gs before) (hfn : gs = [] → s.fn H ds = { results := [.lit (.bool true)], args := ds }) (hx : Below W.heap.size W W') :
    s.post enc P f apart fresh handsOn again W args (.bool true) W' := by
  have hlt := hW.lt
  have hW' := hW
  obtain ⟨pa, pv, hA, hV, rfl, hz, hn⟩ := hW
  rw [hv] at hV
  obtain ⟨rfl, rfl⟩ := trodVars_none hV
  have e : s.fn H (ds ++ []) = { results := [.lit (.bool true)], args := ds } := by rw [List.append_nil]; exact hfn rfl
  simp only [List.append_nil] at hlt hz hn hW'
  have hres : ∀ b sp hd, DataW.TrodAll enc P W' b sp hd f.resultTypes.toList ((Value.bool true).resultList f.resultTypes.size) [.lit (.bool true)] [] := fun b sp hd => by
    rw [hr]; exact trodAll_cons_mk (shut_bool hb _) trodAll_mk0
  have hargs : ∀ sp : Nat → Bool, (∀ p ∈ pa, sp p.block = true) → DataW.TrodAll enc P W' 0 sp true f.params.toList args.toList ds pa := fun sp hsp => trodAll_stays hl hx hp hA hlt hsp
  have hvars : ∀ sp : Nat → Bool, DataW.TrodVars enc P W' sp s.vars [] [] := fun sp => by rw [hv]; rfl
  refine ⟨ds, [], pa, [], pa, [], hW', by rw [e]; exact hres _ _ _, by rw [e]; exact hargs _ (fun p hp => by simpa using hlt p hp), by rw [e]; exact hvars _, hx.frame _, fun _ => ⟨?_, [.lit (.bool true)] ++ ds, [], ([] ++ pa) ++ [], ⟨[] ++ pa, [], ?_, hvars _, rfl, ?_, ?_⟩, ?_⟩⟩
  · exact ok_one hr rfl (okWide_bool_mk hb _)
  · exact trodAll_append (hargs _ (fun _ _ => rfl)) (hres _ _ _)
  · intro b off hp
    have hp' : MemPlace.cell b off ∈ pa := by simpa using hp
    rw [hx.frozen (hlt _ hp')]
    exact hz b off hp'
  · intro ha
    simpa using hn ha
  · intro p hp _
    simpa using hp
theorem weights_app {P : Program} : ∀ (ts us : List TypeId) (ds : List (DataW H)), ∀ n ∈ DataW.weightsEach P ts ds, n ∈ DataW.weightsEach P (ts ++ us) ds
  | [], _, _, n, h => by simp [DataW.weightsEach] at h
  | _ :: _, _, [], n, h => by simp [DataW.weightsEach] at h
  | t :: ts, us, d :: ds, n, h => by
    simp only [DataW.weightsEach, List.cons_append, List.mem_append] at h ⊢
    rcases h with h | h
    · exact .inl h
    · exact .inr (weights_app ts us ds n h)
end

section
variable {H : Type} {enc : TypeId × Value → H} {w : World} {t : TypeId} {v : Value} {d : DataW H} {ps : List MemPlace}
set_option maxRecDepth 100000
/-- an argument's reading, as a typed reading of its cells -/
theorem arg_tr (h : DataW.Trod enc G.P w 0 (fun _ => true) true t v d ps) (hw : ∀ n ∈ d.weights G.P t, n ≤ reachBytes) : Tr w t v.cells.toList := by
  obtain ⟨fuel, h⟩ := h
  exact ⟨H, enc, _, _, fuel, _, h, hw⟩
/-- a struct that is an argument -/
theorem arg_struct {bs : Nat} {fs : Array Field} (ht : G.P.underlying t = some (.struct fs)) (ho : Value.okWide G.P w .any bs t v) (h : DataW.Trod enc G.P w 0 (fun _ => true) true t v d ps) (hw : ∀ n ∈ d.weights G.P t, n ≤ reachBytes) : ∃ cs : List Value, v = .agg cs.toArray ∧ cs.length = G.P.cellsOf t ∧ Tr w t cs := by
  obtain ⟨cs, rfl, hcl⟩ := okWide_struct ht ho
  exact ⟨cs.toList, by simp, by simpa using hcl, arg_tr h hw⟩
end
end Go.Proofs.YtmkgfccfnpmcjaaGreatDoor
/- The rows of this seat whose laws lay strings.asciiSpace and unicode.White_Space: what the list gives; the witness. -/
namespace Go.Proofs.YtmkgfccfnpmcjaaGreatDoor
open Go.ChangeShapes Go.WideShapes Go.ChangeAt Go.RowKit
set_option maxRecDepth 100000

/-- from the row's list: the table that stands second on it -/
theorem tabIs_second {P : Program} {W : World} {name n0 : String} {d0 : DataW Unit} {k : IntKind} {zs : List Int} {rest : List (String × DataW Unit)} {g : Nat} {t e : TypeId} {n : Nat}
    (hg : P.globalNamed name = some g) (hty : (P.globals[g]?).map (·.type) = some t) (ht : P.underlying t = some (.array n e)) (he : P.underlying e = some (.int k)) (hce : P.cellsOf e = 1) (hct : P.cellsOf t = n)
    (h : laidMet P ((n0, d0) :: (name, Lib.tabData k zs) :: rest) W) : Lib.TabIs P W name k zs := by
  obtain ⟨ps, ⟨_, _, _, _, _, _, _, _, _, _, ⟨g', t', cs, fuel, p, q, hg', ht', hvar, hd, _, _⟩, _⟩, _⟩ := h
  obtain rfl := Option.some.inj (hg.symm.trans hg')
  obtain rfl := Option.some.inj (hty.symm.trans ht')
  unfold Lib.TabIs
  rw [hvar, ← Lib.cells_of_tab ht he hce hct hd]
theorem laid_asc : (Rows.laid_strings_asciiSpace : DataW Unit) = Lib.tabData .u8 Lib.asciiSpaceTab := by kernel_rfl
def laidS : List (String × DataW Unit) := [("unicode.White_Space", Rows.laid_unicode_White_Space), ("strings.asciiSpace", Rows.laid_strings_asciiSpace)]
theorem gAsc : Tryz.prog.globalNamed "strings.asciiSpace" = some 0 := by kernel_rfl
theorem env0_of {W : World} (hL : laidMetH Tryz.prog laidS W) (hsh : W.ShapedOpen Tryz.prog) : Env0 W := by
  have hL' : laidMet Tryz.prog [("unicode.White_Space", Rows.laid_unicode_White_Space), ("strings.asciiSpace", Lib.tabData .u8 Lib.asciiSpaceTab)] W := by
    have : laidMet Tryz.prog [("unicode.White_Space", Rows.laid_unicode_White_Space), ("strings.asciiSpace", Rows.laid_strings_asciiSpace)] W := hL
    rwa [laid_asc] at this
  have ht := tabIs_second (t := 208) (e := 5) (n := 256) gAsc (by kernel_rfl) (by kernel_rfl) Tryz.underlying5 (by kernel_rfl) (by kernel_rfl) hL'
  refine ⟨fun c hc => ?_, cell_of_shapedOpen_int (zero := #[.int .i64 0]) (t := 3) hsh (of_decide_eq_true (by kernel_rfl)) (by kernel_rfl) rfl (by kernel_rfl) (by kernel_rfl) Tryz.underlying3⟩
  have := ht.cell gAsc c (by unfold Lib.asciiSpaceTab; simp; exact hc)
  rw [this]
  unfold Lib.asciiSpaceTab
  simp [List.getD_eq_getElem?_getD, hc]
theorem cen_of {w : World} {cs : List Value} (h : Tr w 35 cs) : ∃ c, cs = cenC c := by
  obtain ⟨hcl, hf⟩ := h.struct Tryz.underlying35
  have hl : cs.length = 8 := by rw [hcl]; kernel_rfl
  match cs, hl with
  | [c0, c1, c2, c3, c4, c5, c6, c7], _ =>
    obtain ⟨y0, e0, -⟩ := (show Tr w _ [c0] from Tr.fld hf 0 0 1 rfl (by kernel_rfl)).int Tryz.underlying3
    obtain ⟨y1, e1, -⟩ := (show Tr w _ [c1] from Tr.fld hf 1 1 1 rfl (by kernel_rfl)).int Tryz.underlying3
    obtain ⟨y2, e2, -⟩ := (show Tr w _ [c2] from Tr.fld hf 2 2 1 rfl (by kernel_rfl)).int Tryz.underlying3
    obtain ⟨y3, e3, -⟩ := (show Tr w _ [c3] from Tr.fld hf 3 3 1 rfl (by kernel_rfl)).int Tryz.underlying3
    obtain ⟨y4, e4, -⟩ := (show Tr w _ [c4] from Tr.fld hf 4 4 1 rfl (by kernel_rfl)).int Tryz.underlying3
    obtain ⟨y5, e5, -⟩ := (show Tr w _ [c5] from Tr.fld hf 5 5 1 rfl (by kernel_rfl)).int Tryz.underlying3
    obtain ⟨y6, e6, -⟩ := (show Tr w _ [c6] from Tr.fld hf 6 6 1 rfl (by kernel_rfl)).int Tryz.underlying3
    obtain ⟨y7, e7, -⟩ := (show Tr w _ [c7] from Tr.fld hf 7 7 1 rfl (by kernel_rfl)).int Tryz.underlying3
    cases e0; cases e1; cases e2; cases e3; cases e4; cases e5; cases e6; cases e7
    exact ⟨⟨y0, y1, y2, y3, y4, y5, y6, y7⟩, rfl⟩
end Go.Proofs.YtmkgfccfnpmcjaaGreatDoor
/- law57.CensusLists walked. -/
namespace Go.Proofs.YtmkgfccfnpmcjaaGreatDoor
open Go.RowKit
set_option maxRecDepth 100000

abbrev RowF (lo : Nat) (v : Value) (g : List (List Int)) : World → Prop := fun w => RowsR (fun k => lo ≤ k) w v g
set_option maxHeartbeats 32000000 in
theorem law57_CensusLists (m : ApiModule) (cs : List Value) (w : World) (hm : ApiModuleV (fun _ => True) w cs m) (h0 : Env0 w) : Calls G.P 4 #[.agg cs.toArray] w fun e w' => e = .returned (.bool true) ∧ Ext w w' := by
  have hm0 := hm
  have hlen := hm0.len
  obtain ⟨c0, c1, c2, c3, c4, c5, c6, c7, c8, c9, c10, c11, rfl⟩ := len12_ hlen
  refine enterH (l := [.agg ([c0, c1, c2, c3, c4, c5, c6, c7, c8, c9, c10, c11] : List Value).toArray]) Tryz.func4 rfl Tryz.ntmps4 rfl (Ok.start w) ?_
  refine wgh ?_
  refine OpsH.box ([c0, c1, c2, c3, c4, c5, c6, c7, c8, c9, c10, c11] : List Value) rfl rfl rfl fun b1 => ?_
  refine wgh ?_
  refine OpsH.he (HE.callB rfl rfl (fun w' hw' => law57_light _ m _ w' (hm0.chg (show Ext w w' from hw'.at) (fun _ _ _ h => h)))) rfl ?_
  rintro (_ | _) hlf
  · refine wgh ?_
    refine OpsH.call1 rfl rfl rfl (fun w' hw' => law57_alive w' (h0.ext hw'.at)) ?_
    refine wgh ?_
    exact FinH.ret1 rfl rfl fun w' hw' => ⟨rfl, hw'.at⟩
  obtain ⟨-, hLP⟩ := hlf rfl
  have hsm := hLP.small
  have hL := hLP.1
  have L2 := hL.2.2.1
  refine wgh ?_
  refine CdH.sub (E' := [(1, .pointer (some ⟨b1, 0, none⟩))]) wsub (M' := [.blk b1 ([c0, c1, c2, c3, c4, c5, c6, c7, c8, c9, c10, c11] : List Value) TMod]) (R' := [Ext w]) wsl wsr ?_
  refine CdH.join (α := (Nat × Value) × (Nat × Value)) (fun x => [(3, x.1.2), (4, x.2.2), (1, .pointer (some ⟨b1, 0, none⟩))]) (fun _ => [.blk b1 ([c0, c1, c2, c3, c4, c5, c6, c7, c8, c9, c10, c11] : List Value) TMod]) (fun x => [RowF x.1.1 x.1.2 (callsM m), RowF x.2.1 x.2.2 (callsM m), Ext w]) ?_ ?_
  · rintro ⟨⟨lo, va⟩, ⟨lo2, vb⟩⟩
    dsimp only
    refine wgh ?_
    refine CdH.freeze (Cs b1 0 ([c0, c1, c2, c3, c4, c5, c6, c7, c8, c9, c10, c11] : List Value)) wrm (fun w' hq _ j hj => by have hb : Blk w' b1 ([c0, c1, c2, c3, c4, c5, c6, c7, c8, c9, c10, c11] : List Value) TMod := hq; rw [Nat.zero_add, List.getElem?_eq_getElem hj]; exact hb.cell (List.getElem?_eq_getElem hj)) ?_
    refine CdH.anchor fun w1 hw1 => ?_
    have hra : RowsR (fun k => lo ≤ k) w1 va (callsM m) := (show RowF lo va (callsM m) w1 from hw1.at)
    have hrb : RowsR (fun k => lo2 ≤ k) w1 vb (callsM m) := (show RowF lo2 vb (callsM m) w1 from hw1.at)
    have hx1 : Ext w w1 := hw1.at
    have hm1 := hm0.chg hx1 (fun _ _ _ h => h)
    obtain ⟨pa, ca, rfl, hla⟩ := hra.slice
    obtain ⟨pb, cb, rfl, hlb⟩ := hrb.slice
    have hgl : (callsM m).length = m.funcs.length := by simp [callsM]
    have hol : (opsM m).length ≤ 1000000 := by rw [opsM_len, all5_len, r05_len]; omega
    have hCC := fun (w' : World) (hx : Ext w1 w') => census_Deep _ m _ w' (hm1.chg hx (fun _ _ _ h => h)) hL hsm
    have hRC := fun (w' : World) (hx : Ext w1 w') => ref57_Deep _ m _ w' (hm1.chg hx (fun _ _ _ h => h)) hL
    have hCO := fun (w' : World) (hx : Ext w1 w') => census_Ops _ m _ w' (hm1.chg hx (fun _ _ _ h => h)) hL hsm (h0.ext (hx1.trans hx))
    have hRO := fun (w' : World) (hx : Ext w1 w') => ref57_Ops _ m _ w' (hm1.chg hx (fun _ _ _ h => h)) hL hsm
    generalize callsM m = g at *
    generalize opsM m = os at *
    refine CdH.sub (E' := [(3, .slice pa g.length ca), (4, .slice pb g.length cb), (1, .pointer (some ⟨b1, 0, none⟩))]) wsub (M' := []) (R' := [Ext w1, Cs b1 0 ([c0, c1, c2, c3, c4, c5, c6, c7, c8, c9, c10, c11] : List Value), Ext w]) wsl wsr ?_
    refine CdH.join (α := Unit) (fun _ => [(33, .bool false), (3, .slice pa g.length ca), (4, .slice pb g.length cb), (1, .pointer (some ⟨b1, 0, none⟩))]) (fun _ => []) (fun _ => [Ext w1, Cs b1 0 ([c0, c1, c2, c3, c4, c5, c6, c7, c8, c9, c10, c11] : List Value), Ext w]) ?_ ?_
    · rintro ⟨⟩
      refine wgh ?_
      refine CdH.loop (σ := Nat) (fun i => [(5, .int .i64 i), (3, .slice pa g.length ca), (4, .slice pb g.length cb), (1, .pointer (some ⟨b1, 0, none⟩))]) (fun _ => []) (fun _ => [Ext w1, Cs b1 0 ([c0, c1, c2, c3, c4, c5, c6, c7, c8, c9, c10, c11] : List Value), Ext w]) (fun i => i ≤ g.length) (fun i => g.length - i) 0 wsub wsl wsr (by omega) ?_
      intro i hi
      by_cases hlt : i < g.length
      · obtain ⟨ba, oa, rfl, -, ha⟩ := hra.at hlt
        obtain ⟨bb, ob, rfl, -, hb⟩ := hrb.at hlt
        obtain ⟨ua, hca, hia⟩ := ha i hlt
        obtain ⟨ub, hcb, hib⟩ := hb i hlt
        refine wgh ?_
        refine CdH.regionQ (by kernel_rfl) ?_
        refine wgh ?_
        refine Ops.callH (v := .bool true) rfl rfl rfl (fun w' hw' => (law57_ints _ _ (ix g i) (ix g i) ua ub w' (hia.chg (show Ext w1 w' from hw'.at) (fun _ _ _ h => h)) (hib.chg (show Ext w1 w' from hw'.at) (fun _ _ _ h => h))).mono fun _ _ h => ⟨by rw [h.1, decide_eq_true rfl], h.2⟩) ?_
        refine wgh ?_
        exact FinH.next (i + 1) wsub wsl wsr (by omega) (by omega)
      · obtain rfl : i = g.length := by omega
        refine wgh ?_
        refine OpsH.call1 rfl rfl rfl (fun w' hw' => law57_alive w' (h0.ext hw'.at)) ?_
        refine wgh ?_
        exact FinH.ret1 rfl rfl fun w' hw' => ⟨rfl, hw'.at⟩
    intro hrest
    refine CdH.regionR [] [Ext w1, Cs b1 0 ([c0, c1, c2, c3, c4, c5, c6, c7, c8, c9, c10, c11] : List Value), Ext w] (List.Sublist.refl _) (fun _ h => h) ?_
    refine OpsT.q 0 rfl (by kernel_rfl) (Yl.move rfl) ?_
    refine OpsT.q 1 rfl (by kernel_rfl) (Yl.len rfl rfl rfl) ?_
    refine OpsT.q 2 rfl (by kernel_rfl) (Yl.move rfl) ?_
    refine OpsT.q 3 rfl (by kernel_rfl) (Yl.len rfl rfl rfl) ?_
    refine OpsT.q 4 rfl (by kernel_rfl) (Yl.neqF rfl rfl rfl) ?_
    refine OpsT.q 5 rfl (by kernel_rfl) (Yl.move rfl) ?_
    refine OpsT.qg 6 rfl (by kernel_rfl) rfl (Yl.loadC rfl rfl rfl wmem rfl) ?_
    refine OpsT.qg 8 rfl (by kernel_rfl) rfl (Yl.loadC rfl rfl rfl wmem rfl) ?_
    refine OpsT.all1 7 (by kernel_rfl) ?_
    refine StepT.heg rfl rfl rfl (HE.callOI (B := w1.heap.size) rfl rfl szR (fun w' hw' => hCO w' hw'.at)) (fun _ => List.nil_sublist _) (fun _ => wsr) ?_
    intro u1 _
    refine OpsT.all1 9 (by kernel_rfl) ?_
    refine StepT.heg rfl rfl rfl (HE.callOI (B := w1.heap.size) rfl rfl szR (fun w' hw' => hRO w' hw'.at)) (fun _ => List.nil_sublist _) (fun _ => wsr) ?_
    intro u2 _
    refine OpsT.all1 10 (by kernel_rfl) ?_
    refine StepT.heg rfl rfl rfl (HE.callV (v := .bool true) rfl rfl (fun w' hw' => ints_own hol hw' wmm wmm)) (fun _ => List.nil_sublist _) (fun _ => wsr) ?_
    rintro ⟨⟩ _
    refine OpsT.qg 11 rfl (by kernel_rfl) rfl (Yl.not rfl) ?_
    refine OpsT.q 12 rfl (by kernel_rfl) (Yl.pickF rfl rfl) ?_
    refine OpsT.q 13 rfl (by kernel_rfl) (Yl.move rfl) ?_
    refine OpsT.qg 14 rfl (by kernel_rfl) rfl (Yl.loadC rfl rfl rfl wmem rfl) ?_
    refine OpsT.qg 16 rfl (by kernel_rfl) rfl (Yl.loadC rfl rfl rfl wmem rfl) ?_
    refine OpsT.all1 15 (by kernel_rfl) ?_
    refine StepT.heg rfl rfl rfl (HE.callV (v := .int .i64 (deepG g)) rfl rfl (fun w' hw' => hCC w' hw'.at)) (fun _ => List.nil_sublist _) (fun _ => wsr) ?_
    rintro ⟨⟩ _
    refine OpsT.all1 17 (by kernel_rfl) ?_
    refine StepT.heg rfl rfl rfl (HE.callV (v := .int .i64 (deepG g)) rfl rfl (fun w' hw' => hRC w' hw'.at)) (fun _ => List.nil_sublist _) (fun _ => wsr) ?_
    rintro ⟨⟩ _
    refine OpsT.qg 18 rfl (by kernel_rfl) rfl (Yl.neqF rfl rfl rfl) ?_
    refine OpsT.q 19 rfl (by kernel_rfl) (Yl.pickF rfl rfl) ?_
    refine OpsT.nil (by kernel_rfl) ?_
    exact FinH.sub wsub (List.nil_sublist _) wsr (hrest ())
  intro hrest
  refine CdH.regionR [.blk b1 ([c0, c1, c2, c3, c4, c5, c6, c7, c8, c9, c10, c11] : List Value) TMod] [Ext w] (List.Sublist.refl _) wsr ?_
  refine OpsT.q 0 rfl (by kernel_rfl) (Yl.loadB rfl rfl rfl rfl wup) ?_
  refine OpsT.q 2 rfl (by kernel_rfl) (Yl.loadB rfl rfl rfl rfl wup) ?_
  refine OpsT.all1 1 (by kernel_rfl) ?_
  refine StepT.he rfl rfl (HE.callF (V := fun lo w v => RowsR (fun k => lo ≤ k) w v (callsM m)) (fun v => v) (rows_fresh _) rfl rfl (fun w' hw' => census_Calls _ m _ w' (hm0.chg (show Ext w w' from hw'.at) (fun _ _ _ h => h)) hL hsm)) (fun _ => wsl) (fun _ => wsr) ?_
  rintro x1 -
  refine OpsT.all1 3 (by kernel_rfl) ?_
  refine StepT.he rfl rfl (HE.callF (V := fun lo w v => RowsR (fun k => lo ≤ k) w v (callsM m)) (fun v => v) (rows_fresh _) rfl rfl (fun w' hw' => ref57_Calls _ m _ w' (hm0.chg (show Ext w w' from hw'.at) (fun _ _ _ h => h)) hL)) (fun _ => wsl) (fun _ => wsr) ?_
  rintro x2 -
  refine OpsT.q 4 rfl (by kernel_rfl) (Yl.assign rfl) ?_
  refine OpsT.q 5 rfl (by kernel_rfl) (Yl.assign rfl) ?_
  refine OpsT.nil (by kernel_rfl) ?_
  have H := hrest (x1, x2)
  dsimp only at H
  exact FinH.sub wsub wsl wsr H
end Go.Proofs.YtmkgfccfnpmcjaaGreatDoor
/- CensusLists: the row and its card. Conditions: none beyond the form's own. Printed by gen_v57.py. -/
namespace Go.Proofs.YtmkgfccfnpmcjaaGreatDoor
open Go.ChangeShapes Go.WideShapes Go.ChangeAt Go.RowKit
set_option maxRecDepth 100000
/-- the witness: the settled world with unicode.White_Space's ranges and its table, and strings.asciiSpace laid -/
noncomputable def censusListsWorld (os : Os) : World :=
  let N := (World.settled Tryz.prog os).heap.size
  let w0 := World.holding Tryz.prog os ⟨#[.cells (Lib.whiteT.map fun (z : Nat) => Value.int .u16 (z : Int)).toArray 226, .cells #[.slice (some ⟨N, 0, none⟩) 7 7, .slice none 0 0, .int .i64 2] 223], #[], []⟩
  let put (h : Array Obj) (g : Nat) (cs : Array Value) : Array Obj := h.modify g fun
    | .cells _ t frozen => .cells cs t frozen
    | o => o
  let h1 := put w0.heap 0 (Lib.asciiSpaceTab.map fun z => Value.int .u8 z).toArray
  let h2 := put h1 1 #[.pointer (some ⟨N + 1, 0, none⟩)]
  { w0 with heap := h2 }
theorem censusLists_met (os : Os) (args : Array Value) : laidMet Tryz.prog Rows.censusListsRow.laid ((censusListsWorld os).forCall (fun _ _ => 0) ⟨#[], args, []⟩).memory :=
  laidMet_of_run' 8 (by kernel_rfl) (by kernel_rfl)
theorem censusLists_witness (os : Os) {H : Type} (enc : TypeId × Value → H) :
    (OpenSpec.ofChange Rows.censusListsSpec).preRow enc Tryz.prog Tryz.f4 Rows.censusListsRow.domain false Rows.censusListsRow.laid ((censusListsWorld os).forCall (fun _ _ => 0) ⟨#[], #[.agg #[.slice none 0 0, .slice none 0 0, .slice none 0 0, .slice none 0 0, .slice none 0 0, .slice none 0 0, .slice none 0 0, .bool false, .int .i64 0, .slice none 0 0, .slice none 0 0, .slice none 0 0]], []⟩).memory #[.agg #[.slice none 0 0, .slice none 0 0, .slice none 0 0, .slice none 0 0, .slice none 0 0, .slice none 0 0, .slice none 0 0, .bool false, .int .i64 0, .slice none 0 0, .slice none 0 0, .slice none 0 0]] := by
  have hw : (DataW.whole enc Tryz.prog ((censusListsWorld os).forCall (fun _ _ => 0) ⟨#[], #[.agg #[.slice none 0 0, .slice none 0 0, .slice none 0 0, .slice none 0 0, .slice none 0 0, .slice none 0 0, .slice none 0 0, .bool false, .int .i64 0, .slice none 0 0, .slice none 0 0, .slice none 0 0]], []⟩).memory Tryz.f4.params.toList Rows.censusListsSpec.vars false (#[.agg #[.slice none 0 0, .slice none 0 0, .slice none 0 0, .slice none 0 0, .slice none 0 0, .slice none 0 0, .slice none 0 0, .bool false, .int .i64 0, .slice none 0 0, .slice none 0 0, .slice none 0 0]] : Array Value).toList 8).map (fun x => (x.1, x.2.1)) =
      some ([.agg [.nil, .nil, .nil, .nil, .nil, .nil, .nil, .lit (.bool false), .lit (.int .i64 0), .nil, .nil, .nil]], []) := by kernel_rfl
  obtain ⟨⟨x1, x2, x3⟩, hx, hx1⟩ := Option.map_eq_some_iff.1 hw
  simp only [Prod.mk.injEq] at hx1
  obtain ⟨rfl, rfl⟩ := hx1
  exact OpenSpec.preRow_of_cond 8 hx (by kernel_rfl) (fun k hk => by cases hk) (by kernel_rfl) (censusLists_met os _)
theorem censusLists_lifted (os : Os) (started : os.Started) (H : Type) (enc : TypeId × Value → H) (F : Stop.Interp) :
    ReturnsInHanded {} Tryz.checked os 4 .any ((OpenSpec.ofChange Rows.censusListsSpec).preRow enc Tryz.prog Tryz.f4 Rows.censusListsRow.domain false Rows.censusListsRow.laid) (((OpenSpec.ofChange Rows.censusListsSpec).at F).post enc Tryz.prog Tryz.f4 false true false false) := by
  refine returnsInHanded_of_row (C := Tryz.checked) (s := OpenSpec.ofChange Rows.censusListsSpec) own started (by kernel_rfl) Tryz.func4
    (witness_row_atRef (enc := enc) (C := Tryz.checked) false (censusListsWorld os) #[.agg #[.slice none 0 0, .slice none 0 0, .slice none 0 0, .slice none 0 0, .slice none 0 0, .slice none 0 0, .slice none 0 0, .bool false, .int .i64 0, .slice none 0 0, .slice none 0 0, .slice none 0 0]] rfl (by kernel_rfl) (by kernel_rfl) (by kernel_rfl) (censusLists_witness os enc)) ?_
  intro W base args ds gs before hval0 hW _ _ hsz hL hsh _
  have h0 : Env0 W := env0_of hL hsh
  have hW' : DataW.Whole enc Tryz.prog Tryz.f4.params.toList Rows.censusListsSpec.vars false W args.toList ds gs before := hW
  obtain ⟨p, q, hA0, hV, rfl, hfz, hnd⟩ := hW
  have hA : DataW.TrodAll enc Tryz.prog W 0 (fun _ => true) true Tryz.f4.params.toList args.toList ds p := hA0
  obtain ⟨rfl, rfl⟩ := trodVars_none hV
  have hz : ∀ n ∈ DataW.weightsEach Tryz.prog Tryz.f4.params.toList ds, n ≤ reachBytes := fun n hn => by
    have h1 := List.all_eq_true.1 hsz n (by rw [List.append_nil]; exact weights_app _ _ _ n hn)
    simpa using h1
  have hval : ∀ (j : Nat) t v, Tryz.f4.params[j]? = some t → args[j]? = some v → Value.okWide Tryz.prog W .any base t v := hval0
  rw [Tryz.params4] at hA hz hval
  obtain ⟨v0, vs0, d0, ds0, p0, q0, hargs, rfl, rfl, h0', r0⟩ := trodAll_cons hA
  obtain ⟨rfl, rfl, rfl⟩ := trodAll_nil r0
  obtain rfl : args = #[v0] := by cases args; simp_all
  obtain ⟨cs0, rfl, hl0, ht0⟩ := arg_struct Tryz.underlying33 (hval 0 _ v0 rfl rfl) h0' (fun n hn => hz n (by simp only [DataW.weightsEach, List.append_nil]; first | exact hn | exact .inl hn | exact .inr hn | exact .inr (.inl hn) | exact .inr (.inr hn)))
  obtain ⟨m, hm⟩ := ApiModuleV.of ht0 (by rw [hl0]; kernel_rfl)
  refine (law57_CensusLists m cs0 W hm h0).mono fun e W' ⟨he, hx⟩ => ?_
  subst he
  exact ⟨_, rfl, post_of_true (P := Tryz.prog) laidOut rfl (tb := 4) (by kernel_rfl) Tryz.underlying4 (by kernel_rfl) hW' (fun _ => rfl) hx.below⟩
theorem censusLists_holds : Rows.CensusListsSaid :=
  OpenClaim.holds_of_cond 4 Tryz.f4 rfl rfl rfl rfl rfl rfl rfl ⟨rfl, rfl, rfl, rfl, rfl⟩ rfl rfl rfl rfl rfl (by kernel_rfl) Tryz.func4 (by kernel_rfl)
    (of_decide_eq_true (by kernel_rfl)) (by unfold Func.isWrapper; first | (rw [if_pos (by decide +kernel)]; kernel_rfl) | (rw [if_neg (by decide +kernel)]; exact ⟨rfl, rfl⟩))
    (fun os started H enc _ F => by rw [OpenClaim.pre_eq_preRow]; exact censusLists_lifted os started H enc F)
theorem censusLists_plain (f : FuncId) (fn : Func) (hf : Tryz.pinned.checked.prog.funcNamed "millwright/millwrightlaw57.CensusLists" = some f) (hfn : Tryz.pinned.checked.prog.funcs[f]? = some fn) :
    false = Tryz.pinned.checked.prog.looks [] ∧ ∀ (j : Nat) t, fn.params[j]? = some t → Tryz.pinned.checked.prog.wantsStandIn t = false := by
  obtain rfl : f = 4 := Option.some.inj ((show Tryz.prog.funcNamed "millwright/millwrightlaw57.CensusLists" = some 4 by kernel_rfl).symm.trans hf) |>.symm
  obtain rfl : fn = Tryz.f4 := (Option.some.inj (Tryz.func4.symm.trans hfn)).symm
  refine ⟨by kernel_rfl, fun j t ht => ?_⟩
  rw [Tryz.params4] at ht
  obtain rfl : t = 33 := by simpa using Array.mem_of_getElem? ht
  exact (show Tryz.prog.wantsStandIn 33 = false by kernel_rfl)
theorem censusLists_card : Rows.CensusListsCardSaid :=
  Claim7.holds_tied_plain_at .later [] _ _ _ _ censusLists_holds (fun _ h => by cases h) (by kernel_rfl) (fun _ h => by cases h) censusLists_row_tie rfl ⟨rfl, rfl⟩ (by kernel_rfl) rfl censusLists_plain (by kernel_rfl)
#print axioms censusLists_card
end Go.Proofs.YtmkgfccfnpmcjaaGreatDoor
