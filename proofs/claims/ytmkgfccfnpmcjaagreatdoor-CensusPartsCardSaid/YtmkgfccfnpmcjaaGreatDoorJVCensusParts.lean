/- Rows: out of the laws' walks; what every seat needs. -/
import Derived.Test.YtmkgfccfnpmcjaaGreatDoorRows
import Derived.Test.YtmkgfccfnpmcjaaGreatDoorJU
import Derived.ProofKit
import Derived.OpenShut
import Derived.Test.YtmkgfccfnpmcjaaGreatDoorJLb
import Derived.Test.YtmkgfccfnpmcjaaGreatDoorCards
import Derived.Test.YtmkgfccfnpmcjaaGreatDoorTie
import Derived.Deep.DeepHandedRow
import Derived.Deep.DeepWitnessRowRef
import Derived.Lib.LaidTab
import Derived.Lib.Space
import Derived.Lib.SpaceR
import Derived.Shelf.Vars
import Derived.Test.YtmkgfccfnpmcjaaGreatDoorJKb
import Derived.Test.YtmkgfccfnpmcjaaGreatDoorJKc
import Derived.Test.YtmkgfccfnpmcjaaGreatDoorJOp
namespace Go.Proofs.YtmkgfccfnpmcjaaGreatDoor
open Go.ChangeShapes Go.WideShapes Go.ChangeAt Go.RowKit

theorem own : ownKnob Tryz.prog.godebug = none := by kernel_rfl
theorem laidOut : laidOutB Tryz.prog = true := by kernel_rfl

section
variable {H : Type} {enc : TypeId × Value → H} {P : Program}
/-- each of the types can be read and is a row of the table -/
def rowed (P : Program) (ts : List TypeId) : Bool := ts.all fun t => P.readableRec t && decide (t < P.types.size)
theorem trodAll_stays (hl : laidOutB P = true) {W W' : World} (hb : Below W.heap.size W W') {sp : Nat → Bool} : ∀ {ts : List TypeId} {vs : List Value} {ds : List (DataW H)} {ps : List MemPlace}, rowed P ts = true →
    DataW.TrodAll enc P W 0 (fun _ => true) true ts vs ds ps → (∀ x ∈ ps, x.block < W.heap.size) → (∀ x ∈ ps, sp x.block = true) → DataW.TrodAll enc P W' 0 sp true ts vs ds ps
  | [], _, _, _, _, h, _, _ => by
    obtain ⟨rfl, rfl, rfl⟩ := trodAll_nil h
    exact trodAll_mk0
  | t :: ts, _, _, _, hr, h, h1, h2 => by
    obtain ⟨v, vs, d, ds, p, q, rfl, rfl, rfl, ht, hts⟩ := trodAll_cons h
    simp only [rowed, List.all_cons, Bool.and_eq_true, decide_eq_true_eq] at hr
    refine trodAll_cons_mk (Go.WideElems.Trod_stays hl hr.1.1 hr.1.2 ht (fun x hx => hb.same (h1 x (by simp [hx]))) (fun x hx => h2 x (by simp [hx]))) (trodAll_stays hl hb (by simpa [rowed] using hr.2) hts (fun x hx => h1 x (by simp [hx])) (fun x hx => h2 x (by simp [hx])))
/-- a law's postcondition: it has answered true, and below the heap's old size nothing has turned -/
theorem post_of_true {f : Func} {s : ChangeSpec} {apart fresh handsOn again : Bool} {W W' : World} {args : Array Value} {ds gs : List (DataW H)} {before : List MemPlace} {tb : TypeId}
    (hl : laidOutB P = true) (hv : s.vars = []) (hr : f.resultTypes = #[tb]) (hb : P.underlying tb = some .bool) (hp : rowed P f.params.toList = true)
    (hW : DataW.Whole enc P f.params.toList s.vars apart W args.toList ds gs before) (hfn : gs = [] → s.fn H ds = { results := [.lit (.bool true)], args := ds }) (hx : Below W.heap.size W W') :
    s.post enc P f apart fresh handsOn again W args (.bool true) W' := by
  have hlt := hW.lt
  have hW' := hW
  obtain ⟨pa, pv, hA, hV, rfl, hz, hn⟩ := hW
  rw [hv] at hV
  obtain ⟨rfl, rfl⟩ := trodVars_none hV
  have e : s.fn H (ds ++ []) = { results := [.lit (.bool true)], args := ds } := by rw [List.append_nil]; exact hfn rfl
  simp only [List.append_nil] at hlt hz hn hW'
  have hres : ∀ b sp hd, DataW.TrodAll enc P W' b sp hd f.resultTypes.toList ((Value.bool true).resultList f.resultTypes.size) [.lit (.bool true)] [] := fun b sp hd => by
    rw [hr]; exact trodAll_cons_mk (shut_bool hb _) trodAll_mk0
  have hargs : ∀ sp : Nat → Bool, (∀ p ∈ pa, sp p.block = true) → DataW.TrodAll enc P W' 0 sp true f.params.toList args.toList ds pa := fun sp hsp => trodAll_stays hl hx hp hA hlt hsp
  have hvars : ∀ sp : Nat → Bool, DataW.TrodVars enc P W' sp s.vars [] [] := fun sp => by rw [hv]; rfl
  refine ⟨ds, [], pa, [], pa, [], hW', by rw [e]; exact hres _ _ _, by rw [e]; exact hargs _ (fun p hp => by simpa using hlt p hp), by rw [e]; exact hvars _, hx.frame _, fun _ => ⟨?_, [.lit (.bool true)] ++ ds, [], ([] ++ pa) ++ [], ⟨[] ++ pa, [], ?_, hvars _, rfl, ?_, ?_⟩, ?_⟩⟩
  · exact ok_one hr rfl (okWide_bool_mk hb _)
  · exact trodAll_append (hargs _ (fun _ _ => rfl)) (hres _ _ _)
  · intro b off hp
    have hp' : MemPlace.cell b off ∈ pa := by simpa using hp
    rw [hx.frozen (hlt _ hp')]
    exact hz b off hp'
  · intro ha
    simpa using hn ha
  · intro p hp _
    simpa using hp
theorem weights_app {P : Program} : ∀ (ts us : List TypeId) (ds : List (DataW H)), ∀ n ∈ DataW.weightsEach P ts ds, n ∈ DataW.weightsEach P (ts ++ us) ds
  | [], _, _, n, h => by simp [DataW.weightsEach] at h
  | _ :: _, _, [], n, h => by simp [DataW.weightsEach] at h
  | t :: ts, us, d :: ds, n, h => by
    simp only [DataW.weightsEach, List.cons_append, List.mem_append] at h ⊢
    rcases h with h | h
    · exact .inl h
    · exact .inr (weights_app ts us ds n h)
end

section
variable {H : Type} {enc : TypeId × Value → H} {w : World} {t : TypeId} {v : Value} {d : DataW H} {ps : List MemPlace}
set_option maxRecDepth 100000
/-- an argument's reading, as a typed reading of its cells -/
theorem arg_tr (h : DataW.Trod enc G.P w 0 (fun _ => true) true t v d ps) (hw : ∀ n ∈ d.weights G.P t, n ≤ reachBytes) : Tr w t v.cells.toList := by
  obtain ⟨fuel, h⟩ := h
  exact ⟨H, enc, _, _, fuel, _, h, hw⟩
/-- a struct that is an argument -/
theorem arg_struct {bs : Nat} {fs : Array Field} (ht : G.P.underlying t = some (.struct fs)) (ho : Value.okWide G.P w .any bs t v) (h : DataW.Trod enc G.P w 0 (fun _ => true) true t v d ps) (hw : ∀ n ∈ d.weights G.P t, n ≤ reachBytes) : ∃ cs : List Value, v = .agg cs.toArray ∧ cs.length = G.P.cellsOf t ∧ Tr w t cs := by
  obtain ⟨cs, rfl, hcl⟩ := okWide_struct ht ho
  exact ⟨cs.toList, by simp, by simpa using hcl, arg_tr h hw⟩
end
end Go.Proofs.YtmkgfccfnpmcjaaGreatDoor
/- The rows of this seat whose laws lay strings.asciiSpace and unicode.White_Space: what the list gives; the witness. -/
namespace Go.Proofs.YtmkgfccfnpmcjaaGreatDoor
open Go.ChangeShapes Go.WideShapes Go.ChangeAt Go.RowKit
set_option maxRecDepth 100000

/-- from the row's list: the table that stands second on it -/
theorem tabIs_second {P : Program} {W : World} {name n0 : String} {d0 : DataW Unit} {k : IntKind} {zs : List Int} {rest : List (String × DataW Unit)} {g : Nat} {t e : TypeId} {n : Nat}
    (hg : P.globalNamed name = some g) (hty : (P.globals[g]?).map (·.type) = some t) (ht : P.underlying t = some (.array n e)) (he : P.underlying e = some (.int k)) (hce : P.cellsOf e = 1) (hct : P.cellsOf t = n)
    (h : laidMet P ((n0, d0) :: (name, Lib.tabData k zs) :: rest) W) : Lib.TabIs P W name k zs := by
  obtain ⟨ps, ⟨_, _, _, _, _, _, _, _, _, _, ⟨g', t', cs, fuel, p, q, hg', ht', hvar, hd, _, _⟩, _⟩, _⟩ := h
  obtain rfl := Option.some.inj (hg.symm.trans hg')
  obtain rfl := Option.some.inj (hty.symm.trans ht')
  unfold Lib.TabIs
  rw [hvar, ← Lib.cells_of_tab ht he hce hct hd]
theorem laid_asc : (Rows.laid_strings_asciiSpace : DataW Unit) = Lib.tabData .u8 Lib.asciiSpaceTab := by kernel_rfl
def laidS : List (String × DataW Unit) := [("unicode.White_Space", Rows.laid_unicode_White_Space), ("strings.asciiSpace", Rows.laid_strings_asciiSpace)]
theorem gAsc : Tryz.prog.globalNamed "strings.asciiSpace" = some 0 := by kernel_rfl
theorem env0_of {W : World} (hL : laidMetH Tryz.prog laidS W) (hsh : W.ShapedOpen Tryz.prog) : Env0 W := by
  have hL' : laidMet Tryz.prog [("unicode.White_Space", Rows.laid_unicode_White_Space), ("strings.asciiSpace", Lib.tabData .u8 Lib.asciiSpaceTab)] W := by
    have : laidMet Tryz.prog [("unicode.White_Space", Rows.laid_unicode_White_Space), ("strings.asciiSpace", Rows.laid_strings_asciiSpace)] W := hL
    rwa [laid_asc] at this
  have ht := tabIs_second (t := 208) (e := 5) (n := 256) gAsc (by kernel_rfl) (by kernel_rfl) Tryz.underlying5 (by kernel_rfl) (by kernel_rfl) hL'
  refine ⟨fun c hc => ?_, cell_of_shapedOpen_int (zero := #[.int .i64 0]) (t := 3) hsh (of_decide_eq_true (by kernel_rfl)) (by kernel_rfl) rfl (by kernel_rfl) (by kernel_rfl) Tryz.underlying3⟩
  have := ht.cell gAsc c (by unfold Lib.asciiSpaceTab; simp; exact hc)
  rw [this]
  unfold Lib.asciiSpaceTab
  simp [List.getD_eq_getElem?_getD, hc]
theorem cen_of {w : World} {cs : List Value} (h : Tr w 35 cs) : ∃ c, cs = cenC c := by
  obtain ⟨hcl, hf⟩ := h.struct Tryz.underlying35
  have hl : cs.length = 8 := by rw [hcl]; kernel_rfl
  match cs, hl with
  | [c0, c1, c2, c3, c4, c5, c6, c7], _ =>
    obtain ⟨y0, e0, -⟩ := (show Tr w _ [c0] from Tr.fld hf 0 0 1 rfl (by kernel_rfl)).int Tryz.underlying3
    obtain ⟨y1, e1, -⟩ := (show Tr w _ [c1] from Tr.fld hf 1 1 1 rfl (by kernel_rfl)).int Tryz.underlying3
    obtain ⟨y2, e2, -⟩ := (show Tr w _ [c2] from Tr.fld hf 2 2 1 rfl (by kernel_rfl)).int Tryz.underlying3
    obtain ⟨y3, e3, -⟩ := (show Tr w _ [c3] from Tr.fld hf 3 3 1 rfl (by kernel_rfl)).int Tryz.underlying3
    obtain ⟨y4, e4, -⟩ := (show Tr w _ [c4] from Tr.fld hf 4 4 1 rfl (by kernel_rfl)).int Tryz.underlying3
    obtain ⟨y5, e5, -⟩ := (show Tr w _ [c5] from Tr.fld hf 5 5 1 rfl (by kernel_rfl)).int Tryz.underlying3
    obtain ⟨y6, e6, -⟩ := (show Tr w _ [c6] from Tr.fld hf 6 6 1 rfl (by kernel_rfl)).int Tryz.underlying3
    obtain ⟨y7, e7, -⟩ := (show Tr w _ [c7] from Tr.fld hf 7 7 1 rfl (by kernel_rfl)).int Tryz.underlying3
    cases e0; cases e1; cases e2; cases e3; cases e4; cases e5; cases e6; cases e7
    exact ⟨⟨y0, y1, y2, y3, y4, y5, y6, y7⟩, rfl⟩
end Go.Proofs.YtmkgfccfnpmcjaaGreatDoor
/- A module's functions lie within their slice's capacity. -/
namespace Go.Proofs.YtmkgfccfnpmcjaaGreatDoor
open Go.RowKit Go.Deep
set_option maxRecDepth 100000
theorem Tr.cap {w : World} {t e : TypeId} {cs : List Value} (ht : G.P.underlying t = some (.slice e)) (h : Tr w t cs) : ∃ p n c, cs = [.slice p n c] ∧ n ≤ c := by
  obtain ⟨H, enc, spare, held, fuel, x, h, hw⟩ := h
  rcases open_slice ht h with ⟨rfl, rfl⟩ | ⟨a, len, cap, m, n, D, Pl, rfl, hb, hl, -⟩
  · exact ⟨_, _, _, rfl, Nat.le_refl _⟩
  · exact ⟨_, _, _, rfl, hl⟩
theorem mod_cap {w : World} {cs : List Value} (h : Tr w 33 cs) : ∀ p n c, cs[2]? = some (.slice p n c) → n ≤ c := by
  obtain ⟨-, hf⟩ := h.struct Tryz.underlying33
  obtain ⟨p', n', c', e, hle⟩ := Tr.cap Tryz.underlying24 (Tr.fld hf 2 2 1 rfl (by kernel_rfl))
  intro p n c hc
  have h0 : ((cs.drop 2).take 1)[0]? = cs[2]? := by simp
  rw [e, hc] at h0
  simp only [List.getElem?_cons_zero, Option.some.injEq, Value.slice.injEq] at h0
  omega
end Go.Proofs.YtmkgfccfnpmcjaaGreatDoor
/- Plain laws: the counters of a module are the sums over its functions. -/
namespace Go.Proofs.YtmkgfccfnpmcjaaGreatDoor
open Go.RowKit
set_option maxRecDepth 100000

/-- the module with one of its functions -/
def mOne (m : ApiModule) (i : Nat) : ApiModule := { m with funcs := [ix m.funcs i] }
theorem addC_wrap2 (a b : Cen) : addC (wrapC a) (wrapC b) = wrapC (add0 a b) := by
  have h : ∀ a b : Int, wr64 (wr64 a + wr64 b) = wr64 (a + b) := fun a b => by simp only [wr64_eq]; omega
  simp only [addC, wrapC, add0, h]
noncomputable def fC (f : ApiCode) : Cen := add0 ⟨1, 0, 0, 0, 0, 0, 0, 0⟩ (bodyC f.body)
theorem fC_sum (l : List ApiCode) : csum fC l = add0 ⟨l.length, 0, 0, 0, 0, 0, 0, 0⟩ (csum (fun f : ApiCode => bodyC f.body) l) := by
  induction l with
  | nil => simp [csum, zC, add0]
  | cons a r ih =>
    rw [csum, csum, ih, fC]
    simp only [add0, List.length_cons]
    congr 1 <;> omega
theorem fC_all (m : ApiModule) : csum fC m.funcs = modC m := fC_sum _
theorem fC_one (m : ApiModule) (i : Nat) : modC (mOne m i) = fC (ix m.funcs i) := by rw [← fC_all]; exact csum_one _ _
/-- the sum over the first i functions -/
noncomputable def partC (m : ApiModule) (i : Nat) : Cen := csum fC (m.funcs.take i)
theorem partC_zero (m : ApiModule) : wrapC (partC m 0) = zC := by simp [partC, csum, zC, wrapC, wr64_eq]
theorem partC_succ {m : ApiModule} {i : Nat} (h : i < m.funcs.length) : addC (wrapC (partC m i)) (wrapC (modC (mOne m i))) = wrapC (partC m (i + 1)) := by
  rw [addC_wrap2, fC_one]; unfold partC; rw [csum_take _ h]
theorem partC_all (m : ApiModule) : partC m m.funcs.length = modC m := by unfold partC; rw [List.take_length, fC_all]

/-- the counts of the first i functions -/
def opsP (m : ApiModule) (i : Nat) : List Int := all5.map fun op => (cntM m i 0 op : Int)
theorem opsP_all (m : ApiModule) : opsP m m.funcs.length = opsM m := rfl
theorem opsP_len (m : ApiModule) (i : Nat) : (opsP m i).length = all5.length := by simp [opsP]
theorem opsP_zero (m : ApiModule) : opsP m 0 = List.replicate all5.length 0 := by
  unfold opsP; simp only [cntM_zero]; exact List.map_const' ..
theorem opsP_ix (m : ApiModule) (i : Nat) {k : Nat} (h : k < all5.length) : ix (opsP m i) k = (cntM m i 0 (ix all5 k) : Int) := by
  rw [ix_eq (by rw [opsP_len]; exact h), ix_eq h]; simp [opsP]
theorem cntM_one {m : ApiModule} {i : Nat} (op : Int) : cntM (mOne m i) 1 0 op = cntB (ix m.funcs i).body op := by simp [cntM, mOne, cntB]
theorem opsP_succ {m : ApiModule} {i k : Nat} (h : i < m.funcs.length) (hk : k < all5.length) : ix (opsP m (i + 1)) k = ix (opsP m i) k + ix (opsM (mOne m i)) k := by
  rw [opsP_ix _ _ hk, opsP_ix _ _ hk, opsM_ix _ hk, show (mOne m i).funcs.length = 1 from rfl, cntM_one]
  have : cntM m (i + 1) 0 (ix all5 k) = cntM m i 0 (ix all5 k) + cntB (ix m.funcs i).body (ix all5 k) := by
    unfold cntM; rw [take_succ_ix h]; simp [cntB]
  omega
/-- a list of numbers, k places of which are new -/
def mixL (f g : List Int) (k : Nat) : List Int := g.take k ++ f.drop k
theorem mixL_zero (f g : List Int) : mixL f g 0 = f := by simp [mixL]
theorem mixL_all {f g : List Int} (h : f.length = g.length) : mixL f g g.length = g := by unfold mixL; rw [List.take_length, ← h, List.drop_length, List.append_nil]
theorem mixL_len {f g : List Int} {k : Nat} (h : f.length = g.length) (hk : k ≤ g.length) : (mixL f g k).length = g.length := by unfold mixL; simp; omega
theorem mixL_ix {f g : List Int} {k : Nat} (h : f.length = g.length) (hk : k < g.length) : ix (mixL f g k) k = ix f k := by
  rw [ix_eq (by rw [mixL_len h (by omega)]; exact hk), ix_eq (by omega)]
  unfold mixL
  rw [List.getElem_append_right (by simp; omega)]
  simp [Nat.min_eq_left (Nat.le_of_lt hk)]
theorem mixL_set {f g : List Int} {k : Nat} (h : f.length = g.length) (hk : k < g.length) : (mixL f g k).set k (ix g k) = mixL f g (k + 1) := by
  unfold mixL
  rw [List.set_append_right _ _ (by simp; omega), take_succ_ix hk, List.length_take, Nat.min_eq_left (Nat.le_of_lt hk), Nat.sub_self, List.append_assoc]
  congr 1
  rw [List.drop_eq_getElem_cons (show k < f.length by omega)]; rfl

/-- whether all opcodes are known, up to instruction j of function i -/
def knP (m : ApiModule) (i j : Nat) : Bool := ((m.funcs.take i).all fun f => f.body.all fun x => (find5 x.op).isSome) && ((ix m.funcs i).body.take j).all fun x => (find5 x.op).isSome
theorem knP_zero (m : ApiModule) : knP m 0 0 = true := rfl
theorem knP_step {m : ApiModule} {i j : Nat} (h : j < (ix m.funcs i).body.length) : knP m i (j + 1) = (knP m i j && (find5 (ix (ix m.funcs i).body j).op).isSome) := by
  unfold knP; rw [take_succ_ix h, List.all_append]; simp [Bool.and_assoc]
theorem knP_row {m : ApiModule} {i : Nat} (h : i < m.funcs.length) : knP m i (ix m.funcs i).body.length = knP m (i + 1) 0 := by
  unfold knP; rw [List.take_length, take_succ_ix h, List.all_append]; simp
theorem all5_nodup : all5.Nodup := by decide +kernel
theorem sum_hit (a : Int) : ∀ l : List Int, l.Nodup → (l.map fun op => if a = op then (1 : Nat) else 0).sum = if l.contains a then 1 else 0
  | [], _ => by simp
  | b :: r, h => by
    rw [List.nodup_cons] at h
    rw [List.map_cons, List.sum_cons, sum_hit a r h.2, List.contains_cons]
    by_cases e : a = b
    · subst e
      rw [if_pos rfl, if_neg (by simpa using h.1)]; simp
    · rw [if_neg e, show (a == b) = false by simpa using e]; simp
theorem cnt_sum (xs : List Ins) : (all5.map fun op => cntB xs op).sum = xs.countP fun x => all5.contains x.op := by
  induction xs with
  | nil =>
    have : ∀ l : List Int, (l.map fun op => cntB ([] : List Ins) op).sum = 0 := fun l => by induction l with | nil => rfl | cons a r ih => rw [List.map_cons, List.sum_cons, ih]; rfl
    rw [this]; rfl
  | cons x r ih =>
    have e : ∀ l : List Int, (l.map fun op => cntB (x :: r) op).sum = (l.map fun op => cntB r op).sum + (l.map fun op => if x.op = op then (1 : Nat) else 0).sum := fun l => by
      induction l with
      | nil => rfl
      | cons a s ih =>
        simp only [List.map_cons, List.sum_cons, ih]
        have : cntB (x :: r) a = cntB r a + if x.op = a then 1 else 0 := by unfold cntB; rw [List.countP_cons]; simp only [beq_iff_eq]
        omega
    rw [e, ih, sum_hit _ _ all5_nodup, List.countP_cons]
theorem find5_all5 (op : Int) : (find5 op).isSome = all5.contains op := by
  rw [Bool.eq_iff_iff]
  unfold find5 all5
  rw [List.find?_isSome, List.contains_iff_mem, List.mem_map]
  simp only [decide_eq_true_eq]
/-- how many instructions are known -/
def knN (m : ApiModule) : Nat := (m.funcs.map fun f => f.body.countP fun x => all5.contains x.op).sum
def insN (m : ApiModule) : Nat := (m.funcs.map fun f => f.body.length).sum
theorem cntM_all (m : ApiModule) (op : Int) : cntM m m.funcs.length 0 op = (m.funcs.map fun f => cntB f.body op).sum := by
  unfold cntM; rw [List.take_length]; simp [cntB]
theorem sum_swap {α β : Type} (f : α → β → Nat) (l : List α) : ∀ r : List β, (r.map fun b => (l.map fun a => f a b).sum).sum = (l.map fun a => (r.map fun b => f a b).sum).sum
  | [] => by
    have h : ∀ l : List α, (l.map fun _ => (0 : Nat)).sum = 0 := fun l => by
      induction l with
      | nil => rfl
      | cons a r ih => rw [List.map_cons, List.sum_cons, ih]
    exact (h l).symm
  | b :: r => by
    have e : ∀ l : List α, (l.map fun a => ((b :: r).map fun b => f a b).sum).sum = (l.map fun a => f a b).sum + (l.map fun a => (r.map fun b => f a b).sum).sum := fun l => by
      induction l with
      | nil => rfl
      | cons a s ih => simp only [List.map_cons, List.sum_cons] at ih ⊢; omega
    rw [List.map_cons, List.sum_cons, sum_swap f l r, e]
theorem ops_sum (m : ApiModule) : (opsM m).sum = (knN m : Int) := by
  have e : (opsM m).sum = ((all5.map fun op => cntM m m.funcs.length 0 op).sum : Nat) := by
    unfold opsM
    induction all5 with
    | nil => rfl
    | cons a r ih => simp only [List.map_cons, List.sum_cons, ih]; omega
  rw [e]
  simp only [cntM_all]
  rw [show (all5.map fun op => (m.funcs.map fun f => cntB f.body op).sum).sum = (m.funcs.map fun f => (all5.map fun op => cntB f.body op).sum).sum from sum_swap (fun (f : ApiCode) (op : Int) => cntB f.body op) m.funcs all5]
  simp only [cnt_sum]; rfl
theorem kn_le (l : List ApiCode) : (l.map fun f => f.body.countP fun x => all5.contains x.op).sum ≤ (l.map fun f => f.body.length).sum := by
  induction l with
  | nil => simp
  | cons a r ih => have := List.countP_le_length (p := fun x : Ins => all5.contains x.op) (l := a.body); simp only [List.map_cons, List.sum_cons]; omega
theorem kn_iff (l : List ApiCode) : (l.map fun f => f.body.countP fun x => all5.contains x.op).sum = (l.map fun f => f.body.length).sum ↔ (l.all fun f => f.body.all fun x => (find5 x.op).isSome) = true := by
  induction l with
  | nil => simp
  | cons a r ih =>
    have h1 := List.countP_le_length (p := fun x : Ins => all5.contains x.op) (l := a.body)
    have h2 := kn_le r
    have h3 : a.body.countP (fun x => all5.contains x.op) = a.body.length ↔ (a.body.all fun x => (find5 x.op).isSome) = true := by
      rw [List.countP_eq_length, List.all_eq_true]; simp only [find5_all5]
    simp only [List.map_cons, List.sum_cons, List.all_cons, Bool.and_eq_true]
    rw [← h3, ← ih]; omega
theorem kn_all (m : ApiModule) : decide ((opsM m).sum = (insN m : Int)) = knP m m.funcs.length 0 := by
  have h := kn_iff m.funcs
  rw [ops_sum]
  have e : knP m m.funcs.length 0 = m.funcs.all fun f => f.body.all fun x => (find5 x.op).isSome := by unfold knP; rw [List.take_length]; simp
  rw [e, Bool.eq_iff_iff, decide_eq_true_eq, ← h]
  unfold knN insN; omega

/-- a counter's five kinds are disjoint -/
def fiveC (c : Cen) : Int := c.loops + c.calls + c.loads + c.stores + c.consts
theorem five_tab : (r05.all fun r => decide (fiveC (one5 r.1) ≤ 1)) = true := by decide +kernel
theorem five_one (op : Int) : 0 ≤ fiveC (oneC op) ∧ fiveC (oneC op) ≤ 1 := by
  rw [one_5]
  refine ⟨?_, ?_⟩
  · unfold fiveC one5
    have h := fun b => (b01_r b).1
    have h1 := h (op == 3); have h2 := h (op == 16 || op == 17); have h3 := h (decide (0 < width5 op) && decide (op < 54)); have h4 := h (decide (0 < width5 op) && !decide (op < 54)); have h5 := h (op == 65 || op == 66)
    dsimp only; omega
  · cases h : find5 op with
    | some r =>
      have := List.all_eq_true.1 five_tab r (List.mem_of_find?_eq_some h)
      have e : r.1 = op := by have := List.find?_some h; simpa using this
      rw [e] at this
      simpa using this
    | none =>
      have h2 : width5 op = 0 := by unfold width5 row5; rw [h]; rfl
      unfold fiveC one5
      rw [h2]
      by_cases a : op = 3
      · subst a; decide
      by_cases b : op = 16
      · subst b; decide
      by_cases c : op = 17
      · subst c; decide
      have e1 : (op == 3) = false := by simpa using a
      have e2 : (op == 16 || op == 17) = false := by simp [b, c]
      rw [e1, e2]
      have := (b01_r (op == 65 || op == 66)).2
      simp [b01] at this ⊢
      omega
/-- what a module's counters are bounded by -/
structure CenOk (c : Cen) (n : Nat) : Prop where
  ins : c.instrs = n
  five : fiveC c ≤ n
  nn : 0 ≤ c.loops ∧ 0 ≤ c.calls ∧ 0 ≤ c.loads ∧ 0 ≤ c.stores ∧ 0 ≤ c.consts
theorem CenOk.add {a b : Cen} {n k : Nat} (h : CenOk a n) (h' : CenOk b k) : CenOk (add0 a b) (n + k) := by
  have := h.ins; have := h'.ins; have := h.five; have := h'.five; have := h.nn; have := h'.nn
  refine ⟨?_, ?_, ?_⟩ <;> simp only [fiveC, add0] at * <;> omega
theorem cen_one (op : Int) : CenOk (oneC op) 1 := by
  refine ⟨by rw [one_5]; rfl, by have := (five_one op).2; omega, ?_⟩
  rw [one_5]
  exact ⟨(b01_r _).1, (b01_r _).1, (b01_r _).1, (b01_r _).1, (b01_r _).1⟩
theorem cen_z : CenOk zC 0 := by refine ⟨rfl, by simp [fiveC, zC], ?_⟩; simp [zC]
theorem cen_body (xs : List Ins) : CenOk (csum (fun x : Ins => oneC x.op) xs) xs.length := by
  induction xs with
  | nil => exact cen_z
  | cons x r ih => rw [csum, List.length_cons, Nat.add_comm]; exact (cen_one x.op).add ih
theorem cen_bodyC (xs : List Ins) : CenOk (bodyC xs) xs.length := by
  have h : CenOk ⟨0, 0, nbK xs, 0, 0, 0, 0, 0⟩ 0 := by refine ⟨rfl, by simp [fiveC], ?_⟩; simp
  have := h.add (cen_body xs)
  rwa [Nat.zero_add] at this
theorem cen_fs (l : List ApiCode) : CenOk (csum (fun f : ApiCode => bodyC f.body) l) (l.map fun f => f.body.length).sum := by
  induction l with
  | nil => exact cen_z
  | cons a r ih => rw [csum]; exact (cen_bodyC a.body).add ih
theorem cen_mod (m : ApiModule) : CenOk (modC m) (insN m) := by
  have h : CenOk ⟨m.funcs.length, 0, 0, 0, 0, 0, 0, 0⟩ 0 := by refine ⟨rfl, by simp [fiveC], ?_⟩; simp
  have := h.add (cen_fs m.funcs)
  rwa [Nat.zero_add] at this
theorem insN_le {m : ApiModule} (hs : SmallM m) : insN m ≤ m.funcs.length * 1000000 := by
  have key : ∀ l : List ApiCode, (∀ f ∈ l, f.body.length ≤ 1000000) → (l.map fun f => f.body.length).sum ≤ l.length * 1000000 := fun l => by
    induction l with
    | nil => intro _; simp
    | cons a r ih => intro h; have h1 := h a (by simp); have h2 := ih (fun f hf => h f (by simp [hf])); simp only [List.map_cons, List.sum_cons, List.length_cons]; omega
  refine key _ fun f hf => ?_
  obtain ⟨i, hi, rfl⟩ := List.getElem_of_mem hf
  have := (hs i hi).1
  rwa [ix_eq hi] at this
/-- the counters as they are read: no wrap -/
theorem wrap_mod {m : ApiModule} (hs : SmallM m) (hl : m.funcs.length ≤ 1000) : (wrapC (modC m)).instrs = insN m ∧ (wrapC (modC m)).loops = (modC m).loops ∧ (wrapC (modC m)).calls = (modC m).calls ∧ (wrapC (modC m)).loads = (modC m).loads ∧ (wrapC (modC m)).stores = (modC m).stores ∧ (wrapC (modC m)).consts = (modC m).consts ∧ fiveC (modC m) ≤ insN m ∧ (insN m : Int) ≤ 1000000000 ∧ 0 ≤ (modC m).loops ∧ 0 ≤ (modC m).calls ∧ 0 ≤ (modC m).loads ∧ 0 ≤ (modC m).stores ∧ 0 ≤ (modC m).consts := by
  have h := cen_mod m
  have h1 := insN_le hs
  have h2 := h.ins; have h3 := h.five; have h4 := h.nn
  have h5 : insN m ≤ 1000000000 := by omega
  simp only [fiveC] at h3
  refine ⟨?_, ?_, ?_, ?_, ?_, ?_, ?_, by omega, h4⟩
  · show wr64 _ = _; rw [wr64_in (by omega), h2]
  · exact wr64_in (by omega)
  · exact wr64_in (by omega)
  · exact wr64_in (by omega)
  · exact wr64_in (by omega)
  · exact wr64_in (by omega)
  · simp only [fiveC]; omega
end Go.Proofs.YtmkgfccfnpmcjaaGreatDoor
/- law57.CensusParts walked. -/
namespace Go.Proofs.YtmkgfccfnpmcjaaGreatDoor
open Go.RowKit
set_option maxRecDepth 100000

section
variable {n : Nat} {E : Env} {C : World → Prop} {x y z : Operand} {t : TypeId}
theorem addr_add (b o k : Nat) : (⟨b, o, none⟩ : Addr).add k = ⟨b, o + k, none⟩ := by
  unfold Addr.add
  split
  · rename_i h; rw [h]; rfl
  · rfl
/-- a slice between two places -/
theorem Yl.sliceLH {k k' : IntKind} {p q : Int} {ti te : TI} {e l c i j b o s : Nat} (ht : G.ty t = some ti) (he : ti.elem = some e) (hte : G.ty e = some te) (hs : te.size = s) (hx : ev E x = some (.slice (some ⟨b, o, none⟩) l c)) (hi : ev E y = some (.int k p)) (hj : ev E z = some (.int k' q)) (hp : p = (i : Int)) (hq : q = (j : Int)) (hij : i < j) (hjc : j ≤ c) :
    Yl G n (.slice t x (some y) (some z) none) E C (.slice (some ⟨b, o + i * s, none⟩) (j - i) (c - i)) := ⟨fun w _ a ha d ty pos aft gd => by
  have h1 := (G.tyOk t ti ht).elem e he
  have h2 := (G.tyOk e te hte).size w
  rw [hs] at h2
  subst hp hq
  have h3 : ¬ c = i := by omega
  have h4 : (i : Int) ≤ j := by omega
  simp [execOp, ha.eval hx, ha.eval hi, ha.eval hj, Instr.sliceAt, Instr.slice, Instr.sliceBounds, Instr.sliceBound, asIntOf, run_underlying h1, h2, hjc, h3, addr_add, Nat.le_of_lt hij]⟩
end
theorem sum_take_le {l : List Int} (h : ∀ a ∈ l, 0 ≤ a) (k : Nat) : 0 ≤ (l.take k).sum ∧ (l.take k).sum ≤ l.sum := by
  induction l generalizing k with
  | nil => simp
  | cons a r ih =>
    have h0 := h a (by simp)
    cases k with
    | zero => have := (ih (fun b hb => h b (by simp [hb])) r.length).1; rw [List.take_length] at this; simp; omega
    | succ k => have := ih (fun b hb => h b (by simp [hb])) k; simp only [List.take_succ_cons, List.sum_cons]; omega
theorem one_small {m : ApiModule} {i : Nat} (hs : SmallM m) (h : i < m.funcs.length) : SmallM (mOne m i) := by
  intro k hk
  obtain rfl : k = 0 := by simp [mOne] at hk; exact hk
  exact hs i h
theorem one_len {m : ApiModule} (hL : LensP m) (i : Nat) : LensP (mOne m i) := ⟨hL.1, hL.2.1, by simp [mOne], hL.2.2.2⟩
theorem opsP_le {m : ApiModule} (hs : SmallM m) {i k : Nat} (hi : i ≤ m.funcs.length) (hk : k < all5.length) : 0 ≤ ix (opsP m i) k ∧ ix (opsP m i) k ≤ i * 1000000 := by
  rw [opsP_ix _ _ hk]
  have := cntM_le hs (ix all5 k) i 0 hi
  omega
theorem opsM_le {m : ApiModule} (hs : SmallM m) {k : Nat} (hk : k < all5.length) : 0 ≤ ix (opsM m) k ∧ ix (opsM m) k ≤ m.funcs.length * 1000000 := opsP_le hs (Nat.le_refl _) hk
theorem opsM_nn (m : ApiModule) : ∀ a ∈ opsM m, 0 ≤ a := by
  intro a ha
  obtain ⟨op, _, rfl⟩ := List.mem_map.1 ha
  omega
theorem opsM_sum_le {m : ApiModule} : (opsM m).sum ≤ (insN m : Int) := by
  rw [ops_sum]
  have := kn_le m.funcs
  show ((_ : Nat) : Int) ≤ _
  unfold knN insN; omega
set_option maxHeartbeats 64000000 in
theorem law57_CensusParts (m : ApiModule) (cs : List Value) (w : World) (hm : ApiModuleV (fun _ => True) w cs m) (hcap : ∀ p n c, cs[2]? = some (.slice p n c) → n ≤ c) (h0 : Env0 w) : Calls G.P 5 #[.agg cs.toArray] w fun e w' => e = .returned (.bool true) ∧ Ext w w' := by
  have hm0 := hm
  obtain ⟨v0, v1, v2, v3, v4, v5, v6, v7, v8, v9, rfl, r0, r1, r2, r3, r4, r5, r6, r7, r8, r9, g0⟩ := hm
  obtain ⟨p2, c2, rfl, l2⟩ := r2.slice
  have hc2 : m.funcs.length ≤ c2 := hcap _ _ _ rfl
  obtain ⟨q0, d0, rfl, -⟩ := r0.slice
  obtain ⟨q1, d1, rfl, -⟩ := r1.slice
  obtain ⟨q3, d3, rfl, -⟩ := r3.slice
  obtain ⟨q4, d4, rfl, -⟩ := r4.slice
  obtain ⟨q5, d5, rfl, -⟩ := r5.slice
  obtain ⟨q6, d6, rfl, -⟩ := r6.slice
  obtain ⟨q7, d7, rfl, -⟩ := r7.slice
  obtain ⟨q8, d8, rfl, -⟩ := r8.slice
  obtain ⟨q9, d9, rfl, -⟩ := r9.slice
  refine enterH (l := [.agg ([.slice q0 m.types.length d0, .slice q1 m.imports.length d1, .slice p2 m.funcs.length c2, .slice q3 m.tables.length d3, .slice q4 m.mems.length d4, .slice q5 m.globals.length d5, .slice q6 m.exports.length d6, .bool m.hasStart, .int .i64 m.start, .slice q7 m.elems.length d7, .slice q8 m.datas.length d8, .slice q9 m.customs.length d9] : List Value).toArray]) Tryz.func5 rfl Tryz.ntmps5 rfl (Ok.start w) ?_
  refine wgh ?_
  refine OpsH.box ([.slice q0 m.types.length d0, .slice q1 m.imports.length d1, .slice p2 m.funcs.length c2, .slice q3 m.tables.length d3, .slice q4 m.mems.length d4, .slice q5 m.globals.length d5, .slice q6 m.exports.length d6, .bool m.hasStart, .int .i64 m.start, .slice q7 m.elems.length d7, .slice q8 m.datas.length d8, .slice q9 m.customs.length d9] : List Value) rfl rfl rfl fun b1 => ?_
  refine wgh ?_
  refine OpsH.he (HE.callB rfl rfl (fun w' hw' => law57_light _ m _ w' (hm0.chg (show Ext w w' from hw'.at) (fun _ _ _ h => h)))) rfl ?_
  rintro (_ | _) hlf
  · refine wgh ?_
    refine OpsH.call1 rfl rfl rfl (fun w' hw' => law57_alive w' (h0.ext hw'.at)) ?_
    refine wgh ?_
    exact FinH.ret1 rfl rfl fun w' hw' => ⟨rfl, hw'.at⟩
  obtain ⟨-, hLP⟩ := hlf rfl
  have hsm := hLP.small
  have hL := hLP.1
  have L2 := hL.2.2.1
  refine wgh ?_
  refine OpsH.alloc (cenC zC) rfl rfl rfl fun b3 => ?_
  refine wgh ?_
  refine OpsH.he (HE.callO (B := w.heap.size) rfl rfl szR (fun w' _ => ref05_All w')) rfl ?_
  intro v19 _
  refine OpsH.pure (φ := ∃ g cap, v19 = .slice (some ⟨g, 0, none⟩) all5.length cap) (fun w' hw' => ?_) ?_
  · obtain ⟨p, c, rfl, _, _, hg⟩ := own_slice (hw'.own (v := v19))
    obtain ⟨g, rfl, _⟩ := hg (by rw [all5_len, r05_len]; omega)
    exact ⟨g, c, rfl⟩
  rintro ⟨gl, cl, rfl⟩
  have hN : 0 < all5.length ∧ all5.length ≤ 1000 := by rw [all5_len, r05_len]; omega
  have hol := opsM_len
  have hpl := opsP_len m
  have hop0 := opsP_zero m
  have hple := fun {i k : Nat} (hi : i ≤ m.funcs.length) (hk : k < all5.length) => opsP_le hsm hi hk
  have hmle := fun {i k : Nat} (hi : i < m.funcs.length) (hk : k < all5.length) => opsM_le (one_small hsm hi) hk
  have hmle2 := fun {k : Nat} (hk : k < all5.length) => opsM_le hsm hk
  have hsuc := fun {i k : Nat} (hi : i < m.funcs.length) (hk : k < all5.length) => opsP_succ hi hk
  generalize hNN : all5.length = N at *
  refine wgh ?_
  refine OpsH.he (HE.makeI (B := w.heap.size) rfl rfl (by omega) szR) rfl ?_
  intro go _
  refine wgh ?_
  refine CdH.loop (σ := Nat) (fun i => [(5, .bool (knP m i 0)), (6, .int .i64 i), (1, .pointer (some ⟨b1, 0, none⟩)), (3, .pointer (some ⟨b3, 0, none⟩)), (4, .slice (some ⟨go, 0, none⟩) N N)]) (fun i => [.ownI w.heap.size (.slice (some ⟨go, 0, none⟩) N N) (opsP m i), .blk b3 (cenC (wrapC (partC m i))) TCen, .blk b1 ([.slice q0 m.types.length d0, .slice q1 m.imports.length d1, .slice p2 m.funcs.length c2, .slice q3 m.tables.length d3, .slice q4 m.mems.length d4, .slice q5 m.globals.length d5, .slice q6 m.exports.length d6, .bool m.hasStart, .int .i64 m.start, .slice q7 m.elems.length d7, .slice q8 m.datas.length d8, .slice q9 m.customs.length d9] : List Value) TMod]) (fun _ => [Ext w]) (fun i => i ≤ m.funcs.length) (fun i => m.funcs.length - i) 0 wsub (sub_ownI rfl (by rw [hop0]) (List.Sublist.cons _ (sub_blk (by rw [partC_zero]; rfl) (List.Sublist.refl _)))) wsr (by omega) ?_
  intro i hi
  by_cases hlt : i < m.funcs.length
  · obtain ⟨b2, o2, rfl, hF, hall⟩ := r2.at hlt
    obtain ⟨cs5, ⟨u0, u1, rfl, k0, k1, k2⟩, hc5⟩ := hall i hlt
    obtain ⟨x2, y2, rfl, z2⟩ := k1.slice
    have hcell : w.cell? ⟨b2, o2 + i * 3 + 2, none⟩ = some (.slice x2 (ix m.funcs i).body.length y2) := hc5 2 (by omega)
    have hm1 : ApiModuleV (fun _ => True) w ([.slice q0 m.types.length d0, .slice q1 m.imports.length d1, .slice (some ⟨b2, o2 + i * 3, none⟩) 1 (c2 - i), .slice q3 m.tables.length d3, .slice q4 m.mems.length d4, .slice q5 m.globals.length d5, .slice q6 m.exports.length d6, .bool m.hasStart, .int .i64 m.start, .slice q7 m.elems.length d7, .slice q8 m.datas.length d8, .slice q9 m.customs.length d9] : List Value) (mOne m i) := ⟨_, _, _, _, _, _, _, _, _, _, rfl, r0, r1, ⟨_, _, rfl, by simp [mOne], .inr ⟨b2, o2 + i * 3, rfl, trivial, fun k hk => by
      obtain rfl : k = 0 := by simp [mOne] at hk; exact hk
      rw [Nat.zero_mul, Nat.add_zero]
      exact hall i hlt⟩⟩, r3, r4, r5, r6, r7, r8, r9, g0⟩
    have hso := one_small hsm hlt
    have hlo := one_len hL i
    have hpc := partC_succ hlt
    refine wgh ?_
    refine OpsH.alloc [.slice none 0 0, .slice none 0 0, .slice none 0 0, .slice none 0 0, .slice none 0 0, .slice none 0 0, .slice none 0 0, .bool false, .int .i64 0, .slice none 0 0, .slice none 0 0, .slice none 0 0] rfl rfl rfl fun b7 => ?_
    refine wgh ?_
    refine OpsH.y_ (Yl.sliceLH (i := i) (j := i + 1) rfl rfl rfl rfl rfl rfl rfl rfl (by omega) (by omega) (by omega)) rfl ?_
    rw [show i + 1 - i = 1 by omega]
    refine wgh ?_
    refine CdH.regionS [0, 1, 2, 3] 4 _ _ (by kernel_rfl) (List.Sublist.refl _) (fun _ h => h) ?_
    refine wgs ?_
    refine OpsS.he (HE.callV (v := .agg (cenC (wrapC (modC (mOne m i)))).toArray) rfl rfl (fun w' hw' => census_Of _ (mOne m i) _ w' (hm1.chg (show Ext w w' from hw'.at) (fun _ _ _ h => h)) hso (h0.ext hw'.at))) rfl (fun _ => List.Sublist.refl _) (fun _ _ h => h) ?_
    rintro ⟨⟩ _
    refine OpsS.he (HE.callV rfl rfl (fun w' hw' => census_Add (wrapC (partC m i)) (wrapC (modC (mOne m i))) w')) rfl (fun _ => List.Sublist.refl _) (fun _ _ h => h) ?_
    rintro ⟨⟩ _
    rw [hpc]
    refine OpsS.hez0 (HE0.storeB _ rfl rfl rfl rfl rfl rfl wup rfl) rfl ?_
    rintro ⟨⟩ _
    refine wgh ?_
    refine OpsH.he (HE.callOI (B := w.heap.size) rfl rfl szR (fun w' hw' => census_Ops _ (mOne m i) _ w' (hm1.chg (show Ext w w' from hw'.at) (fun _ _ _ h => h)) hlo hso (h0.ext hw'.at))) rfl ?_
    intro v8 _
    refine OpsH.pure (φ := ∃ g cap, v8 = .slice (some ⟨g, 0, none⟩) N cap) (fun w' hw' => ?_) ?_
    · obtain ⟨p, c, e, _, _, hg⟩ := own_slice (hw'.ownI (v := v8))
      obtain ⟨g, rfl, _⟩ := hg (by rw [hol]; omega)
      rw [hol] at e; exact ⟨g, c, e⟩
    rintro ⟨g8, c8, rfl⟩
    refine wgh ?_
    refine CdH.loop (σ := Nat) (fun k => [(9, .int .i64 k), (8, .slice (some ⟨g8, 0, none⟩) N c8), (5, .bool (knP m i 0)), (6, .int .i64 i), (1, .pointer (some ⟨b1, 0, none⟩)), (3, .pointer (some ⟨b3, 0, none⟩)), (4, .slice (some ⟨go, 0, none⟩) N N)]) (fun k => [.ownI w.heap.size (.slice (some ⟨g8, 0, none⟩) N c8) (opsM (mOne m i)), .ownI w.heap.size (.slice (some ⟨go, 0, none⟩) N N) (mixL (opsP m i) (opsP m (i + 1)) k), .blk b3 (cenC (wrapC (partC m (i + 1)))) TCen, .blk b1 ([.slice q0 m.types.length d0, .slice q1 m.imports.length d1, .slice (some ⟨b2, o2, none⟩) m.funcs.length c2, .slice q3 m.tables.length d3, .slice q4 m.mems.length d4, .slice q5 m.globals.length d5, .slice q6 m.exports.length d6, .bool m.hasStart, .int .i64 m.start, .slice q7 m.elems.length d7, .slice q8 m.datas.length d8, .slice q9 m.customs.length d9] : List Value) TMod]) (fun _ => [Ext w]) (fun k => k ≤ N) (fun k => N - k) 0 wsub (by rw [mixL_zero]; exact wsl) wsr (by omega) ?_
    intro k hk
    by_cases hkl : k < N
    · have h1 := hple (i := i) (by omega) hkl
      have h2 := hmle hlt hkl
      have hl1 : (mOne m i).funcs.length = 1 := rfl
      have h3 := hsuc hlt hkl
      have h4 : (opsP m i).length = (opsP m (i + 1)).length := by rw [hpl, hpl]
      have h5 := mixL_ix h4 (k := k) (by rw [hpl]; exact hkl)
      have h6 := mixL_set h4 (k := k) (by rw [hpl]; exact hkl)
      have h7 := mixL_len h4 (k := k) (by rw [hpl]; exact hk)
      rw [hpl] at h7
      rw [h3] at h6
      refine wgh ?_
      refine CdH.regionS [0, 1, 2, 3, 4, 5, 6, 7, 8, 9] 10 _ _ (by kernel_rfl) (List.Sublist.refl _) (fun _ h => h) ?_
      refine wgs ?_
      refine OpsS.y_ (Yl.loadI (i := k) rfl rfl rfl wmm (by omega)) rfl ?_
      refine wgs ?_
      refine OpsS.y_ (Yl.loadI (i := k) rfl rfl rfl wmm (by rw [hol]; omega)) rfl ?_
      rw [h5]
      refine wgs ?_
      refine OpsS.hez0 (HE0.setI (i := k) rfl rfl rfl rfl (show k < (mixL (opsP m i) (opsP m (i + 1)) k).length by omega) wup) rfl ?_
      rintro ⟨⟩ _
      rw [h6]
      refine wgh ?_
      exact FinH.next (k + 1) wsub wsl wsr (by omega) (by omega)
    · obtain rfl : k = N := by omega
      have h8 : mixL (opsP m i) (opsP m (i + 1)) k = opsP m (i + 1) := by have := mixL_all (f := opsP m i) (g := opsP m (i + 1)) (by rw [hpl, hpl]); rwa [hpl] at this
      rw [h8]
      refine wgh ?_
      refine CdH.loop (σ := Nat) (fun j => [(10, .int .i64 j), (5, .bool (knP m i j)), (6, .int .i64 i), (1, .pointer (some ⟨b1, 0, none⟩)), (3, .pointer (some ⟨b3, 0, none⟩)), (4, .slice (some ⟨go, 0, none⟩) k k)]) (fun j => [.ownI w.heap.size (.slice (some ⟨go, 0, none⟩) k k) (opsP m (i + 1)), .blk b3 (cenC (wrapC (partC m (i + 1)))) TCen, .blk b1 ([.slice q0 m.types.length d0, .slice q1 m.imports.length d1, .slice (some ⟨b2, o2, none⟩) m.funcs.length c2, .slice q3 m.tables.length d3, .slice q4 m.mems.length d4, .slice q5 m.globals.length d5, .slice q6 m.exports.length d6, .bool m.hasStart, .int .i64 m.start, .slice q7 m.elems.length d7, .slice q8 m.datas.length d8, .slice q9 m.customs.length d9] : List Value) TMod]) (fun _ => [Ext w]) (fun j => j ≤ (ix m.funcs i).body.length) (fun j => (ix m.funcs i).body.length - j) 0 wsub wsl wsr (by omega) ?_
      intro j hj
      by_cases hjl : j < (ix m.funcs i).body.length
      · obtain ⟨b9, o9, rfl, -, hins⟩ := k1.at hjl
        have hopc := (hins j hjl).op
        have hst := knP_step hjl
        cases hkn : knP m i j with
        | true =>
          rw [hkn, Bool.true_and] at hst
          refine wgh ?_
          refine OpsH.call1g rfl rfl rfl rfl (fun w' _ => ref05_Known _ w') ?_
          refine wgh ?_
          exact FinH.next (j + 1) (by rw [hst]; exact wsub) wsl wsr (by omega) (by omega)
        | false =>
          rw [hkn, Bool.false_and] at hst
          refine wgh ?_
          exact FinH.next (j + 1) (by rw [hst]; exact wsub) wsl wsr (by omega) (by omega)
      · obtain rfl : j = (ix m.funcs i).body.length := by omega
        have hrw := knP_row hlt
        refine wgh ?_
        exact FinH.next (i + 1) (by rw [← hrw]; exact wsub) wsl wsr (by omega) (by omega)
  · obtain rfl : i = m.funcs.length := by omega
    rw [partC_all, opsP_all]
    have hka := kn_all m
    have hsl := opsM_sum_le (m := m)
    have htk := fun k => sum_take_le (opsM_nn m) k
    obtain ⟨w1, w2, w3, w4, w5, w6, w7, w8, w9⟩ := wrap_mod hsm (by omega)
    simp only [fiveC] at w7
    rw [← w2, ← w3, ← w4, ← w5, ← w6] at w7 w9
    generalize hC : wrapC (modC m) = C at *
    generalize knP m m.funcs.length 0 = kn at *
    refine wgh ?_
    refine CdH.loop (σ := Nat) (fun k => [(11, .int .i64 ((opsM m).take k).sum), (12, .int .i64 k), (5, .bool kn), (1, .pointer (some ⟨b1, 0, none⟩)), (3, .pointer (some ⟨b3, 0, none⟩)), (4, .slice (some ⟨go, 0, none⟩) N N)]) (fun _ => [.ownI w.heap.size (.slice (some ⟨go, 0, none⟩) N N) (opsM m), .blk b3 (cenC (C)) TCen, .blk b1 ([.slice q0 m.types.length d0, .slice q1 m.imports.length d1, .slice p2 m.funcs.length c2, .slice q3 m.tables.length d3, .slice q4 m.mems.length d4, .slice q5 m.globals.length d5, .slice q6 m.exports.length d6, .bool m.hasStart, .int .i64 m.start, .slice q7 m.elems.length d7, .slice q8 m.datas.length d8, .slice q9 m.customs.length d9] : List Value) TMod]) (fun _ => [Ext w]) (fun k => k ≤ N) (fun k => N - k) 0 wsub wsl wsr (by omega) ?_
    intro k hk
    by_cases hkl : k < N
    · have h1 := htk k
      have h2 := hmle2 hkl
      have h3 : ((opsM m).take (k + 1)).sum = ((opsM m).take k).sum + ix (opsM m) k := by rw [take_succ_ix (by rw [hol]; exact hkl), List.sum_append]; simp
      refine wgh ?_
      refine OpsH.y_ (Yl.loadI (i := k) rfl rfl rfl wmm (by rw [hol]; omega)) rfl ?_
      refine wgh ?_
      exact FinH.next (k + 1) (by rw [h3]; exact wsub) wsl wsr (by omega) (by omega)
    · obtain rfl : k = N := by omega
      have hfull : (opsM m).take k = opsM m := by rw [← hol m, List.take_length]
      rw [hfull]
      refine wgh ?_
      refine OpsH.call1 (v := .agg (cenC C).toArray) rfl rfl rfl (fun w' hw' => by rw [← hC]; exact census_Of _ m _ w' (hm0.chg (show Ext w w' from hw'.at) (fun _ _ _ h => h)) hsm (h0.ext hw'.at)) ?_
      refine OpsH.alloc (cenC zC) rfl rfl rfl fun b13 => ?_
      refine wgh ?_
      refine OpsH.y_ (Yl.eqC rfl rfl) rfl ?_
      refine wgh ?_
      refine OpsH.heg rfl (HE.callOI (B := w.heap.size) rfl rfl szR (fun w' hw' => census_Ops _ m _ w' (hm0.chg (show Ext w w' from hw'.at) (fun _ _ _ h => h)) hL hsm (h0.ext hw'.at))) rfl ?_
      intro u1 _
      refine wgh ?_
      refine OpsH.heg rfl (HE.callV (v := .bool true) rfl rfl (fun w' hw' => ints_own (by rw [hol]; omega) hw' wmm wmm)) rfl ?_
      rintro ⟨⟩ _
      by_cases hsum : (opsM m).sum = (insN m : Int)
      · rw [decide_eq_true hsum] at hka
        subst hka
        refine wgh ?_
        refine OpsH.call1g rfl rfl rfl rfl (fun w' hw' => law57_alive w' (h0.ext hw'.at)) ?_
        refine wgh ?_
        exact FinH.ret1 rfl rfl fun w' hw' => ⟨rfl, hw'.at⟩
      · rw [decide_eq_false hsum] at hka
        subst hka
        refine wgh ?_
        refine OpsH.call1g rfl rfl rfl rfl (fun w' hw' => law57_alive w' (h0.ext hw'.at)) ?_
        refine wgh ?_
        exact FinH.ret1 rfl rfl fun w' hw' => ⟨rfl, hw'.at⟩
end Go.Proofs.YtmkgfccfnpmcjaaGreatDoor
/- CensusParts: the row and its card. Conditions: none beyond the form's own. Printed by gen_v57.py. -/
namespace Go.Proofs.YtmkgfccfnpmcjaaGreatDoor
open Go.ChangeShapes Go.WideShapes Go.ChangeAt Go.RowKit
set_option maxRecDepth 100000
/-- the witness: the settled world with unicode.White_Space's ranges and its table, and strings.asciiSpace laid -/
noncomputable def censusPartsWorld (os : Os) : World :=
  let N := (World.settled Tryz.prog os).heap.size
  let w0 := World.holding Tryz.prog os ⟨#[.cells (Lib.whiteT.map fun (z : Nat) => Value.int .u16 (z : Int)).toArray 226, .cells #[.slice (some ⟨N, 0, none⟩) 7 7, .slice none 0 0, .int .i64 2] 223], #[], []⟩
  let put (h : Array Obj) (g : Nat) (cs : Array Value) : Array Obj := h.modify g fun
    | .cells _ t frozen => .cells cs t frozen
    | o => o
  let h1 := put w0.heap 0 (Lib.asciiSpaceTab.map fun z => Value.int .u8 z).toArray
  let h2 := put h1 1 #[.pointer (some ⟨N + 1, 0, none⟩)]
  { w0 with heap := h2 }
theorem censusParts_met (os : Os) (args : Array Value) : laidMet Tryz.prog Rows.censusPartsRow.laid ((censusPartsWorld os).forCall (fun _ _ => 0) ⟨#[], args, []⟩).memory :=
  laidMet_of_run' 8 (by kernel_rfl) (by kernel_rfl)
theorem censusParts_witness (os : Os) {H : Type} (enc : TypeId × Value → H) :
    (OpenSpec.ofChange Rows.censusPartsSpec).preRow enc Tryz.prog Tryz.f5 Rows.censusPartsRow.domain false Rows.censusPartsRow.laid ((censusPartsWorld os).forCall (fun _ _ => 0) ⟨#[], #[.agg #[.slice none 0 0, .slice none 0 0, .slice none 0 0, .slice none 0 0, .slice none 0 0, .slice none 0 0, .slice none 0 0, .bool false, .int .i64 0, .slice none 0 0, .slice none 0 0, .slice none 0 0]], []⟩).memory #[.agg #[.slice none 0 0, .slice none 0 0, .slice none 0 0, .slice none 0 0, .slice none 0 0, .slice none 0 0, .slice none 0 0, .bool false, .int .i64 0, .slice none 0 0, .slice none 0 0, .slice none 0 0]] := by
  have hw : (DataW.whole enc Tryz.prog ((censusPartsWorld os).forCall (fun _ _ => 0) ⟨#[], #[.agg #[.slice none 0 0, .slice none 0 0, .slice none 0 0, .slice none 0 0, .slice none 0 0, .slice none 0 0, .slice none 0 0, .bool false, .int .i64 0, .slice none 0 0, .slice none 0 0, .slice none 0 0]], []⟩).memory Tryz.f5.params.toList Rows.censusPartsSpec.vars false (#[.agg #[.slice none 0 0, .slice none 0 0, .slice none 0 0, .slice none 0 0, .slice none 0 0, .slice none 0 0, .slice none 0 0, .bool false, .int .i64 0, .slice none 0 0, .slice none 0 0, .slice none 0 0]] : Array Value).toList 8).map (fun x => (x.1, x.2.1)) =
      some ([.agg [.nil, .nil, .nil, .nil, .nil, .nil, .nil, .lit (.bool false), .lit (.int .i64 0), .nil, .nil, .nil]], []) := by kernel_rfl
  obtain ⟨⟨x1, x2, x3⟩, hx, hx1⟩ := Option.map_eq_some_iff.1 hw
  simp only [Prod.mk.injEq] at hx1
  obtain ⟨rfl, rfl⟩ := hx1
  exact OpenSpec.preRow_of_cond 8 hx (by kernel_rfl) (fun k hk => by cases hk) (by kernel_rfl) (censusParts_met os _)
theorem censusParts_lifted (os : Os) (started : os.Started) (H : Type) (enc : TypeId × Value → H) (F : Stop.Interp) :
    ReturnsInHanded {} Tryz.checked os 5 .any ((OpenSpec.ofChange Rows.censusPartsSpec).preRow enc Tryz.prog Tryz.f5 Rows.censusPartsRow.domain false Rows.censusPartsRow.laid) (((OpenSpec.ofChange Rows.censusPartsSpec).at F).post enc Tryz.prog Tryz.f5 false true false false) := by
  refine returnsInHanded_of_row (C := Tryz.checked) (s := OpenSpec.ofChange Rows.censusPartsSpec) own started (by kernel_rfl) Tryz.func5
    (witness_row_atRef (enc := enc) (C := Tryz.checked) false (censusPartsWorld os) #[.agg #[.slice none 0 0, .slice none 0 0, .slice none 0 0, .slice none 0 0, .slice none 0 0, .slice none 0 0, .slice none 0 0, .bool false, .int .i64 0, .slice none 0 0, .slice none 0 0, .slice none 0 0]] rfl (by kernel_rfl) (by kernel_rfl) (by kernel_rfl) (censusParts_witness os enc)) ?_
  intro W base args ds gs before hval0 hW _ _ hsz hL hsh _
  have h0 : Env0 W := env0_of hL hsh
  have hW' : DataW.Whole enc Tryz.prog Tryz.f5.params.toList Rows.censusPartsSpec.vars false W args.toList ds gs before := hW
  obtain ⟨p, q, hA0, hV, rfl, hfz, hnd⟩ := hW
  have hA : DataW.TrodAll enc Tryz.prog W 0 (fun _ => true) true Tryz.f5.params.toList args.toList ds p := hA0
  obtain ⟨rfl, rfl⟩ := trodVars_none hV
  have hz : ∀ n ∈ DataW.weightsEach Tryz.prog Tryz.f5.params.toList ds, n ≤ reachBytes := fun n hn => by
    have h1 := List.all_eq_true.1 hsz n (by rw [List.append_nil]; exact weights_app _ _ _ n hn)
    simpa using h1
  have hval : ∀ (j : Nat) t v, Tryz.f5.params[j]? = some t → args[j]? = some v → Value.okWide Tryz.prog W .any base t v := hval0
  rw [Tryz.params5] at hA hz hval
  obtain ⟨v0, vs0, d0, ds0, p0, q0, hargs, rfl, rfl, h0', r0⟩ := trodAll_cons hA
  obtain ⟨rfl, rfl, rfl⟩ := trodAll_nil r0
  obtain rfl : args = #[v0] := by cases args; simp_all
  obtain ⟨cs0, rfl, hl0, ht0⟩ := arg_struct Tryz.underlying33 (hval 0 _ v0 rfl rfl) h0' (fun n hn => hz n (by simp only [DataW.weightsEach, List.append_nil]; first | exact hn | exact .inl hn | exact .inr hn | exact .inr (.inl hn) | exact .inr (.inr hn)))
  obtain ⟨m, hm⟩ := ApiModuleV.of ht0 (by rw [hl0]; kernel_rfl)
  refine (law57_CensusParts m cs0 W hm (mod_cap ht0) h0).mono fun e W' ⟨he, hx⟩ => ?_
  subst he
  exact ⟨_, rfl, post_of_true (P := Tryz.prog) laidOut rfl (tb := 4) (by kernel_rfl) Tryz.underlying4 (by kernel_rfl) hW' (fun _ => rfl) hx.below⟩
theorem censusParts_holds : Rows.CensusPartsSaid :=
  OpenClaim.holds_of_cond 5 Tryz.f5 rfl rfl rfl rfl rfl rfl rfl ⟨rfl, rfl, rfl, rfl, rfl⟩ rfl rfl rfl rfl rfl (by kernel_rfl) Tryz.func5 (by kernel_rfl)
    (of_decide_eq_true (by kernel_rfl)) (by unfold Func.isWrapper; first | (rw [if_pos (by decide +kernel)]; kernel_rfl) | (rw [if_neg (by decide +kernel)]; exact ⟨rfl, rfl⟩))
    (fun os started H enc _ F => by rw [OpenClaim.pre_eq_preRow]; exact censusParts_lifted os started H enc F)
theorem censusParts_plain (f : FuncId) (fn : Func) (hf : Tryz.pinned.checked.prog.funcNamed "millwright/millwrightlaw57.CensusParts" = some f) (hfn : Tryz.pinned.checked.prog.funcs[f]? = some fn) :
    false = Tryz.pinned.checked.prog.looks [] ∧ ∀ (j : Nat) t, fn.params[j]? = some t → Tryz.pinned.checked.prog.wantsStandIn t = false := by
  obtain rfl : f = 5 := Option.some.inj ((show Tryz.prog.funcNamed "millwright/millwrightlaw57.CensusParts" = some 5 by kernel_rfl).symm.trans hf) |>.symm
  obtain rfl : fn = Tryz.f5 := (Option.some.inj (Tryz.func5.symm.trans hfn)).symm
  refine ⟨by kernel_rfl, fun j t ht => ?_⟩
  rw [Tryz.params5] at ht
  obtain rfl : t = 33 := by simpa using Array.mem_of_getElem? ht
  exact (show Tryz.prog.wantsStandIn 33 = false by kernel_rfl)
theorem censusParts_card : Rows.CensusPartsCardSaid :=
  Claim7.holds_tied_plain_at .later [] _ _ _ _ censusParts_holds (fun _ h => by cases h) (by kernel_rfl) (fun _ h => by cases h) censusParts_row_tie rfl ⟨rfl, rfl⟩ (by kernel_rfl) rfl censusParts_plain (by kernel_rfl)
#print axioms censusParts_card
end Go.Proofs.YtmkgfccfnpmcjaaGreatDoor
