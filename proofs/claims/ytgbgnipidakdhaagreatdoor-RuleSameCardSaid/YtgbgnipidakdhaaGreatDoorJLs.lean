/- Layer 23: rule.Apply of unreachable; signatures told by rule.Wants; an operand stack that is polymorphic. -/
import Derived.Test.YtgbgnipidakdhaaGreatDoorJNb
import Derived.Test.YtgbgnipidakdhaaGreatDoorJTt
import Derived.Test.YtgbgnipidakdhaaGreatDoorJAq
import Derived.Test.YtgbgnipidakdhaaGreatDoorJWb
namespace Go.Proofs.YtgbgnipidakdhaaGreatDoor
open Go.RowKit
set_option maxRecDepth 100000
/-- what rule.Apply needs, where nothing of the arguments has been changed -/
theorem ap_ext {M : List Res} {R : List (World → Prop)} {w0 w : World} {B : Nat} {m : ApiModule} {sv lv tv bv : Value} {locals : List Int} {x : Ins} (h : Ok M R w) (hR : Ext w0 ∈ R) (h0 : Env0 w0) (hs : (fun w => SpaceRd B m w sv) ∈ R) (hl : IntsR (fun _ => True) w0 lv locals) (ht : IntsR (fun _ => True) w0 tv x.types) (hb : IntsR (fun _ => True) w0 bv x.labels) : Ok M (ApR B (fun _ => True) m sv locals lv x tv bv) w := by
  refine ⟨h.m, h.d, fun p hp w2 h2 => ?_⟩
  have hx : Ext w0 w2 := h.r _ hR w2 h2
  simp only [ApR, List.mem_cons, List.not_mem_nil, or_false] at hp
  rcases hp with rfl | rfl | rfl | rfl | rfl
  · exact h0.ext hx
  · exact h.r _ hs w2 h2
  · exact hl.chg hx (fun _ _ _ h => h)
  · exact ht.chg hx (fun _ _ _ h => h)
  · exact hb.chg hx (fun _ _ _ h => h)
theorem wantsP_ok {m : ApiModule} {locals : List Int} {x : Ins} {f : ApiFunc} (h : wantsP m locals x = (f, 0)) : plainK x = true ∧ apartK x.op = false ∧ typedK m locals x = (f, 0) := by
  unfold wantsP at h
  cases hp : plainK x with
  | false => rw [hp, if_pos rfl] at h; cases h
  | true =>
    rw [hp, if_neg (by decide)] at h
    cases ha : apartK x.op with
    | true => rw [ha, if_pos rfl] at h; cases h
    | false => rw [ha, if_neg (by decide)] at h; exact ⟨rfl, rfl, h⟩
end Go.Proofs.YtgbgnipidakdhaaGreatDoor
/- Guarded operations in a region gone through as a tree, by the walker. -/
namespace Go.Proofs.YtgbgnipidakdhaaGreatDoor
open Go.RowKit
set_option maxRecDepth 100000
section
variable {l : List Oper} {Q : Exit → Act → World → Prop} {Mc : List Res} {Rc : List (World → Prop)} {n fuel : Nat} {listed : Array Bool} {E : Env} {M : List Res} {R : List (World → Prop)} {d : Nat} {op : Op} {ty : TypeId} {pos : String} {aft : Array Edge} {v : Value} {β : Type} {φ : β → Prop} {vf : β → Value} {Mf : β → List Res} {Rf : β → List (World → Prop)}
theorem OpsT.qG (k : Nat) {j : Nat} {b : Bool} (hk : l[k]? = some ⟨some d, op, ty, pos, aft, some (j, b)⟩) (hc : (Region.noSelect l.toArray && (Region.ready .any l.toArray listed).contains k && Region.free .any l.toArray listed k && isQ op && Nat.blt d n) = true) (hg : gdv l.toArray E j = some b) (hy : Yl G n op E (Ok Mc Rc) v)
    (h : OpsT l Q Mc Rc n fuel (listed.setIfInBounds k true) ((d, v) :: E) M R) : OpsT l Q Mc Rc n (fuel + 1) listed E M R := ⟨fun w hw hC hcl a ha => by
  simp only [Bool.and_eq_true] at hc
  obtain ⟨⟨⟨⟨h1, h2⟩, h3⟩, -⟩, h5⟩ := hc
  have hkl : k < l.length := (List.getElem?_eq_some_iff.1 hk).1
  have ho : l.toArray[k]? = some ⟨some d, op, ty, pos, aft, some (j, b)⟩ := by simpa using hk
  have hkr : k ∈ Region.ready .any l.toArray listed := by simpa using h2
  exact wpAnyM_first ho (Region.noSelect_spec h1) (fun _ _ _ _ => no_z) (by omega) fuel listed a w hC hcl (Region.free_spec ho h3) hkr (.inl ⟨by simp [Region.wanted, yielded_of ha hg], fun w hw => hy.h w hw a ha _ _ _ _ _⟩) (h.h w hw hC (hcl.set hkr) _ (ha.put (by simpa using h5) v))⟩
theorem StepT.heG {i j : Nat} {b : Bool} (hi : l[i]? = some ⟨some d, op, ty, pos, aft, some (j, b)⟩) (hd : Nat.blt d n = true) (hg : gdv l.toArray E j = some b) (he : HE n op E M R φ vf Mf Rf) (hM : ∀ x, Mc.Sublist (Mf x)) (hR : ∀ x p, p ∈ Rc → p ∈ Rf x) (h : ∀ x, φ x → OpsT l Q Mc Rc n fuel (listed.setIfInBounds i true) ((d, vf x) :: E) (Mf x) (Rf x)) : StepT l Q Mc Rc n fuel listed i E M R := ⟨fun w hw hC hcl hr a ha => by
  have ho : l.toArray[i]? = some ⟨some d, op, ty, pos, aft, some (j, b)⟩ := by simpa using hi
  unfold mOp
  simp only [ho]
  have hw' : Region.wanted ⟨some d, op, ty, pos, aft, some (j, b)⟩ (yielded l.toArray a.tmps) = true := by simp [Region.wanted, yielded_of ha hg]
  simp only [hw', if_true]
  exact effUp_mono ((he.h w hw).h a ha _ _ _ _ _) fun v w2 ⟨x, h1, h2, h3⟩ => by
    subst h2
    exact ⟨.inr (h3.sub (hM x) (hR x)), (h x h1).h w2 h3 (h3.sub (hM x) (hR x)) (hcl.set hr) _ (ha.put (by simpa using hd) _)⟩⟩
theorem OpsT.qGa (k : Nat) {j : Nat} {b : Bool} (hk : l[k]? = some ⟨some d, op, ty, pos, aft, some (j, b)⟩)
    (h : OpsT l Q Mc Rc n fuel (listed.setIfInBounds k true) ((d, v) :: E) M R) (hc : (Region.noSelect l.toArray && (Region.ready .any l.toArray listed).contains k && Region.free .any l.toArray listed k && isQ op && Nat.blt d n) = true := by decide +kernel) (hg : gdv l.toArray E j = some b := by rfl) (hy : Yl G n op E (Ok Mc Rc) v := by (first | exact Yl.move rfl | exact Yl.assign rfl | (apply Yl.isBin; (first | (apply Yl.isBin (bo := .lss); (first | exact Yl.lssT rfl rfl (by omega) | exact Yl.lssF rfl rfl (by omega))) | (apply Yl.isBin (bo := .eql); (first | exact Yl.eqlT rfl rfl (by omega) | exact Yl.eqlF rfl rfl (by omega))) | (apply Yl.isBin (bo := .neq); (first | exact Yl.neqT rfl rfl (by omega) | exact Yl.neqF rfl rfl (by omega))) | (apply Yl.isBin (bo := .leq); (first | exact Yl.leqT rfl rfl (by omega) | exact Yl.leqF rfl rfl (by omega))) | (apply Yl.isBin (bo := .gtr); (first | exact Yl.gtrT rfl rfl (by omega) | exact Yl.gtrF rfl rfl (by omega))) | (apply Yl.isBin (bo := .geq); (first | exact Yl.geqT rfl rfl (by omega) | exact Yl.geqF rfl rfl (by omega))) | exact Yl.add rfl rfl (by omega) | exact Yl.sub rfl rfl (by omega) | exact Yl.shr1 rfl rfl | exact Yl.eqNil rfl rfl rfl rfl | exact Yl.neqb Tryz.underlying4 rfl rfl | exact Yl.eqlb Tryz.underlying4 rfl rfl | exact Yl.eqS rfl rfl | exact Yl.neqS rfl rfl | exact Yl.addS rfl rfl (by omega) | exact Yl.addw rfl rfl | exact Yl.mulw rfl rfl)) | (apply Yl.isField; (first | exact Yl.fieldZ rfl rfl rfl | exact Yl.field0 rfl rfl rfl | exact Yl.field rfl rfl rfl)) | (apply Yl.isLoad; (first | exact Yl.loadH rfl rfl rfl (by intro w_; repeat (first | ((with_reducible apply Ld.blk); rfl) | (with_reducible exact Ld.cl) | ((with_reducible apply Ld.ent); with_reducible assumption) | (exact Ld.cs 0 rfl rfl) | (exact Ld.cs _ rfl rfl) | apply Ld.tailM | apply Ld.tailR)) | exact Yl.loadB rfl rfl rfl rfl (by repeat (first | with_reducible exact Up.head | apply Up.tail)) | exact Yl.loadP rfl rfl rfl rfl (by repeat (first | with_reducible exact Up.head | apply Up.tail)) (by repeat (first | exact SubT.zero | apply SubT.succ | apply SubC.here | apply SubC.drop)) | exact Yl.loadC rfl rfl rfl (by repeat (first | with_reducible exact List.mem_cons_self | apply List.mem_cons_of_mem)) rfl)) | (apply Yl.isIdx; (first | exact Yl.idx1 rfl rfl rfl rfl rfl rfl (by omega) | exact Yl.idx rfl rfl rfl rfl rfl rfl (by omega))) | exact Yl.len rfl rfl rfl | exact Yl.extract rfl rfl | exact Yl.pickT rfl rfl | exact Yl.pickF rfl rfl | exact Yl.nilCheck rfl | exact Yl.not rfl | exact Yl.convI rfl rfl rfl rfl rfl (by omega) | exact Yl.convU rfl rfl rfl rfl rfl (by omega) | exact Yl.makeFunc rfl rfl | exact Yl.build0 rfl rfl | exact Yl.buildC rfl rfl rfl (by repeat (first | exact Cells.nil | exact App.nil | (with_reducible apply Cells.agg) | apply Cells.one | apply App.cons)) (by rfl) | exact Yl.buildF rfl rfl rfl (by repeat (first | exact fill0 | (apply fill1; rfl; rfl; rfl; (repeat (first | exact SetL.zero | apply SetL.succ))))) | exact Yl.buildP rfl rfl rfl rfl | exact Yl.sliceSHi Tryz.underlying9 rfl rfl rfl (by omega) | exact Yl.sliceSLo Tryz.underlying9 rfl rfl rfl (by omega) | exact Yl.sliceSLH Tryz.underlying9 rfl rfl rfl rfl rfl (by omega) (by omega) | exact Yl.sliceHi rfl rfl rfl rfl rfl rfl (by omega) | exact Yl.lenS Tryz.underlying9 rfl)) : OpsT l Q Mc Rc n (fuel + 1) listed E M R := OpsT.qG k hk hc hg hy h
def isClGB (l : List Oper) (i f : Nat) : Bool := match l[i]? with | some ⟨some _, .call ⟨.value (.func f'), _, _⟩, _, _, _, some _⟩ => Nat.beq f' f | _ => false
def isApGB (l : List Oper) (i : Nat) : Bool := match l[i]? with | some ⟨some _, .call ⟨.builtin .append, _, _⟩, _, _, _, some _⟩ => true | _ => false
def isBsGB (l : List Oper) (i : Nat) : Bool := match l[i]? with | some ⟨some _, .buildSlice _ _ _, _, _, _, some _⟩ => true | _ => false
theorem StepT.isClG {i : Nat} (f : Nat) (h : StepT l Q Mc Rc n fuel listed i E M R) (_ : isClGB l i f = true := by decide +kernel) : StepT l Q Mc Rc n fuel listed i E M R := h
theorem StepT.isApG {i : Nat} (h : StepT l Q Mc Rc n fuel listed i E M R) (_ : isApGB l i = true := by decide +kernel) : StepT l Q Mc Rc n fuel listed i E M R := h
theorem StepT.isBsG {i : Nat} (h : StepT l Q Mc Rc n fuel listed i E M R) (_ : isBsGB l i = true := by decide +kernel) : StepT l Q Mc Rc n fuel listed i E M R := h
end
theorem wgtg {g g' : Prop} (h : g') (hw : Hold g' → g := by (intro hk_; (first | refine OpsT.qGa 0 rfl ?_ | refine OpsT.qGa 1 rfl ?_ | refine OpsT.qGa 2 rfl ?_ | refine OpsT.qGa 3 rfl ?_ | refine OpsT.qGa 4 rfl ?_ | refine OpsT.qGa 5 rfl ?_ | refine OpsT.qGa 6 rfl ?_ | refine OpsT.qGa 7 rfl ?_ | refine OpsT.qGa 8 rfl ?_ | refine OpsT.qGa 9 rfl ?_ | refine OpsT.qGa 10 rfl ?_ | refine OpsT.qGa 11 rfl ?_ | refine OpsT.qGa 12 rfl ?_ | refine OpsT.qGa 13 rfl ?_ | refine OpsT.qGa 14 rfl ?_ | refine OpsT.qGa 15 rfl ?_ | refine OpsT.qGa 16 rfl ?_ | refine OpsT.qGa 17 rfl ?_ | refine OpsT.qGa 18 rfl ?_ | refine OpsT.qGa 19 rfl ?_ | refine OpsT.qGa 20 rfl ?_ | refine OpsT.qGa 21 rfl ?_ | refine OpsT.qGa 22 rfl ?_ | refine OpsT.qGa 23 rfl ?_); (repeat (first | refine OpsT.qGa 0 rfl ?_ | refine OpsT.qGa 1 rfl ?_ | refine OpsT.qGa 2 rfl ?_ | refine OpsT.qGa 3 rfl ?_ | refine OpsT.qGa 4 rfl ?_ | refine OpsT.qGa 5 rfl ?_ | refine OpsT.qGa 6 rfl ?_ | refine OpsT.qGa 7 rfl ?_ | refine OpsT.qGa 8 rfl ?_ | refine OpsT.qGa 9 rfl ?_ | refine OpsT.qGa 10 rfl ?_ | refine OpsT.qGa 11 rfl ?_ | refine OpsT.qGa 12 rfl ?_ | refine OpsT.qGa 13 rfl ?_ | refine OpsT.qGa 14 rfl ?_ | refine OpsT.qGa 15 rfl ?_ | refine OpsT.qGa 16 rfl ?_ | refine OpsT.qGa 17 rfl ?_ | refine OpsT.qGa 18 rfl ?_ | refine OpsT.qGa 19 rfl ?_ | refine OpsT.qGa 20 rfl ?_ | refine OpsT.qGa 21 rfl ?_ | refine OpsT.qGa 22 rfl ?_ | refine OpsT.qGa 23 rfl ?_)); exact hk_.out)) : g := hw ⟨h⟩
end Go.Proofs.YtgbgnipidakdhaaGreatDoor
/- Plain laws: an instruction that has a signature pops exactly its parameters and pushes its results; one operand missing is an error. -/
namespace Go.Proofs.YtgbgnipidakdhaaGreatDoor
set_option maxRecDepth 100000
theorem leftK_all {s : Stk} {pre ps : List Int} (hs : s.ts = pre ++ ps) (h : s.at_ ≤ pre.length) : ∀ i, i ≤ ps.length → leftK s (ps.take i).reverse (pre.length + i) = (pre.length, 0)
  | 0, _ => by simp [leftK]
  | i + 1, hi => by
    have hl : i < ps.length := hi
    have e : (ps.take (i + 1)).reverse = ps[i] :: (ps.take i).reverse := by rw [← List.take_append_getElem hl]; simp
    have e2 : ix s.ts (pre.length + (i + 1) - 1) = ps[i] := by
      have : pre.length + (i + 1) - 1 < s.ts.length := by rw [hs, List.length_append]; omega
      rw [ix_eq this]
      simp only [hs]
      rw [List.getElem_append_right (by omega)]
      congr 1
      omega
    rw [e, leftK, if_neg (by omega), if_neg (by rw [e2]; exact fun hc => hc.1 rfl)]
    exact leftK_all hs h i (by omega)
theorem wantK_all {s : Stk} {pre ps : List Int} (hs : s.ts = pre ++ ps) (h : s.at_ ≤ pre.length) : wantK s ps = ({ s with ts := pre }, 0) := by
  have := leftK_all hs h ps.length (Nat.le_refl _)
  rw [List.take_length] at this
  unfold wantK
  dsimp only
  rw [hs, List.length_append, this, if_pos rfl, List.take_left]
theorem turnK_all {s : Stk} {pre : List Int} {f : ApiFunc} (hs : s.ts = pre ++ f.params) (h : s.at_ ≤ pre.length) : turnK s f = (pushK { s with ts := pre } f.results, 0) := by
  unfold turnK
  rw [wantK_all hs h]
  rfl
theorem leftK_less {s : Stk} (h0 : s.at_ = 0) (hl : s.loose = false) : ∀ (l : List Int) (n : Nat), n < l.length → (leftK s l n).2 = 12 ∨ (leftK s l n).2 = 13
  | [], n, h => absurd h (by simp)
  | x :: r, n, h => by
    rw [leftK]
    by_cases hn : (n : Int) = s.at_
    · rw [if_pos hn, hl, if_neg (by decide)]; exact .inr rfl
    · rw [if_neg hn]
      split
      · exact .inl rfl
      · exact leftK_less h0 hl r (n - 1) (by simp only [List.length_cons] at h; omega)
theorem wantK_less {s : Stk} {l : List Int} (h0 : s.at_ = 0) (hl : s.loose = false) (h : s.ts.length < l.length) : (wantK s l).2 = 12 ∨ (wantK s l).2 = 13 := by
  have hk := leftK_less h0 hl l.reverse s.ts.length (by simpa using h)
  have hw : (wantK s l).2 = (leftK s l.reverse s.ts.length).2 := by
    unfold wantK
    dsimp only
    split
    · omega
    · rfl
  rw [hw]; exact hk
theorem turnK_less {s : Stk} {f : ApiFunc} (h : (wantK s f.params).2 = 12 ∨ (wantK s f.params).2 = 13) : (turnK s f).2 = 12 ∨ (turnK s f).2 = 13 := by
  unfold turnK
  rw [if_pos (by omega)]
  exact h
/-- an instruction that has no signature has none beside its error -/
theorem typedK_err {m : ApiModule} {locals : List Int} {x : Ins} {f : ApiFunc} {e : Int} (h : typedK m locals x = (f, e)) (h1 : e ≠ 0) : f = noF := by
  unfold typedK functionK indirectK localK globalK tableK at h
  dsimp only at h
  repeat' split at h
  all_goals first | (cases h; exact absurd rfl h1) | (cases h; rfl)
theorem wantsP_none {m : ApiModule} {locals : List Int} {x : Ins} {f : ApiFunc} {e : Int} (h : wantsP m locals x = (f, e)) (h1 : e ≠ 0) : f = noF := by
  unfold wantsP at h
  split at h
  · cases h; rfl
  split at h
  · cases h; rfl
  · exact typedK_err h h1
theorem numO_le (op t : Int) (s : List UInt8) : (numO op t s).params.length ≤ 3 ∧ (numO op t s).results.length ≤ 3 := by
  unfold numO
  repeat' split
  all_goals (dsimp only [List.length_cons, List.length_nil]; omega)
theorem sigO_le (op : Int) : ((sigO op).getD noF).params.length ≤ 3 ∧ ((sigO op).getD noF).results.length ≤ 3 := by
  unfold sigO
  repeat' split
  all_goals first | exact ⟨by decide, by decide⟩ | exact numO_le _ _ _ | (dsimp only [Option.getD_some, Option.getD_none, noF, List.length_cons, List.length_nil]; omega)
theorem typedK_le {m : ApiModule} {locals : List Int} {x : Ins} {f : ApiFunc} {e : Int} (hT : TyB m) (h : typedK m locals x = (f, e)) : f.params.length ≤ 17592186043905 ∧ f.results.length ≤ 17592186043904 := by
  have hfun : ∀ g, funcTy m x.a = some g → g ∈ m.types := fun g hg => by
    unfold funcTy at hg
    cases ha : atK (funcsM m) x.a with
    | none => rw [ha] at hg; cases hg
    | some t => rw [ha] at hg; exact atK_mem hg
  have hs := sigO_le x.op
  unfold typedK functionK indirectK localK globalK tableK at h
  dsimp only at h
  repeat' split at h
  all_goals cases h
  all_goals first
    | (dsimp only [noF, List.length_cons, List.length_nil]; omega)
    | (have := hT _ (hfun _ (by assumption)); omega)
    | (have := hT _ (atK_mem (by assumption)); dsimp only; rw [List.length_append]; dsimp only [List.length_cons, List.length_nil]; omega)
    | omega
end Go.Proofs.YtgbgnipidakdhaaGreatDoor
/- Literals as rows of the call's own in a region gone through as a tree; rows of signatures that are read. -/
namespace Go.Proofs.YtgbgnipidakdhaaGreatDoor
open Go.RowKit
set_option maxRecDepth 100000
section
variable {n : Nat} {E : Env} {M M' : List Res} {R : List (World → Prop)} {t : TypeId}
/-- a slice written out, in memory from B on -/
theorem HE.bslB {B e len s : Nat} {ti te : TI} {parts : List (Nat × Operand)} {vs cs : List Value} (hB : ∀ w, Ok M R w → B ≤ w.heap.size) (ht : G.ty t = some ti) (he : ti.elem = some e) (hte : G.ty e = some te) (hs : te.size = s) (hv : evs E (parts.map (·.2)) = some vs) (_hc : Cells vs cs) (hlen : Nat.ble (len * s) 16777216 = true) (hf : fillS s (zrow len s te.zero.cells.toList) ((parts.map (·.1)).zip vs) = some cs) :
    HE n (.buildSlice t len parts.toArray) E M R (fun b : Nat => B ≤ b) (fun b => .slice (some ⟨b, 0, none⟩) len len) (fun b => .blk b cs e :: M) (fun _ => R) :=
  ⟨fun w hw => (Eff.buildSlice hv (run_bslice w ht he hte hs hlen hf)).mono fun _v _w' ⟨e1, hn⟩ => ⟨w.heap.size, hB w hw, e1, hw.push hn.ext hn.blk (blk_lt hn)⟩⟩
theorem own_of_blkB {w : World} {B b n s T : Nat} {cs : List Value} (h : Blk w b cs T) (hl : cs.length = n * s) (hB : B ≤ b) (hn : n ≤ 1000000) : w.ownsRow B T s (.slice (some ⟨b, 0, none⟩) n n) n cs :=
  ⟨hl, .inr ⟨b, n, cs.toArray, rfl, hB, h, Nat.le_refl _, by unfold maxLen; omega, by simp [hl], by simp [← hl]⟩⟩
theorem Ok.toOwnB {w : World} {B b m s T : Nat} {cs : List Value} (hw : Ok M R w) (hM : Up (.blk b cs T) (.own B T s (.slice (some ⟨b, 0, none⟩) m m) m cs) M M') (hl : cs.length = m * s) (hB : B ≤ b) (hn : m ≤ 1000000) : Ok M' R w :=
  hw.upd hM (Chg.refl _ w) (own_of_blkB (hw.m _ hM.mem).1 hl hB hn) (fun k hk => by
    have hk' : some b = some k := hk
    cases hk'
    exact ⟨(hw.m _ hM.mem).2 b rfl, fun _ => rfl⟩)
theorem OpsT.toOwnB {l : List Oper} {Q : Exit → Act → World → Prop} {Mc : List Res} {Rc : List (World → Prop)} {n fuel : Nat} {listed : Array Bool} {E : Env} {B b m s T : Nat} {cs : List Value} (hM : Up (.blk b cs T) (.own B T s (.slice (some ⟨b, 0, none⟩) m m) m cs) M M') (hl : cs.length = m * s) (hB : B ≤ b) (hn : m ≤ 1000000) (h : OpsT l Q Mc Rc n fuel listed E M' R) : OpsT l Q Mc Rc n fuel listed E M R := ⟨fun w hw => h.h w (hw.toOwnB hM hl hB hn)⟩
end
/-- where a row that is read lies, and that it is read from there in every world -/
theorem sgR_q {f : ApiFunc} {a : SgA} {w : World} (h : SgR f a w) : f.results.length = 0 ∨ ∃ bk o, a.q = some ⟨bk, o, none⟩ := by
  obtain ⟨q, c, e, hl, h0 | ⟨b, o, hq, -, -⟩⟩ := h.2
  · exact .inl (by rw [h0]; rfl)
  · cases e; exact .inr ⟨b, o, hq⟩
theorem ints_rdS {f : ApiFunc} {a : SgA} {M : List Res} {R : List (World → Prop)} (hs : f.results.length = 0 ∨ ∃ bk o, a.q = some ⟨bk, o, none⟩) (hR : SgR f a ∈ R) : f.results.length = 0 ∨ ∃ bk o, a.q = some ⟨bk, o, none⟩ ∧ ∀ w', Ok M R w' → ∀ j u, (valsC f.results)[j]? = some u → w'.cell? ⟨bk, o + j, none⟩ = some u := by
  rcases hs with h | ⟨b, o, hq⟩
  · exact .inl h
  by_cases hz : f.results.length = 0
  · exact .inl hz
  refine .inr ⟨b, o, hq, fun w' hw' j u hj => ?_⟩
  obtain ⟨q2, c2, e2, -, h1 | ⟨b2, o2, hq2, -, hc2⟩⟩ := (hw'.get hR).2
  · rw [h1] at hz; exact absurd rfl hz
  · cases e2
    rw [hq] at hq2; cases hq2
    have hjl : j < f.results.length := by
      have := (List.getElem?_eq_some_iff.1 hj).1
      simpa [valsC] using this
    have hu : u = .int .i64 (ix f.results j) := by
      unfold valsC at hj
      rw [List.getElem?_map, ix_some hjl] at hj
      simpa using hj.symm
    rw [hu]; exact hc2 j hjl
theorem sgR_p {f : ApiFunc} {a : SgA} {w : World} (h : SgR f a w) : f.params.length = 0 ∨ ∃ bk o, a.p = some ⟨bk, o, none⟩ := by
  obtain ⟨q, c, e, hl, h0 | ⟨b, o, hq, -, -⟩⟩ := h.1
  · exact .inl (by rw [h0]; rfl)
  · cases e; exact .inr ⟨b, o, hq⟩
end Go.Proofs.YtgbgnipidakdhaaGreatDoor
/- law23.RuleSame. -/
namespace Go.Proofs.YtgbgnipidakdhaaGreatDoor
open Go.RowKit
set_option maxRecDepth 100000
theorem addr_add1 (b o k : Nat) : (⟨b, o, none⟩ : Addr).add k = ⟨b, o + k, none⟩ := by
  unfold Addr.add
  split
  · rename_i h; rw [h]; rfl
  · rfl
/-- a slice without its first element -/
theorem Yl.slice1 {n : Nat} {E : Env} {C : World → Prop} {x y : Operand} {t : TypeId} {k : IntKind} {ti te : TI} {e l c b o : Nat} (ht : G.ty t = some ti) (he : ti.elem = some e) (hte : G.ty e = some te) (hs : te.size = 1) (hx : ev E x = some (.slice (some ⟨b, o, none⟩) l c)) (hi : ev E y = some (.int k 1)) (hl : 0 < l) :
    Yl G n (.slice t x (some y) none none) E C (.slice (some ⟨b, if c = 1 then o else o + 1, none⟩) (l - 1) (c - 1)) := ⟨fun w _ a ha d ty pos aft gd => by
  have h1 := (G.tyOk t ti ht).elem e he
  have h2 := (G.tyOk e te hte).size w
  rw [hs] at h2
  have h3 : (1 : Int) ≤ (l : Nat) := by omega
  by_cases hc : c = 1
  · simp [execOp, ha.eval hx, ha.eval hi, Instr.sliceAt, Instr.slice, Instr.sliceBounds, Instr.sliceBound, asIntOf, run_underlying h1, h2, h3, hc, addr_add1]
  · simp [execOp, ha.eval hx, ha.eval hi, Instr.sliceAt, Instr.slice, Instr.sliceBounds, Instr.sliceBound, asIntOf, run_underlying h1, h2, h3, hc, addr_add1]⟩
/-- what is read of it: all but one (were the capacity 1, the first ones) -/
theorem ints_less (D : Nat → Prop) (b o n c : Nat) (xs : List Int) (hn : 0 < xs.length) : ∃ l : List Int, l.length + 1 = xs.length ∧ ∀ w', IntsR D w' (.slice (some ⟨b, o, none⟩) n c) xs → IntsR D w' (.slice (some ⟨b, if c = 1 then o else o + 1, none⟩) (n - 1) (c - 1)) l := by
  have hxs : xs ≠ [] := fun e => by rw [e] at hn; exact absurd hn (by decide)
  by_cases hc : c = 1
  · refine ⟨xs.take (xs.length - 1), by rw [List.length_take]; omega, fun w' h' => ?_⟩
    obtain ⟨q, d, e, hl, h0 | ⟨b2, o2, hq, hD, hr⟩⟩ := h'
    · exact absurd h0 hxs
    cases e; cases hq
    rw [if_pos hc]
    refine ⟨_, _, by rw [List.length_take, Nat.min_eq_left (by omega)], by rw [List.length_take]; omega, .inr ⟨b, o, rfl, hD, fun i hi => ?_⟩⟩
    rw [List.length_take] at hi
    rw [hr i (by omega), ix_take (by omega) (by omega)]
  · refine ⟨xs.tail, by rw [List.length_tail]; omega, fun w' h' => ?_⟩
    obtain ⟨q, d, e, hl, h0 | ⟨b2, o2, hq, hD, hr⟩⟩ := h'
    · exact absurd h0 hxs
    cases e; cases hq
    rw [if_neg hc]
    refine ⟨_, _, by rw [List.length_tail], by rw [List.length_tail]; omega, .inr ⟨b, o + 1, rfl, hD, fun i hi => ?_⟩⟩
    rw [List.length_tail] at hi
    have e1 : ix xs.tail i = ix xs (i + 1) := by
      rw [ix_eq (by rw [List.length_tail]; omega), ix_eq (by omega)]
      simp
    rw [e1, ← hr (i + 1) (by omega), Nat.add_assoc, Nat.add_comm 1 i]
/-- the stack that holds what an instruction wants, and one type below -/
theorem same_ctl (f : ApiFunc) : ∃ s1 s2 : Stk, ∃ c2 c3 : Ctl, pushK (newC []).stk [4] = s1 ∧ pushK s1 f.params = s2 ∧ { newC [] with stk := s2 } = c2 ∧ applyT c2 (f, 0) = (c3, 0) ∧ c3.stk.ts = [4] ++ f.results ∧ c3.live = true ∧ c3.broken = 0 ∧ 0 < c3.stk.ps.length ∧ s1.ts.length = 1 ∧ 0 < s1.ps.length ∧ c2.Wf ∧ (wantK s2 f.params).1.ts.length = 1 ∧ c2.stk = s2 := by
  have e0 : (newC []).stk = ⟨[], [(0, false), (0, false)], 0⟩ := rfl
  have hw0 : (newC []).stk.Wf := (newC_wf []).stk
  have ha : (pushK (pushK (newC []).stk [4]) f.params).at_ = 0 := by rw [e0]; rfl
  have hs : (pushK (pushK (newC []).stk [4]) f.params).ts = [4] ++ f.params := by rw [e0]; rfl
  have hwk := wantK_all hs (by rw [ha]; decide)
  have htk := turnK_all (f := f) hs (by rw [ha]; decide)
  refine ⟨_, _, _, { newC [] with stk := (pushK { (pushK (pushK (newC []).stk [4]) f.params) with ts := [4] } f.results) }, rfl, rfl, rfl, ?_, rfl, rfl, rfl, ?_, ?_, ?_, ⟨pushK_wf (pushK_wf hw0 _) _, rfl, (newC_wf []).fr, fun h => by cases h⟩, ?_, rfl⟩
  · unfold applyT turnC
    rw [if_neg (fun h => h rfl)]
    dsimp only
    rw [htk]
  · rw [e0]; exact Nat.zero_lt_succ _
  · rw [e0]; rfl
  · rw [e0]; exact Nat.zero_lt_succ _
  · rw [hwk]; rfl
/-- the stack that lacks one operand -/
theorem less_ctl (f : ApiFunc) (l : List Int) (h : l.length + 1 = f.params.length) : ∃ s1 : Stk, ∃ c2 : Ctl, ∃ e : Int, pushK (newC []).stk l = s1 ∧ { newC [] with stk := s1 } = c2 ∧ (applyT c2 (f, 0)).2 = e ∧ (e = 12 ∨ e = 13) ∧ c2.Wf ∧ (wantK s1 f.params).2 ≠ 0 ∧ s1.ts.length + 1 = f.params.length := by
  have e0 : (newC []).stk = ⟨[], [(0, false), (0, false)], 0⟩ := rfl
  have hw0 : (newC []).stk.Wf := (newC_wf []).stk
  have hl : (pushK (newC []).stk l).ts.length + 1 = f.params.length := by
    rw [e0]
    show ([] ++ l).length + 1 = _
    rw [List.nil_append]; exact h
  have hwk := wantK_less (s := pushK (newC []).stk l) (l := f.params) (by rw [e0]; rfl) (by rw [e0]; rfl) (by omega)
  have := turnK_less (f := f) hwk
  refine ⟨_, _, _, rfl, rfl, rfl, ?_, ⟨pushK_wf hw0 _, rfl, (newC_wf []).fr, fun h => by cases h⟩, by omega, hl⟩
  unfold applyT turnC
  rw [if_neg (fun h => h rfl)]
  exact this
set_option maxHeartbeats 8000000 in
theorem law23_RuleSame (m : ApiModule) (cs : List Value) (locals : List Int) (lp : Option Addr) (lc : Nat) (x : Ins) (pt pl : Option Addr) (ct cl : Nat) (w : World) (hm : ApiModuleV (fun _ => True) w cs m) (hT : TyB m) (hl : IntsR (fun _ => True) w (.slice lp locals.length lc) locals) (hx : InV w x (.slice pt x.types.length ct) (.slice pl x.labels.length cl)) (h0 : Env0 w) : Calls G.P 6 #[.agg cs.toArray, .slice lp locals.length lc, .agg #[Value.int .i64 x.op, Value.int .i64 x.a, Value.int .i64 x.b, Value.int .u64 x.n, Value.int .i64 x.kind, Value.int .i64 x.val, Value.int .i64 x.index, Value.slice pt x.types.length ct, Value.slice pl x.labels.length cl]] w fun e w' => e = .returned (.bool true) ∧ Ext w w' := by
  have hm0 := hm
  obtain ⟨v0, v1, v2, v3, v4, v5, v6, v7, v8, v9, rfl, r0, r1, r2, r3, r4, r5, r6, r7, r8, r9, g0⟩ := hm; obtain ⟨p0, c0, rfl, l0⟩ := r0.slice; obtain ⟨p1, c1, rfl, l1⟩ := r1.slice; obtain ⟨p2, c2, rfl, l2⟩ := r2.slice; obtain ⟨p3, c3, rfl, l3⟩ := r3.slice; obtain ⟨p4, c4, rfl, l4⟩ := r4.slice; obtain ⟨p5, c5, rfl, l5⟩ := r5.slice; obtain ⟨p6, c6, rfl, l6⟩ := r6.slice; obtain ⟨p7, c7, rfl, l7⟩ := r7.slice; obtain ⟨p8, c8, rfl, l8⟩ := r8.slice; obtain ⟨p9, c9, rfl, l9⟩ := r9.slice
  obtain ⟨r, hr⟩ : ∃ r, wantsP m locals x = r := ⟨_, rfl⟩
  obtain ⟨f, e0⟩ := r
  refine enterH (l := [.agg (([Value.slice p0 m.types.length c0, Value.slice p1 m.imports.length c1, Value.slice p2 m.funcs.length c2, Value.slice p3 m.tables.length c3, Value.slice p4 m.mems.length c4, Value.slice p5 m.globals.length c5, Value.slice p6 m.exports.length c6, Value.bool m.hasStart, Value.int .i64 m.start, Value.slice p7 m.elems.length c7, Value.slice p8 m.datas.length c8, Value.slice p9 m.customs.length c9] : List Value)).toArray, _, _]) Tryz.func6 rfl Tryz.ntmps6 rfl (Ok.start w) ?_
  repeat' (first | refine wau ?_ | (refine wspl ?_ ?_ <;> intro hc_))
  refine OpsH.box ([Value.slice p0 m.types.length c0, Value.slice p1 m.imports.length c1, Value.slice p2 m.funcs.length c2, Value.slice p3 m.tables.length c3, Value.slice p4 m.mems.length c4, Value.slice p5 m.globals.length c5, Value.slice p6 m.exports.length c6, Value.bool m.hasStart, Value.int .i64 m.start, Value.slice p7 m.elems.length c7, Value.slice p8 m.datas.length c8, Value.slice p9 m.customs.length c9] : List Value) rfl rfl rfl fun b3 => ?_
  repeat' (first | refine wau ?_ | (refine OpsH.isBox ?_; refine OpsH.box _ rfl rfl rfl fun b_ => ?_) | (refine wspl ?_ ?_ <;> intro hc_))
  obtain ⟨bx, rfl⟩ : ∃ y : Nat, y = b_ := ⟨_, rfl⟩
  repeat' (first | refine wau ?_ | (refine OpsH.isBsl ?_; refine OpsH.he (HE.bsl rfl rfl rfl rfl rfl wcel (by rfl) (by rfl)) rfl ?_; intro b_ _) | (refine wspl ?_ ?_ <;> intro hc_))
  obtain ⟨bb, rfl⟩ : ∃ y : Nat, y = b_ := ⟨_, rfl⟩
  refine OpsH.he (HE.callB (P := FewP m locals.length [x]) rfl rfl (fun w' hw' => law23_few (fun _ => True) m locals [x] ([Value.slice p0 m.types.length c0, Value.slice p1 m.imports.length c1, Value.slice p2 m.funcs.length c2, Value.slice p3 m.tables.length c3, Value.slice p4 m.mems.length c4, Value.slice p5 m.globals.length c5, Value.slice p6 m.exports.length c6, Value.bool m.hasStart, Value.int .i64 m.start, Value.slice p7 m.elems.length c7, Value.slice p8 m.datas.length c8, Value.slice p9 m.customs.length c9] : List Value) lp lc (.slice (some ⟨bb, 0, none⟩) 1 1) w' (hm0.chg (show Ext w w' from hw'.at) (fun _ _ _ h => h)) (body_one (hw'.m (.blk bb [Value.int .i64 x.op, Value.int .i64 x.a, Value.int .i64 x.b, Value.int .u64 x.n, Value.int .i64 x.kind, Value.int .i64 x.val, Value.int .i64 x.index, Value.slice pt x.types.length ct, Value.slice pl x.labels.length cl] 42) wmm).1 (hx.ext hw'.at)))) rfl ?_
  intro fb hfb
  cases fb with
  | false =>
    repeat' (first | refine wau ?_ | (refine OpsH.isCall (f := 10) ?_; refine OpsH.call1 rfl rfl rfl (fun w' hw' => law23_alive w' (h0.ext hw'.at)) ?_) | (refine wspl ?_ ?_ <;> intro hc_))
    all_goals exact FinH.ret1 rfl rfl fun w' hw' => ⟨rfl, hw'.at⟩
  | true =>
    have hLQ := (hfb rfl).1
    repeat' (first | refine wau ?_ | (refine wspl ?_ ?_ <;> intro hc_))
    refine OpsH.he (HE.callSp (m := m) rfl rfl (fun w' hw' => space_Of (fun _ => True) m ([Value.slice p0 m.types.length c0, Value.slice p1 m.imports.length c1, Value.slice p2 m.funcs.length c2, Value.slice p3 m.tables.length c3, Value.slice p4 m.mems.length c4, Value.slice p5 m.globals.length c5, Value.slice p6 m.exports.length c6, Value.bool m.hasStart, Value.int .i64 m.start, Value.slice p7 m.elems.length c7, Value.slice p8 m.datas.length c8, Value.slice p9 m.customs.length c9] : List Value) w' (hm0.chg (show Ext w w' from hw'.at) (fun _ _ _ h => h)) hLQ)) rfl ?_
    rintro ⟨B, sv⟩ _
    repeat' (first | refine wau ?_ | (refine wspl ?_ ?_ <;> intro hc_))
    refine OpsH.he (HE.sgW1 (r := (f, e0)) rfl rfl (fun w' hw' => by have := rule_Wants B (fun _ => True) m locals sv x lp pt pl lc ct cl w' (h0.ext hw'.at) (hw'.get (p := fun w => SpaceRd B m w sv) wmem) (hl.chg (show Ext w w' from hw'.at) (fun _ _ _ h => h)) (hx.ext hw'.at).t (hx.ext hw'.at).l hT; rw [hr] at this; exact this)) rfl ?_
    rintro ⟨D4, p4, c4, q4, d4⟩ _
    dsimp only
    by_cases e2 : e0 = 0
    · subst e2
      obtain ⟨hp, ha, ht⟩ := wantsP_ok hr
      obtain ⟨hl1, hl2⟩ := typedK_le hT ht
      repeat' (first | refine wau ?_ | (refine OpsH.isAlloc (t := TFn) ?_; refine OpsH.alloc (t := TFn) [Value.slice none 0 0, Value.slice none 0 0] rfl rfl rfl fun b_ => ?_) | (refine wspl ?_ ?_ <;> intro hc_))
      obtain ⟨bf, rfl⟩ : ∃ y : Nat, y = b_ := ⟨_, rfl⟩
      refine OpsH.he (HE.callN (M0 := []) Rms.nil rfl rfl (fun w' hw' => ctrl_New (fun _ => False) [] (.slice none 0 0) w' (IntsR.nil0 _ _))) rfl ?_
      rintro ⟨cp, sp, tv, pv, bv, rv, fv, D, L⟩ hg
      dsimp only [ctlM, stkM, List.cons_append, List.nil_append] at hg ⊢
      refine OpsH.he (HE.callN (M0 := []) Rms.nil rfl rfl (fun w' hw' => ctrl_New (fun _ => False) [] (.slice none 0 0) w' (IntsR.nil0 _ _))) rfl ?_
      rintro ⟨dp, sq, tw, pw, bw, rw_, fw, DD, LL⟩ hgd
      dsimp only [ctlM, stkM, List.cons_append, List.nil_append] at hgd ⊢
      obtain ⟨s1, s2, c2, c3, hs1, hs2, hc2, hA, hts, hlv, hbr, hps, k1, k2, hwf2, k3, k4⟩ := same_ctl f
      repeat' (first | refine wau ?_ | (refine OpsH.isCall (f := 23) ?_; refine OpsH.call1 rfl rfl rfl (fun w' hw' => ctrl_Stack cp ⟨sp, 0, none⟩ w' (hw'.c1 wup (by rfl))) ?_) | (refine OpsH.isBsl ?_; refine OpsH.he (HE.bsl rfl rfl rfl rfl rfl wcel (by rfl) (by rfl)) rfl ?_; intro b_ _) | (refine wspl ?_ ?_ <;> intro hc_))
      refine OpsH.freeze (q := .blk b_ [.int .i64 4] TVl) (fun w => IntsR (fun k => k = b_) w (.slice (some ⟨b_, 0, none⟩) 1 1) [4]) wrm (fun w' h _ => blk_ints1 h) ?_
      refine OpsH.he (HE.callN (M0 := stkM sp (newC []).stk (tv, pv)) wrms rfl rfl (fun w' hw' => by have := stack_Push (fun k => k = b_) sp (newC []).stk (tv, pv) (.slice (some ⟨b_, 0, none⟩) 1 1) [4] w' (hw'.subP wsp wsr) (by decide) (by decide); rw [hs1] at this; exact this)) rfl ?_
      rintro ⟨tv1, pv1⟩ _
      dsimp only [stkM, List.cons_append, List.nil_append]
      repeat' (first | refine wau ?_ | (refine wspl ?_ ?_ <;> intro hc_))
      refine CdH.regionR [.blk bf [.slice p4 f.params.length c4, .slice q4 f.results.length d4] TFn] [SgR f ⟨D4, p4, c4, q4, d4⟩, Ext w] wsl wsr ?_
      repeat' (first | refine wgt ?_ | (refine StepT.isCl 23 ?_; refine StepT.he rfl rfl (HE.callV rfl rfl (fun w' hw' => ctrl_Stack cp ⟨sp, 0, none⟩ w' (hw'.c1 wup (by rfl)))) (fun _ => wsl) (fun _ => wsr) ?_; rintro ⟨⟩ _) | (refine StepT.isCl 24 ?_; refine StepT.he rfl rfl (HE.callN (M0 := stkM sp s1 (tv1, pv1)) wrms rfl rfl (fun w' hw' => by have := stack_Push D4 sp s1 (tv1, pv1) (.slice p4 f.params.length c4) f.params w' ((hw'.der (p := fun w => IntsR D4 w (.slice p4 f.params.length c4) f.params) (fun w2 h => (h (SgR f ⟨D4, p4, c4, q4, d4⟩) wmem).1)).subP wsp wsr) k2 (by omega); rw [hs2] at this; exact this)) (fun _ => by dsimp only [stkM, List.cons_append, List.nil_append]; exact wsl) (fun _ => wsr) ?_; rintro ⟨tv2, pv2⟩ _; dsimp only [stkM, List.cons_append, List.nil_append]) | refine OpsT.nil (by decide +kernel) ?_ | refine OpsT.any (by decide +kernel) ?_ | exact StepsT.fin rfl | refine StepsT.skip (by decide +kernel) ?_ | refine StepsT.go ?_ ?_)
      repeat' (first | refine wau ?_ | (refine wspl ?_ ?_ <;> intro hc_))
      subst hc2
      refine CdH.pure (φ := (f.results.length = 0 ∨ ∃ bk o, q4 = some ⟨bk, o, none⟩) ∧ (f.params.length = 0 ∨ ∃ bk o, p4 = some ⟨bk, o, none⟩)) (fun w' hw' => ⟨sgR_q (hw'.get (p := SgR f ⟨D4, p4, c4, q4, d4⟩) wmem), sgR_p (hw'.get (p := SgR f ⟨D4, p4, c4, q4, d4⟩) wmem)⟩) ?_
      rintro ⟨hq4, hp4⟩
      refine CdH.regionR [.blk bf [.slice p4 f.params.length c4, .slice q4 f.results.length d4] TFn, .blk bx [Value.int .i64 x.op, Value.int .i64 x.a, Value.int .i64 x.b, Value.int .u64 x.n, Value.int .i64 x.kind, Value.int .i64 x.val, Value.int .i64 x.index, Value.slice pt x.types.length ct, Value.slice pl x.labels.length cl] 42] [SgR f ⟨D4, p4, c4, q4, d4⟩, Ext w] wsl wsr ?_
      repeat' (first | refine wgt ?_ | (refine wgtg ?_) | (refine StepT.isCl 16 ?_; refine StepT.he rfl rfl (HE.callN (M0 := ctlM cp { newC [] with stk := s2 } ⟨sp, tv2, pv2, bv, rv, fv, D, L⟩) wrms rfl rfl (fun w' hw' => by have := rule_Apply_typed B (fun _ => True) cp { newC [] with stk := s2 } ⟨sp, tv2, pv2, bv, rv, fv, D, L⟩ m locals sv x lp pt pl lc ct cl w' (ap_ext (hw'.subP wsp (fun _ h => h)) wmem h0 wmem hl hx.t hx.l) ⟨hg.len, hg.fr, hg.rs⟩ hwf2 hp ha hT (by rw [ht]; intro _; show ((wantK s2 f.params).1.ts.length + f.results.length) * 8 ≤ _; omega); rw [ht, hA] at this; exact this.mono fun _ _ h => h.good rfl)) (fun _ => by dsimp only [ctlM, stkM, List.cons_append, List.nil_append]; exact wsl) (fun _ => wsr) ?_; rintro ⟨sp3, tv3, pv3, bv3, rv3, fv3, D3, L3⟩ hg3; dsimp only [ctlM, stkM, List.cons_append, List.nil_append] at hg3 ⊢) | (refine StepT.isClG 23 ?_; refine StepT.heG rfl rfl rfl (HE.callV rfl rfl (fun w' hw' => ctrl_Stack cp ⟨sp3, 0, none⟩ w' (hw'.c1 wup (by rfl)))) (fun _ => wsl) (fun _ => wsr) ?_; rintro ⟨⟩ _) | (refine StepT.isClG 28 ?_; refine StepT.heG rfl rfl rfl (HE.callN (M0 := []) Rms.nil rfl rfl (fun w' hw' => stack_All sp3 c3.stk (tv3, pv3) w' (hw'.subP wsp (fun p hp => absurd hp (by simp))) hps (by rw [hts, List.length_append]; show 1 + f.results.length ≤ _; omega))) (fun _ => by dsimp only [List.cons_append, List.nil_append]; exact wsl) (fun _ => wsr) ?_; rintro u _; dsimp only [List.cons_append, List.nil_append]) | (refine StepT.isBsG ?_; refine StepT.heG rfl rfl rfl (HE.bslB (B := 0) (fun _ _ => Nat.zero_le _) rfl rfl rfl rfl rfl wcel (by rfl) (by rfl)) (fun _ => wsl) (fun _ => wsr) ?_; rintro b7 _; refine OpsT.toOwnB (B := 0) (m := 1) (s := 1) wup rfl (Nat.zero_le _) (by decide) ?_) | (refine StepT.isApG ?_; refine StepT.heG rfl rfl rfl (HE.appRB (valsC f.results) rfl rfl (fun _ => wup) (ints_rdS (a := ⟨D4, p4, c4, q4, d4⟩) hq4 wmem) (by simp [valsC]) rfl rfl rfl (by rfl) (by rfl) (by rfl) (ints_one _) (by show (1 + f.results.length) * 8 ≤ _; omega) (by omega) (fun _ _ => Nat.zero_le _)) (fun _ => wsl) (fun _ => wsr) ?_; rintro v9 _) | (refine StepT.isClG 27 ?_; refine StepT.heG rfl rfl rfl (HE.callV (v := .bool true) rfl rfl (fun w' hw' => by have g1 := own_reads (hw'.own (B := 0) (T := TVl) (v := u)) (by rw [hts, List.length_append]; show 1 + f.results.length ≤ _; omega); rw [hts] at g1; have e9 : w'.ownsRow 0 TVl 1 v9 (1 + f.results.length) ([Value.int .i64 4] ++ valsC f.results) := hw'.own; have e8 : (([4] : List Int) ++ f.results).length = 1 + f.results.length := (by rw [List.length_append]; rfl); have e7 : w'.ownsRow 0 TVl 1 v9 (([4] : List Int) ++ f.results).length (valsC (([4] : List Int) ++ f.results)) := (by rw [e8]; exact e9); have g2 := own_reads e7 (by rw [e8]; omega); have := ref21_Same _ _ ([4] ++ f.results) ([4] ++ f.results) u v9 w' g1 g2; rw [decide_eq_true rfl] at this; exact this)) (fun _ => wsl) (fun _ => wsr) ?_; rintro ⟨⟩ _) | refine OpsT.nil (by decide +kernel) ?_ | refine OpsT.any (by decide +kernel) ?_ | exact StepsT.fin rfl | refine StepsT.skip (by decide +kernel) ?_ | refine StepsT.go ?_ ?_)
      all_goals
        by_cases hz : 0 < f.params.length
        · obtain ⟨bk, o, rfl⟩ := hp4.resolve_left (by omega)
          obtain ⟨l, hll, hless⟩ := ints_less D4 bk o f.params.length c4 f.params hz
          obtain ⟨t1, d2, e1, ht1, hd2, he1, he2, hwf3, hno, hl1⟩ := less_ctl f l hll
          subst hd2
          repeat' (first | refine wau ?_ | (refine wspl ?_ ?_ <;> intro hc_))
          refine CdH.regionR [.blk bf [.slice (some ⟨bk, o, none⟩) f.params.length c4, .slice q4 f.results.length d4] TFn] [SgR f ⟨D4, some ⟨bk, o, none⟩, c4, q4, d4⟩, Ext w] wsl wsr ?_
          repeat' (first | refine wgt ?_ | (refine OpsT.qy 4 rfl (Yl.slice1 rfl rfl rfl rfl rfl rfl hz) ?_) | (refine StepT.isCl 23 ?_; refine StepT.he rfl rfl (HE.callV rfl rfl (fun w' hw' => ctrl_Stack dp ⟨sq, 0, none⟩ w' (hw'.c1 wup (by rfl)))) (fun _ => wsl) (fun _ => wsr) ?_; rintro ⟨⟩ _) | (refine StepT.isCl 24 ?_; refine StepT.he rfl rfl (HE.callN (M0 := stkM sq (newC []).stk (tw, pw)) wrms rfl rfl (fun w' hw' => by have := stack_Push D4 sq (newC []).stk (tw, pw) (.slice (some ⟨bk, if c4 = 1 then o else o + 1, none⟩) (f.params.length - 1) (c4 - 1)) l w' ((hw'.der (p := fun w => IntsR D4 w (.slice (some ⟨bk, if c4 = 1 then o else o + 1, none⟩) (f.params.length - 1) (c4 - 1)) l) (fun w2 h => hless w2 (h (SgR f ⟨D4, some ⟨bk, o, none⟩, c4, q4, d4⟩) wmem).1)).subP wsp wsr) (by decide) (by show (0 + l.length) * 8 ≤ _; omega); rw [ht1] at this; exact this)) (fun _ => by dsimp only [stkM, List.cons_append, List.nil_append]; exact wsl) (fun _ => wsr) ?_; rintro ⟨tw2, pw2⟩ _; dsimp only [stkM, List.cons_append, List.nil_append]) | refine OpsT.nil (by decide +kernel) ?_ | refine OpsT.any (by decide +kernel) ?_ | exact StepsT.fin rfl | refine StepsT.skip (by decide +kernel) ?_ | refine StepsT.go ?_ ?_)
          repeat' (first | refine wau ?_ | (refine wspl ?_ ?_ <;> intro hc_))
          refine OpsH.he (HE.callN (M0 := ctlM dp { newC [] with stk := t1 } ⟨sq, tw2, pw2, bw, rw_, fw, DD, LL⟩) wrms rfl rfl (fun w' hw' => by have := rule_Apply_typed B (fun _ => True) dp { newC [] with stk := t1 } ⟨sq, tw2, pw2, bw, rw_, fw, DD, LL⟩ m locals sv x lp pt pl lc ct cl w' (ap_ext (hw'.subP wsp (fun _ h => h)) wmem h0 wmem hl hx.t hx.l) ⟨hgd.len, hgd.fr, hgd.rs⟩ hwf3 hp ha hT (by rw [ht]; intro h; exact absurd h hno); rw [ht] at this; exact this.mono fun _ _ h => h.bad (q := e1) he1 (by omega))) rfl ?_
          rintro _ _
          dsimp only [List.nil_append]
          rcases he2 with rfl | rfl
          all_goals
            repeat' (first | refine wau ?_ | (refine OpsH.isCall (f := 29) ?_; refine OpsH.call1 rfl rfl rfl (fun w' hw' => by have := ctrl_Live cp c3 ⟨sp3, tv3, pv3, bv3, rv3, fv3, D3, L3⟩ w' ((hw'.subP (M' := ctlM cp c3 ⟨sp3, tv3, pv3, bv3, rv3, fv3, D3, L3⟩) wsp (fun _ h => h)).ctl (List.Sublist.refl _)) hbr; rw [hlv] at this; exact this) ?_) | (refine OpsH.isCallG (f := 10) ?_; refine OpsH.call1g wgd rfl rfl rfl (fun w' hw' => law23_alive w' (h0.ext hw'.at)) ?_) | (refine wspl ?_ ?_ <;> intro hc_))
            exact FinH.ret1 rfl rfl fun w' hw' => ⟨rfl, hw'.at⟩
        · repeat' (first | refine wau ?_ | (refine OpsH.isCall (f := 29) ?_; refine OpsH.call1 rfl rfl rfl (fun w' hw' => by have := ctrl_Live cp c3 ⟨sp3, tv3, pv3, bv3, rv3, fv3, D3, L3⟩ w' ((hw'.subP (M' := ctlM cp c3 ⟨sp3, tv3, pv3, bv3, rv3, fv3, D3, L3⟩) wsp (fun _ h => h)).ctl (List.Sublist.refl _)) hbr; rw [hlv] at this; exact this) ?_) | (refine OpsH.isCallG (f := 10) ?_; refine OpsH.call1g wgd rfl rfl rfl (fun w' hw' => law23_alive w' (h0.ext hw'.at)) ?_) | (refine wspl ?_ ?_ <;> intro hc_))
          exact FinH.ret1 rfl rfl fun w' hw' => ⟨rfl, hw'.at⟩
    · obtain rfl := wantsP_none hr e2
      repeat' (first | refine wau ?_ | (refine OpsH.isAlloc (t := TFn) ?_; refine OpsH.alloc (t := TFn) [Value.slice none 0 0, Value.slice none 0 0] rfl rfl rfl fun b_ => ?_) | (refine OpsH.isCallG (f := 10) ?_; refine OpsH.call1g wgd rfl rfl rfl (fun w' hw' => law23_alive w' (h0.ext hw'.at)) ?_) | (refine wspl ?_ ?_ <;> intro hc_))
      all_goals first | omega | exact FinH.ret1 rfl rfl fun w' hw' => ⟨rfl, hw'.at⟩
end Go.Proofs.YtgbgnipidakdhaaGreatDoor
