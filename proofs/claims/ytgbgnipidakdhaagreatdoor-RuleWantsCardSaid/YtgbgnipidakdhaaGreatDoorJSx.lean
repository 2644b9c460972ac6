/- A region that draws its order, gone through as a tree: what only reads is taken first; where several effects can come, each of them. -/
import Derived.Test.YtgbgnipidakdhaaGreatDoorJSr
import Derived.Test.YtgbgnipidakdhaaGreatDoorJAw
import Derived.Test.YtgbgnipidakdhaaGreatDoorJSw
namespace Go.Proofs.YtgbgnipidakdhaaGreatDoor
open Go.RowKit
set_option maxRecDepth 100000
structure OpsT (l : List Oper) (Q : Exit → Act → World → Prop) (Mc : List Res) (Rc : List (World → Prop)) (n fuel : Nat) (listed : Array Bool) (E : Env) (M : List Res) (R : List (World → Prop)) : Prop where
  h : ∀ w, Ok M R w → Ok Mc Rc w → Clo .any l.toArray listed → ∀ a, Ag n a E → wpAnyM G.P .any l.toArray (Ok Mc Rc) l.length (Q .normal) fuel listed a w
structure StepT (l : List Oper) (Q : Exit → Act → World → Prop) (Mc : List Res) (Rc : List (World → Prop)) (n fuel : Nat) (listed : Array Bool) (i : Nat) (E : Env) (M : List Res) (R : List (World → Prop)) : Prop where
  h : ∀ w, Ok M R w → Ok Mc Rc w → Clo .any l.toArray listed → i ∈ Region.ready .any l.toArray listed → ∀ a, Ag n a E → mOp G.P l.toArray (Ok Mc Rc) l.length i (wpAnyM G.P .any l.toArray (Ok Mc Rc) l.length (Q .normal) fuel (listed.setIfInBounds i true)) a w
section
variable {l : List Oper} {Q : Exit → Act → World → Prop} {Mc : List Res} {Rc : List (World → Prop)} {n fuel : Nat} {listed : Array Bool} {E : Env} {M : List Res} {R : List (World → Prop)} {d : Nat} {op : Op} {ty : TypeId} {pos : String} {aft : Array Edge} {v : Value} {β : Type} {φ : β → Prop} {vf : β → Value} {Mf : β → List Res} {Rf : β → List (World → Prop)}
theorem CdH.regionR {id : Nat} (Mc : List Res) (Rc : List (World → Prop)) (hM : Mc.Sublist M) (hR : ∀ p, p ∈ Rc → p ∈ R) (h : OpsT l Q Mc Rc n l.length (Array.replicate l.length false) E M R) : CdH Q n (.region id l.toArray true) E M R :=
  ⟨fun w hw => ⟨fun a ha => wp_region_any G.mixed (wpAny_of_M (C := Ok Mc Rc) (z := l.length) (K := Q .normal) (fun _ _ h => h) _ _ _ _ (by
    have := h.h w.drew hw.drew (hw.drew.sub hM hR) (Clo.start _) a ha
    simpa using this))⟩⟩
theorem OpsT.q (k : Nat) (hk : l[k]? = some ⟨some d, op, ty, pos, aft, none⟩) (hc : (Region.noSelect l.toArray && (Region.ready .any l.toArray listed).contains k && Region.free .any l.toArray listed k && isQ op && Nat.blt d n) = true) (hy : Yl G n op E (Ok Mc Rc) v)
    (h : OpsT l Q Mc Rc n fuel (listed.setIfInBounds k true) ((d, v) :: E) M R) : OpsT l Q Mc Rc n (fuel + 1) listed E M R := ⟨fun w hw hC hcl a ha => by
  simp only [Bool.and_eq_true] at hc
  obtain ⟨⟨⟨⟨h1, h2⟩, h3⟩, h4⟩, h5⟩ := hc
  have hkl : k < l.length := (List.getElem?_eq_some_iff.1 hk).1
  have ho : l.toArray[k]? = some ⟨some d, op, ty, pos, aft, none⟩ := by simpa using hk
  have hkr : k ∈ Region.ready .any l.toArray listed := by simpa using h2
  exact wpAnyM_first ho (Region.noSelect_spec h1) (fun _ _ _ _ => no_z) (by omega) fuel listed a w hC hcl (Region.free_spec ho h3) hkr (.inl ⟨by simp [Region.wanted], fun w hw => hy.h w hw a ha _ _ _ _ _⟩) (h.h w hw hC (hcl.set hkr) _ (ha.put (by simpa using h5) v))⟩
theorem OpsT.nil (hr : Region.ready .any l.toArray listed = []) (h : FinH Q n .normal E M R) : OpsT l Q Mc Rc n fuel listed E M R := ⟨fun w hw hC hcl a ha => by
  cases fuel with
  | zero => exact ⟨hr, (h.h w hw).h a ha⟩
  | succ f => exact ⟨fun _ => (h.h w hw).h a ha, fun i hi => by rw [hr] at hi; cases hi⟩⟩
theorem StepT.he {i : Nat} (hi : l[i]? = some ⟨some d, op, ty, pos, aft, none⟩) (hd : Nat.blt d n = true) (he : HE n op E M R φ vf Mf Rf) (hM : ∀ x, Mc.Sublist (Mf x)) (hR : ∀ x p, p ∈ Rc → p ∈ Rf x) (h : ∀ x, φ x → OpsT l Q Mc Rc n fuel (listed.setIfInBounds i true) ((d, vf x) :: E) (Mf x) (Rf x)) : StepT l Q Mc Rc n fuel listed i E M R := ⟨fun w hw hC hcl hr a ha => by
  have ho : l.toArray[i]? = some ⟨some d, op, ty, pos, aft, none⟩ := by simpa using hi
  unfold mOp
  simp only [ho]
  have hw' : Region.wanted ⟨some d, op, ty, pos, aft, none⟩ (yielded l.toArray a.tmps) = true := by simp [Region.wanted]
  simp only [hw', if_true]
  exact effUp_mono ((he.h w hw).h a ha _ _ _ _ _) fun v w2 ⟨x, h1, h2, h3⟩ => by
    subst h2
    exact ⟨.inr (h3.sub (hM x) (hR x)), (h x h1).h w2 h3 (h3.sub (hM x) (hR x)) (hcl.set hr) _ (ha.put (by simpa using hd) _)⟩⟩
theorem StepT.he0 {i : Nat} (hi : l[i]? = some ⟨none, op, ty, pos, aft, none⟩) (he : HE0 n op E M R φ Mf Rf) (hM : ∀ x, Mc.Sublist (Mf x)) (hR : ∀ x p, p ∈ Rc → p ∈ Rf x) (h : ∀ x, φ x → OpsT l Q Mc Rc n fuel (listed.setIfInBounds i true) E (Mf x) (Rf x)) : StepT l Q Mc Rc n fuel listed i E M R := ⟨fun w hw hC hcl hr a ha => by
  have ho : l.toArray[i]? = some ⟨none, op, ty, pos, aft, none⟩ := by simpa using hi
  unfold mOp
  simp only [ho]
  have hw' : Region.wanted ⟨none, op, ty, pos, aft, none⟩ (yielded l.toArray a.tmps) = true := by simp [Region.wanted]
  simp only [hw', if_true]
  exact effUp_mono ((he.h w hw).h a ha _ _ _ _ _) fun v w2 ⟨x, h1, h3⟩ =>
    ⟨.inr (h3.sub (hM x) (hR x)), (h x h1).h w2 h3 (h3.sub (hM x) (hR x)) (hcl.set hr) _ ha⟩⟩
end
section
variable {n : Nat} {E : Env} {op : Op} {v : Value} {x y : Operand} {t t2 : TypeId} {C : World → Prop}
theorem Yl.isBin {bo : BinOp} (h : Yl G n (.binOp bo t x y t2) E C v) : Yl G n (.binOp bo t x y t2) E C v := h
theorem Yl.isIdx (h : Yl G n (.indexAddr t x y) E C v) : Yl G n (.indexAddr t x y) E C v := h
theorem Yl.isField {f : Nat} (h : Yl G n (.fieldAddr t x f) E C v) : Yl G n (.fieldAddr t x f) E C v := h
theorem Yl.isLoad (h : Yl G n (.load t x) E C v) : Yl G n (.load t x) E C v := h
end
section
variable {l : List Oper} {Q : Exit → Act → World → Prop} {Mc : List Res} {Rc : List (World → Prop)} {n fuel : Nat} {listed : Array Bool} {E : Env} {M M' : List Res} {R : List (World → Prop)} {d : Nat} {op : Op} {ty : TypeId} {pos : String} {aft : Array Edge} {v : Value} {β : Type} {φ : β → Prop} {vf : β → Value} {Mf : β → List Res} {Rf : β → List (World → Prop)}
theorem OpsT.qa (k : Nat) (hk : l[k]? = some ⟨some d, op, ty, pos, aft, none⟩)
    (h : OpsT l Q Mc Rc n fuel (listed.setIfInBounds k true) ((d, v) :: E) M R) (hc : (Region.noSelect l.toArray && (Region.ready .any l.toArray listed).contains k && Region.free .any l.toArray listed k && isQ op && Nat.blt d n) = true := by decide +kernel) (hy : Yl G n op E (Ok Mc Rc) v := by (first | exact Yl.move rfl | exact Yl.assign rfl | (apply Yl.isBin; (first | (apply Yl.isBin (bo := .lss); (first | exact Yl.lssT rfl rfl (by omega) | exact Yl.lssF rfl rfl (by omega))) | (apply Yl.isBin (bo := .eql); (first | exact Yl.eqlT rfl rfl (by omega) | exact Yl.eqlF rfl rfl (by omega))) | (apply Yl.isBin (bo := .neq); (first | exact Yl.neqT rfl rfl (by omega) | exact Yl.neqF rfl rfl (by omega))) | (apply Yl.isBin (bo := .leq); (first | exact Yl.leqT rfl rfl (by omega) | exact Yl.leqF rfl rfl (by omega))) | (apply Yl.isBin (bo := .gtr); (first | exact Yl.gtrT rfl rfl (by omega) | exact Yl.gtrF rfl rfl (by omega))) | (apply Yl.isBin (bo := .geq); (first | exact Yl.geqT rfl rfl (by omega) | exact Yl.geqF rfl rfl (by omega))) | exact Yl.add rfl rfl (by omega) | exact Yl.sub rfl rfl (by omega) | exact Yl.shr1 rfl rfl | exact Yl.eqNil rfl rfl rfl rfl | exact Yl.neqb Tryz.underlying4 rfl rfl | exact Yl.eqlb Tryz.underlying4 rfl rfl | exact Yl.eqS rfl rfl | exact Yl.neqS rfl rfl | exact Yl.addS rfl rfl (by omega) | exact Yl.addw rfl rfl | exact Yl.mulw rfl rfl)) | (apply Yl.isField; (first | exact Yl.fieldZ rfl rfl rfl | exact Yl.field0 rfl rfl rfl | exact Yl.field rfl rfl rfl)) | (apply Yl.isLoad; (first | exact Yl.loadH rfl rfl rfl (by intro w_; repeat (first | ((with_reducible apply Ld.blk); rfl) | (with_reducible exact Ld.cl) | ((with_reducible apply Ld.ent); with_reducible assumption) | (exact Ld.cs 0 rfl rfl) | (exact Ld.cs _ rfl rfl) | apply Ld.tailM | apply Ld.tailR)) | exact Yl.loadB rfl rfl rfl rfl (by repeat (first | with_reducible exact Up.head | apply Up.tail)) | exact Yl.loadP rfl rfl rfl rfl (by repeat (first | with_reducible exact Up.head | apply Up.tail)) (by repeat (first | exact SubT.zero | apply SubT.succ | apply SubC.here | apply SubC.drop)) | exact Yl.loadC rfl rfl rfl (by repeat (first | with_reducible exact List.mem_cons_self | apply List.mem_cons_of_mem)) rfl)) | (apply Yl.isIdx; (first | exact Yl.idx1 rfl rfl rfl rfl rfl rfl (by omega) | exact Yl.idx rfl rfl rfl rfl rfl rfl (by omega))) | exact Yl.len rfl rfl rfl | exact Yl.extract rfl rfl | exact Yl.pickT rfl rfl | exact Yl.pickF rfl rfl | exact Yl.nilCheck rfl | exact Yl.not rfl | exact Yl.convI rfl rfl rfl rfl rfl (by omega) | exact Yl.convU rfl rfl rfl rfl rfl (by omega) | exact Yl.makeFunc rfl rfl | exact Yl.build0 rfl rfl | exact Yl.buildC rfl rfl rfl (by repeat (first | exact Cells.nil | exact App.nil | (with_reducible apply Cells.agg) | apply Cells.one | apply App.cons)) (by rfl) | exact Yl.buildF rfl rfl rfl (by repeat (first | exact fill0 | (apply fill1; rfl; rfl; rfl; (repeat (first | exact SetL.zero | apply SetL.succ))))) | exact Yl.buildP rfl rfl rfl rfl | exact Yl.sliceSHi Tryz.underlying9 rfl rfl rfl (by omega) | exact Yl.sliceSLo Tryz.underlying9 rfl rfl rfl (by omega) | exact Yl.sliceSLH Tryz.underlying9 rfl rfl rfl rfl rfl (by omega) (by omega) | exact Yl.sliceHi rfl rfl rfl rfl rfl rfl (by omega) | exact Yl.lenS Tryz.underlying9 rfl)) : OpsT l Q Mc Rc n (fuel + 1) listed E M R := OpsT.q k hk hc hy h
theorem OpsT.qy (k : Nat) (hk : l[k]? = some ⟨some d, op, ty, pos, aft, none⟩) (hy : Yl G n op E (Ok Mc Rc) v)
    (h : OpsT l Q Mc Rc n fuel (listed.setIfInBounds k true) ((d, v) :: E) M R) (hc : (Region.noSelect l.toArray && (Region.ready .any l.toArray listed).contains k && Region.free .any l.toArray listed k && isQ op && Nat.blt d n) = true := by decide +kernel) : OpsT l Q Mc Rc n (fuel + 1) listed E M R := OpsT.q k hk hc hy h
structure StepsT (l : List Oper) (Q : Exit → Act → World → Prop) (Mc : List Res) (Rc : List (World → Prop)) (n fuel : Nat) (listed : Array Bool) (k : Nat) (E : Env) (M : List Res) (R : List (World → Prop)) : Prop where
  h : ∀ i, k ≤ i → i ∈ Region.ready .any l.toArray listed → StepT l Q Mc Rc n fuel listed i E M R
theorem ready_lt {i : Nat} (h : i ∈ Region.ready .any l.toArray listed) : i < l.length := by
  obtain ⟨-, o, ho, -⟩ := mem_ready.1 h
  exact (Array.getElem?_eq_some_iff.1 ho).1
theorem StepsT.fin {k : Nat} (hk : Nat.ble l.length k = true) : StepsT l Q Mc Rc n fuel listed k E M R := ⟨fun i hi hr => by have := ready_lt hr; have := Nat.le_of_ble_eq_true hk; omega⟩
theorem StepsT.skip {k : Nat} (hk : (Region.ready .any l.toArray listed).contains k = false) (h : StepsT l Q Mc Rc n fuel listed (k + 1) E M R) : StepsT l Q Mc Rc n fuel listed k E M R := ⟨fun i hi hr => by
  rcases Nat.eq_or_lt_of_le hi with rfl | hlt
  · have : (Region.ready .any l.toArray listed).contains k = true := by simpa using hr
    rw [hk] at this; cases this
  · exact h.h i hlt hr⟩
theorem StepsT.go {k : Nat} (h1 : StepT l Q Mc Rc n fuel listed k E M R) (h : StepsT l Q Mc Rc n fuel listed (k + 1) E M R) : StepsT l Q Mc Rc n fuel listed k E M R := ⟨fun i hi hr => by
  rcases Nat.eq_or_lt_of_le hi with rfl | hlt
  · exact h1
  · exact h.h i hlt hr⟩
theorem OpsT.any (hr : (Region.ready .any l.toArray listed).isEmpty = false) (h : StepsT l Q Mc Rc n fuel listed 0 E M R) : OpsT l Q Mc Rc n (fuel + 1) listed E M R := ⟨fun w hw hC hcl a ha =>
  ⟨fun h0 => (by rw [h0] at hr; cases hr), fun k hk => (h.h k (Nat.zero_le _) hk).h w hw hC hcl hk a ha⟩⟩
theorem OpsT.pure {φ : Prop} (hp : ∀ w, Ok M R w → φ) (h : φ → OpsT l Q Mc Rc n fuel listed E M R) : OpsT l Q Mc Rc n fuel listed E M R := ⟨fun w hw => (h (hp w hw)).h w hw⟩
theorem OpsT.joinH {α : Type} (E0 : α → Env) (M0 : α → List Res) (R0 : α → List (World → Prop))
    (rest : ∀ x, FinH Q n .normal (E0 x) (M0 x) (R0 x)) (h : (∀ x, FinH Q n .normal (E0 x) (M0 x) (R0 x)) → OpsT l Q Mc Rc n fuel listed E M R) : OpsT l Q Mc Rc n fuel listed E M R := h rest
end
def isAlB (l : List Oper) (i t : Nat) : Bool := match l[i]? with | some ⟨some _, .alloc t', _, _, _, none⟩ => Nat.beq t' t | _ => false
def isClB (l : List Oper) (i f : Nat) : Bool := match l[i]? with | some ⟨some _, .call ⟨.value (.func f'), _, _⟩, _, _, _, none⟩ => Nat.beq f' f | _ => false
def isStB (l : List Oper) (i : Nat) : Bool := match l[i]? with | some ⟨none, .store _ _ _, _, _, _, none⟩ => true | _ => false
def isBsB (l : List Oper) (i : Nat) : Bool := match l[i]? with | some ⟨some _, .buildSlice _ _ _, _, _, _, none⟩ => true | _ => false
def isApB (l : List Oper) (i : Nat) : Bool := match l[i]? with | some ⟨some _, .call ⟨.builtin .append, _, _⟩, _, _, _, none⟩ => true | _ => false
section
variable {l : List Oper} {Q : Exit → Act → World → Prop} {Mc : List Res} {Rc : List (World → Prop)} {n fuel i : Nat} {listed : Array Bool} {E : Env} {M : List Res} {R : List (World → Prop)}
theorem StepT.isAl (t : Nat) (h : StepT l Q Mc Rc n fuel listed i E M R) (_ : isAlB l i t = true := by decide +kernel) : StepT l Q Mc Rc n fuel listed i E M R := h
theorem StepT.isCl (f : Nat) (h : StepT l Q Mc Rc n fuel listed i E M R) (_ : isClB l i f = true := by decide +kernel) : StepT l Q Mc Rc n fuel listed i E M R := h
theorem StepT.isSt (h : StepT l Q Mc Rc n fuel listed i E M R) (_ : isStB l i = true := by decide +kernel) : StepT l Q Mc Rc n fuel listed i E M R := h
theorem StepT.isBs (h : StepT l Q Mc Rc n fuel listed i E M R) (_ : isBsB l i = true := by decide +kernel) : StepT l Q Mc Rc n fuel listed i E M R := h
theorem StepT.isAp (h : StepT l Q Mc Rc n fuel listed i E M R) (_ : isApB l i = true := by decide +kernel) : StepT l Q Mc Rc n fuel listed i E M R := h
end
theorem FinH.sub {Q : Exit → Act → World → Prop} {n : Nat} {e : Exit} {E E' : Env} {M M' : List Res} {R R' : List (World → Prop)} (h : FinH Q n e E' M' R') (hE : Sub E E') (hM : M'.Sublist M) (hR : ∀ p, p ∈ R' → p ∈ R) : FinH Q n e E M R := ⟨fun w hw => ⟨fun a ha => (h.h w (hw.sub hM hR)).h a (ha.sub hE)⟩⟩
theorem FinH.perm {Q : Exit → Act → World → Prop} {n : Nat} {e : Exit} {E : Env} {M M' : List Res} {R : List (World → Prop)} (hp : M.Perm M') (h : FinH Q n e E M' R) : FinH Q n e E M R := ⟨fun w hw => h.h w (hw.perm hp)⟩
inductive SubP : List Res → List Res → Prop
  | nil {M : List Res} : SubP [] M
  | cons {q : Res} {M M1 M' : List Res} (h : Rm q M M1) (hs : SubP M' M1) : SubP (q :: M') M
theorem Rm.perm {q : Res} {M M' : List Res} (h : Rm q M M') : M.Perm (q :: M') := by
  induction h with
  | head => exact List.Perm.refl _
  | tail _ ih => exact (ih.cons _).trans (List.Perm.swap _ _ _)
theorem SubP.perm {M M' : List Res} (h : SubP M' M) : ∃ M2, M.Perm (M' ++ M2) := by
  induction h with
  | nil => exact ⟨_, List.Perm.refl _⟩
  | cons hr _ ih =>
    obtain ⟨M2, hp⟩ := ih
    exact ⟨M2, hr.perm.trans (hp.cons _)⟩
theorem Ok.subP {M M' : List Res} {R R' : List (World → Prop)} {w : World} (h : Ok M R w) (hM : SubP M' M) (hR : ∀ p, p ∈ R' → p ∈ R) : Ok M' R' w := by
  obtain ⟨M2, hp⟩ := hM.perm
  exact (h.perm hp).sub (List.sublist_append_left _ _) hR
theorem wsp {M M' : List Res} (h : SubP M' M := by (repeat (first | exact SubP.nil | refine SubP.cons wrm ?_))) : SubP M' M := h
theorem FinH.subP {Q : Exit → Act → World → Prop} {n : Nat} {e : Exit} {E E' : Env} {M M' : List Res} {R R' : List (World → Prop)} (h : FinH Q n e E' M' R') (hE : Sub E E') (hM : SubP M' M) (hR : ∀ p, p ∈ R' → p ∈ R) : FinH Q n e E M R := ⟨fun w hw => ⟨fun a ha => (h.h w (hw.subP hM hR)).h a (ha.sub hE)⟩⟩
theorem wgtq {g g' : Prop} (h : g') (hw : Hold g' → g := by (intro hk_; (first | refine OpsT.qa 0 rfl ?_ | refine OpsT.qa 1 rfl ?_ | refine OpsT.qa 2 rfl ?_ | refine OpsT.qa 3 rfl ?_ | refine OpsT.qa 4 rfl ?_ | refine OpsT.qa 5 rfl ?_ | refine OpsT.qa 6 rfl ?_ | refine OpsT.qa 7 rfl ?_ | refine OpsT.qa 8 rfl ?_ | refine OpsT.qa 9 rfl ?_ | refine OpsT.qa 10 rfl ?_ | refine OpsT.qa 11 rfl ?_ | refine OpsT.qa 12 rfl ?_ | refine OpsT.qa 13 rfl ?_ | refine OpsT.qa 14 rfl ?_ | refine OpsT.qa 15 rfl ?_ | refine OpsT.qa 16 rfl ?_ | refine OpsT.qa 17 rfl ?_ | refine OpsT.qa 18 rfl ?_ | refine OpsT.qa 19 rfl ?_ | refine OpsT.qa 20 rfl ?_ | refine OpsT.qa 21 rfl ?_ | refine OpsT.qa 22 rfl ?_ | refine OpsT.qa 23 rfl ?_ | refine OpsT.qa 24 rfl ?_ | refine OpsT.qa 25 rfl ?_ | refine OpsT.qa 26 rfl ?_ | refine OpsT.qa 27 rfl ?_ | refine OpsT.qa 28 rfl ?_ | refine OpsT.qa 29 rfl ?_); exact hk_.out)) : g := hw ⟨h⟩
theorem wgt {g g' : Prop} (h : g') (hw : Hold g' → g := by (intro hk_; refine wgtq ?_; (repeat refine wgtq ?_); exact hk_.out)) : g := hw ⟨h⟩
abbrev TPS : Nat := 62
abbrev TPP : Nat := 189
abbrev TEr : Nat := 48
abbrev TIt : Nat := 3
theorem run_ret2s {fn : Func} {n : Nat} {E : Env} {w : World} {a T b T' : Nat} {ti ti' : TI} {v u : Value} {ad bd : Addr} (hr : fn.results = #[.cell a T, .cell b T']) (ha : lk E a = some (.pointer (some ad))) (hT : G.ty T = some ti) (hag : ti.agg = false) (hc : w.cell? ad = some v)
    (hb : lk E b = some (.pointer (some bd))) (hT' : G.ty T' = some ti') (hag' : ti'.agg = false) (hc' : w.cell? bd = some u) : ∀ ac, Ag n ac E → (results fn ac.tmps).run G.P w = .ok (.tuple #[v, u]) w := fun ac hac => by
  have h1 := (G.tyOk T ti hT).agg w
  rw [hag] at h1
  have h2 := (G.tyOk T' ti' hT').agg w
  rw [hag'] at h2
  have g1 : ac.tmps[a]?.getD undef = .pointer (some ad) := by have := (hac.eq a _ ha).2; simpa using this
  have g2 : ac.tmps[b]?.getD undef = .pointer (some bd) := by have := (hac.eq b _ hb).2; simpa using this
  simp [results, hr, g1, g2, asAddr, loadVar, h1, hc, h2, hc']
theorem cell_put {W : World} {D : Nat} {o : Obj} {p : Addr} {v : Value} (h : W.cell? p = some v) (hne : p.block ≠ D) : (W.putObj D o).cell? p = some v := by
  rw [World.cell?_of_block (w := W) (World.putObj_heap_other hne)]; exact h
theorem bwd_pre {l : List Int} {pre : List (Int × Int)} {x : Int × Int} (h : pre ++ [x] <+: bwd l) : pre.length < l.length ∧ l.reverse.drop pre.length = x.2 :: l.reverse.drop (pre.length + 1) := by
  obtain ⟨r, hr⟩ := h
  have hl : pre.length < l.length := by rw [← bwd_len, ← hr]; simp
  refine ⟨hl, ?_⟩
  have h1 : (bwd l)[pre.length]? = some x := by rw [← hr]; simp
  have h2 : (bwd l)[pre.length]? = some (((l.length - 1 - pre.length : Nat) : Int), ix l (l.length - 1 - pre.length)) := by
    rw [List.getElem?_eq_getElem (by rw [bwd_len]; exact hl)]
    congr 1
    simp [bwd, List.getElem_reverse]
  rw [h1] at h2
  cases h2
  rw [List.drop_eq_getElem_cons (by simpa using hl)]
  congr 1
  rw [List.getElem_reverse, ix_eq (by omega)]
set_option maxHeartbeats 8000000 in
theorem stack_left (D : Nat → Prop) (sp : Nat) (s : Stk) (x : Value × Value) (v : Value) (l : List Int) (w : World) (hw : Ok (stkM sp s x) [fun w => IntsR D w v l] w) (hp : 0 < s.ps.length) (h0 : 0 ≤ s.at_) (hle : s.at_ ≤ s.ts.length) :
    Calls G.P 115 #[.pointer (some ⟨sp, 0, none⟩), v] w fun e w' => e = .returned (.tuple #[.int .i64 ((leftK s l.reverse s.ts.length).1 : Nat), .int .i64 (leftK s l.reverse s.ts.length).2]) ∧ Ext w w' := by
  obtain ⟨v1, v2⟩ := x
  obtain ⟨⟨p1, c1, e1, hcap, hg1⟩, ⟨p2, c2, e2, hg2⟩, hn1, hn2⟩ := stkC sp s (v1, v2) hw (List.Sublist.refl _)
  dsimp only at e1 e2
  subst e1; subst e2
  obtain ⟨g2, rfl⟩ := hg2 hp
  have hI : IntsR D w v l := hw.get (p := fun w => IntsR D w v l) (by simp)
  obtain ⟨q, d, rfl, hl⟩ := hI.slice
  have k0 : w.cell? ⟨sp, 0, none⟩ = some (.slice p1 s.ts.length c1) := hw.c1 (T := TStk) (cs := [.slice p1 s.ts.length c1, .slice (some ⟨g2, 0, none⟩) s.ps.length c2, .bool (overB s)]) Up.head rfl
  have k1 : w.cell? ⟨sp, 1, none⟩ = some (.slice (some ⟨g2, 0, none⟩) s.ps.length c2) := hw.c1 (T := TStk) (cs := [.slice p1 s.ts.length c1, .slice (some ⟨g2, 0, none⟩) s.ps.length c2, .bool (overB s)]) Up.head rfl
  have o1 : w.ownsRow 0 TVl 1 (.slice p1 s.ts.length c1) s.ts.length (valsC s.ts) := (hw.m (.own 0 TVl 1 (.slice p1 s.ts.length c1) s.ts.length (valsC s.ts)) (by simp [stkM])).1
  have o2 : w.ownsRow 0 TPrt 2 (.slice (some ⟨g2, 0, none⟩) s.ps.length c2) s.ps.length (partsC s.ps) := (hw.m (.own 0 TPrt 2 (.slice (some ⟨g2, 0, none⟩) s.ps.length c2) s.ps.length (partsC s.ps)) (by simp [stkM])).1
  have a1 : w.cell? ⟨g2, (s.ps.length - 1) * 2, none⟩ = some (.int .i64 s.at_) := own_get o2 (parts_at (l := s.ps) (i := s.ps.length - 1) (by omega)).1
  have a2 : w.cell? ⟨g2, (s.ps.length - 1) * 2 + 1, none⟩ = some (.bool s.loose) := own_get o2 (parts_at (l := s.ps) (i := s.ps.length - 1) (by omega)).2
  refine enterN (l := [.pointer (some ⟨sp, 0, none⟩), .slice q l.length d]) Tryz.func115 rfl Tryz.ntmps115 rfl (Ok.start w) ?_
  refine wgn ?_
  refine OpsN.he (HE.box [.pointer (some ⟨sp, 0, none⟩)] rfl rfl) rfl rfl ?_
  intro b2 _
  refine wgn ?_
  refine OpsN.he (HE.alloc [.int .i64 0] rfl rfl) rfl rfl ?_
  intro b4 _
  refine wgn ?_
  refine OpsN.he (HE.alloc [.int .i64 0] rfl rfl) rfl rfl ?_
  intro b5 _
  refine wgn ?_
  refine CdN.ofH ?_
  refine CdH.regionR [.blk b5 [.int .i64 0] TEr, .blk b4 [.int .i64 0] TIt, .blk b2 [.pointer (some ⟨sp, 0, none⟩)] TPS] [Ext w] wsl wsr ?_
  refine OpsT.joinH (α := Nat × Nat) (fun y => [(1, .slice q l.length d), (2, .pointer (some ⟨b2, 0, none⟩)), (4, .pointer (some ⟨b4, 0, none⟩)), (5, .pointer (some ⟨b5, 0, none⟩)), (6, .pointer (some ⟨y.1, 0, none⟩)), (7, .pointer (some ⟨y.2, 0, none⟩))]) (fun y => [.blk y.1 [.int .i64 s.ts.length] TIt, .blk y.2 [.pointer (some ⟨g2, (s.ps.length - 1) * 2, none⟩)] TPP, .blk b5 [.int .i64 0] TEr, .blk b4 [.int .i64 0] TIt, .blk b2 [.pointer (some ⟨sp, 0, none⟩)] TPS]) (fun _ => [Ext w]) ?_ fun hrest => ?_
  · rintro ⟨b6, b7⟩
    dsimp only
    refine FinH.thenI ?_
    refine wgn ?_
    refine OpsN.he (HE.call (β := Nat) (tf := fun b => .func (.func 181) #[] #[.pointer (some ⟨b, 0, none⟩)]) (φ := fun _ => True) (Mf := fun b => .blk b [.slice q l.length d] 34 :: [.blk b6 [.int .i64 s.ts.length] TIt, .blk b7 [.pointer (some ⟨g2, (s.ps.length - 1) * 2, none⟩)] TPP, .blk b5 [.int .i64 0] TEr, .blk b4 [.int .i64 0] TIt, .blk b2 [.pointer (some ⟨sp, 0, none⟩)] TPS]) (Rf := fun _ => [Ext w]) rfl rfl (fun w' hw' => (slices_Backward q l.length d w').mono fun e w'' ⟨e1, hn⟩ => ⟨w'.heap.size, e1, trivial, hw'.push hn.ext hn.blk (blk_lt hn)⟩)) rfl rfl ?_
    intro b9 _
    refine wgn ?_
    refine ⟨fun w1 hw1 => ?_⟩
    have hx1 : Ext w w1 := hw1.at
    have f9 : b9 < w1.heap.size := (hw1.m (.blk b9 _ _) wmm).2 b9 rfl
    have f6 : b6 < w1.heap.size := (hw1.m (.blk b6 _ _) wmm).2 b6 rfl
    have f7 : b7 < w1.heap.size := (hw1.m (.blk b7 _ _) wmm).2 b7 rfl
    have f5 : b5 < w1.heap.size := (hw1.m (.blk b5 _ _) wmm).2 b5 rfl
    have f4 : b4 < w1.heap.size := (hw1.m (.blk b4 _ _) wmm).2 b4 rfl
    have f2 : b2 < w1.heap.size := (hw1.m (.blk b2 _ _) wmm).2 b2 rfl
    have hRB : RB b9 q d l w1 := ⟨hw1.c1 (cs := [.slice q l.length d]) wup rfl, fun i hi => by
      obtain ⟨b, o, e, -, hc⟩ := hI.at hi
      exact ⟨b, o, e, hx1.cell (hc i hi)⟩⟩
    have lowG : ∀ (x6 x5 x4 : Int) (r : Nat), Mb [.blk b6 [.int .i64 x6] TIt, .blk b7 [.pointer (some ⟨g2, (s.ps.length - 1) * 2, none⟩)] TPP, .blk b5 [.int .i64 x5] TEr, .blk b4 [.int .i64 x4] TIt, .blk b2 [.pointer (some ⟨sp, 0, none⟩)] TPS] r → r < w1.heap.size := fun x6 x5 x4 r ⟨q', hq, hk⟩ => by
      simp only [List.mem_cons, List.not_mem_nil, or_false] at hq
      rcases hq with rfl | rfl | rfl | rfl | rfl <;> (have hk' : r = _ := hk; omega)
    have lowM : ∀ (nn : Nat) (r : Nat), Mb [.blk b6 [.int .i64 ((nn : Nat) : Int)] TIt, .blk b7 [.pointer (some ⟨g2, (s.ps.length - 1) * 2, none⟩)] TPP, .blk b5 [.int .i64 0] TEr, .blk b4 [.int .i64 0] TIt, .blk b2 [.pointer (some ⟨sp, 0, none⟩)] TPS] r → r < w1.heap.size := fun nn r ⟨q', hq, hk⟩ => by
      simp only [List.mem_cons, List.not_mem_nil, or_false] at hq
      rcases hq with rfl | rfl | rfl | rfl | rfl <;> (have hk' : r = _ := hk; omega)
    have lowX : ∀ (ee : Int) (r : Nat), Mb [.blk b7 [.pointer (some ⟨g2, (s.ps.length - 1) * 2, none⟩)] TPP, .blk b5 [.int .i64 ee] TEr, .blk b4 [.int .i64 0] TIt, .blk b2 [.pointer (some ⟨sp, 0, none⟩)] TPS] r → r < w1.heap.size := fun ee r ⟨q', hq, hk⟩ => by
      simp only [List.mem_cons, List.not_mem_nil, or_false] at hq
      rcases hq with rfl | rfl | rfl | rfl <;> (have hk' : r = _ := hk; omega)
    have hqb : ∀ a, 0 < l.length → q = some a → a.block < w.heap.size := fun a h e => by
      obtain ⟨b, o, e', -, hc⟩ := hI.at (i := 0) h
      rw [e] at e'; cases e'
      exact cell_lt (hc 0 h)
    have hne : b9 ≠ b6 ∧ b9 ≠ b7 ∧ b9 ≠ b5 ∧ b9 ≠ b4 ∧ b9 ≠ b2 := by
      have hd := (List.pairwise_cons.1 hw1.d).1
      exact ⟨hd (.blk b6 _ _) wmm b9 rfl, hd (.blk b7 _ _) wmm b9 rfl, hd (.blk b5 _ _) wmm b9 rfl, hd (.blk b4 _ _) wmm b9 rfl, hd (.blk b2 _ _) wmm b9 rfl⟩
    have keepM : ∀ (nn : Nat) (W : World), Ok [.blk b6 [.int .i64 ((nn : Nat) : Int)] TIt, .blk b7 [.pointer (some ⟨g2, (s.ps.length - 1) * 2, none⟩)] TPP, .blk b5 [.int .i64 0] TEr, .blk b4 [.int .i64 0] TIt, .blk b2 [.pointer (some ⟨sp, 0, none⟩)] TPS] [Ext w] W → ∀ k, KB b9 q l.length k → ¬ Mb [.blk b6 [.int .i64 ((nn : Nat) : Int)] TIt, .blk b7 [.pointer (some ⟨g2, (s.ps.length - 1) * 2, none⟩)] TPP, .blk b5 [.int .i64 0] TEr, .blk b4 [.int .i64 0] TIt, .blk b2 [.pointer (some ⟨sp, 0, none⟩)] TPS] k := fun nn W hok k hk hm => by
      rcases hk with rfl | ⟨h, a, e, rfl⟩
      · obtain ⟨q', hq, hk⟩ := hm
        simp only [List.mem_cons, List.not_mem_nil, or_false] at hq
        obtain ⟨n1, n2, n3, n4, n5⟩ := hne
        rcases hq with rfl | rfl | rfl | rfl | rfl
        · exact n1 hk
        · exact n2 hk
        · exact n3 hk
        · exact n4 hk
        · exact n5 hk
      · exact hok.origin (S := fun _ => False) (by simp) _ hm (hqb a h e)
    refine CdI.rangeO (encs := encB) (Kp := KD (KB b9 q l.length)) (full := bwd l) rfl rfl (bwd_seq b9 q d l w1 hRB (by omega)) (fun h k => h.trans k) (fun W l' r r' hW hl' _ => KD.put ?_) (fun _ => rfl) rfl
      (fun pre W => ∃ nn : Nat, Ok [.blk b6 [.int .i64 ((nn : Nat) : Int)] TIt, .blk b7 [.pointer (some ⟨g2, (s.ps.length - 1) * 2, none⟩)] TPP, .blk b5 [.int .i64 0] TEr, .blk b4 [.int .i64 0] TIt, .blk b2 [.pointer (some ⟨sp, 0, none⟩)] TPS] [Ext w] W ∧ s.at_ ≤ nn ∧ nn ≤ s.ts.length ∧ leftK s (l.reverse.drop pre.length) nn = leftK s l.reverse s.ts.length)
      (fun c pre W => c = .ret ∧ ∃ ee : Int, Ok [.blk b7 [.pointer (some ⟨g2, (s.ps.length - 1) * 2, none⟩)] TPP, .blk b5 [.int .i64 ee] TEr, .blk b4 [.int .i64 0] TIt, .blk b2 [.pointer (some ⟨sp, 0, none⟩)] TPS] [Ext w] W ∧ leftK s l.reverse s.ts.length = (0, ee)) ?_ ?_ ⟨s.ts.length, hw1.sub wsl (fun _ h => h), hle, Nat.le_refl _, rfl⟩
      (fun x => [(9, .int .i64 x.2), (1, .slice q l.length d), (2, .pointer (some ⟨b2, 0, none⟩)), (4, .pointer (some ⟨b4, 0, none⟩)), (5, .pointer (some ⟨b5, 0, none⟩)), (6, .pointer (some ⟨b6, 0, none⟩)), (7, .pointer (some ⟨b7, 0, none⟩))]) ?_ ?_ ?_ ?_
    · intro hk
      have hlt : l' < w1.heap.size := by
        rcases hk with rfl | ⟨h, a, e, rfl⟩
        · exact f9
        · exact Nat.lt_of_lt_of_le (hqb a h e) hx1.size
      omega
    · rintro pre A A' row ⟨nn, h, h1, h2, h3⟩ hg hr
      exact ⟨nn, h.grow hx1.size hg hr fun r o h1 h2 h3 h4 => absurd (lowM nn r h4) (by omega), h1, h2, h3⟩
    · rintro c pre A A' row ⟨e, ee, h, h3⟩ hg hr
      exact ⟨e, ee, h.grow hx1.size hg hr fun r o h1 h2 h3 h4 => absurd (lowX ee r h4) (by omega), h3⟩
    · intro l' x W2 K hK
      refine wgi ?_
      exact FinI.thenK (fun a ha => hK a (ha.sub wsub))
    · rintro l' pre x W2 ⟨nn, hok, h1, h2, h3⟩ hN
      obtain ⟨hpl, hdr⟩ := bwd_pre hN
      rw [hdr, leftK] at h3
      obtain ⟨S0, hS0⟩ : ∃ S0, S0 = Mb [.blk b6 [.int .i64 ((nn : Nat) : Int)] TIt, .blk b7 [.pointer (some ⟨g2, (s.ps.length - 1) * 2, none⟩)] TPP, .blk b5 [.int .i64 0] TEr, .blk b4 [.int .i64 0] TIt, .blk b2 [.pointer (some ⟨sp, 0, none⟩)] TPS] := ⟨_, rfl⟩
      have hok' := hok.startM
      rw [← hS0] at hok'
      have fin : ∀ {W' : World}, Chg S0 W2 W' → KeepL #[20, 21] w1.heap.size W2 W' ∧ KD (KB b9 q l.length) W2 W' := fun {W'} hc => by
        have hk0 := keepM nn W2 hok
        rw [← hS0] at hk0
        refine ⟨⟨hc.size, fun k o hk ho _ => ?_⟩, hc.size, fun k hlt hk => hc.block k hlt (hk0 k hk)⟩
        rw [hc.block k (Array.getElem?_eq_some_iff.1 ho).1 (fun hs => by rw [hS0] at hs; have := lowM nn k hs; omega)]; exact ho
      refine CdN.at hok' ?_
      by_cases he : (nn : Int) = s.at_
      · rw [if_pos he] at h3
        obtain ⟨lo, hlo⟩ : ∃ b, s.loose = b := ⟨_, rfl⟩
        rw [hlo] at a2 h3
        cases lo with
        | true =>
          rw [if_pos rfl] at h3
          refine wgm ?_
          refine ⟨fun W' hw' => ⟨fun a ha => ?_⟩⟩
          obtain ⟨k1, k2⟩ := fin hw'.at
          exact ⟨k1, k2, nn, hw'.sub wsl wsr, h1, h2, by rw [← h3]; simp⟩
        | false =>
          rw [if_neg (by simp)] at h3
          refine wgm ?_
          refine OpsN.he0 (HE0.storeB [.int .i64 0] rfl rfl rfl rfl rfl rfl wup rfl) rfl ?_
          rintro ⟨⟩ _
          refine wgm ?_
          refine OpsN.he0 (HE0.storeB [.int .i64 13] rfl rfl rfl rfl rfl rfl wup rfl) rfl ?_
          rintro ⟨⟩ _
          refine wgm ?_
          refine ⟨fun W' hw' => ⟨fun a ha => ?_⟩⟩
          obtain ⟨k1, k2⟩ := fin hw'.at
          exact ⟨k1, k2, rfl, 13, hw'.sub wsl wsr, h3.symm⟩
      · rw [if_neg he] at h3
        obtain ⟨g1, rfl⟩ := hg1 (by omega)
        have b1 := own_get o1 (vals_at (l := s.ts) (i := nn - 1) (by omega))
        have e1 : (nn : Int) - 1 = ((nn - 1 : Nat) : Int) := by omega
        by_cases hM : ix s.ts (nn - 1) ≠ x.2 ∧ ix s.ts (nn - 1) ≠ 0 ∧ x.2 ≠ 0
        · rw [if_pos hM] at h3
          obtain ⟨m1, m2, m3⟩ := hM
          refine wgm ?_
          refine OpsN.he0 (HE0.storeB [.int .i64 ((nn : Int) - 1)] rfl rfl rfl rfl rfl rfl wup rfl) rfl ?_
          rintro ⟨⟩ _
          rw [e1]
          refine wgm ?_
          refine OpsN.he0 (HE0.storeB [.int .i64 0] rfl rfl rfl rfl rfl rfl wup rfl) rfl ?_
          rintro ⟨⟩ _
          refine wgm ?_
          refine OpsN.he0 (HE0.storeB [.int .i64 12] rfl rfl rfl rfl rfl rfl wup rfl) rfl ?_
          rintro ⟨⟩ _
          refine wgm ?_
          refine ⟨fun W' hw' => ⟨fun a ha => ?_⟩⟩
          obtain ⟨k1, k2⟩ := fin hw'.at
          exact ⟨k1, k2, rfl, 12, hw'.sub wsl wsr, h3.symm⟩
        · rw [if_neg hM] at h3
          rcases (show (ix s.ts (nn - 1) = x.2) ∨ (ix s.ts (nn - 1) ≠ x.2 ∧ ix s.ts (nn - 1) = 0) ∨ (ix s.ts (nn - 1) ≠ x.2 ∧ ix s.ts (nn - 1) ≠ 0 ∧ x.2 = 0) from by omega) with m1 | ⟨m1, m2⟩ | ⟨m1, m2, m3⟩
          all_goals
            refine wgm ?_
            refine OpsN.he0 (HE0.storeB [.int .i64 ((nn : Int) - 1)] rfl rfl rfl rfl rfl rfl wup rfl) rfl ?_
            rintro ⟨⟩ _
            rw [e1]
            refine wgm ?_
            refine ⟨fun W' hw' => ⟨fun a ha => ?_⟩⟩
            obtain ⟨k1, k2⟩ := fin hw'.at
            exact ⟨k1, k2, nn - 1, hw'.sub wsl wsr, by omega, by omega, by rw [← h3]; simp⟩
    · rintro Dn W2 hD ⟨nn, hok, h1, h2, h3⟩ hK
      rw [bwd_len, show l.length = l.reverse.length from by simp, List.drop_length, leftK] at h3
      rw [← h3]
      have hok2 : Ok [.blk b6 [.int .i64 ((nn : Nat) : Int)] TIt, .blk b7 [.pointer (some ⟨g2, (s.ps.length - 1) * 2, none⟩)] TPP, .blk b5 [.int .i64 0] TEr, .blk b4 [.int .i64 0] TIt, .blk b2 [.pointer (some ⟨sp, 0, none⟩)] TPS] [fun W => W.heap[Dn]? = some (.deferred (some [])), Ext w] W2 := hok.add fun w' hc => by
        rw [hc.block Dn (Array.getElem?_eq_some_iff.1 hK).1 (fun hs => by have := lowM nn Dn hs; omega)]; exact hK
      refine FinN.at hok2 ?_
      refine wgn ?_
      refine OpsN.he0 (HE0.storeB [.int .i64 nn] rfl rfl rfl rfl rfl rfl wup rfl) rfl ?_
      rintro ⟨⟩ _
      refine wgn ?_
      refine OpsN.he0 (HE0.storeB [.int .i64 0] rfl rfl rfl rfl rfl rfl wup rfl) rfl ?_
      rintro ⟨⟩ _
      refine wgn ?_
      refine ⟨fun W' hw' => ?_⟩
      have hK' : W'.heap[Dn]? = some (.deferred (some [])) := hw'.at
      have hx' : Ext w (W'.putObj Dn (.deferred none)) := (hw'.sub (List.Sublist.refl _) (R' := [Ext w]) wsr |>.grow (row := some Dn) (B := w1.heap.size) hx1.size (grownBy_putObj' W' Dn (.deferred none)) (fun r e => by cases e; exact ⟨hD, _, hK', rfl⟩) (fun r o h1 h2 h3 h4 => absurd (lowG _ _ _ r h4) (by omega))).at
      have q4 : W'.cell? ⟨b4, 0, none⟩ = some (.int .i64 nn) := hw'.c1 wup rfl
      have q5 : W'.cell? ⟨b5, 0, none⟩ = some (.int .i64 0) := hw'.c1 wup rfl
      refine FinI.retM (.inl rfl) hK' (run_ret2s rfl rfl rfl rfl (cell_put q4 (show b4 ≠ Dn by omega)) rfl rfl rfl (cell_put q5 (show b5 ≠ Dn by omega))) ⟨rfl, hx'⟩
    · rintro Dn c pre W2 hD hpre ⟨rfl, ee, hok, h3⟩ hK
      rw [h3]
      have hok2 : Ok [.blk b7 [.pointer (some ⟨g2, (s.ps.length - 1) * 2, none⟩)] TPP, .blk b5 [.int .i64 ee] TEr, .blk b4 [.int .i64 0] TIt, .blk b2 [.pointer (some ⟨sp, 0, none⟩)] TPS] [fun W => W.heap[Dn]? = some (.deferred (some [])), Ext w] W2 := hok.add fun w' hc => by
        rw [hc.block Dn (Array.getElem?_eq_some_iff.1 hK).1 (fun hs => by have := lowX ee Dn hs; omega)]; exact hK
      refine CdN.at hok2 ?_
      refine wgn ?_
      refine ⟨fun W' hw' => ?_⟩
      have hK' : W'.heap[Dn]? = some (.deferred (some [])) := hw'.at
      have hx' : Ext w (W'.putObj Dn (.deferred none)) := (hw'.sub (List.Sublist.refl _) (R' := [Ext w]) wsr |>.grow (row := some Dn) (B := w1.heap.size) hx1.size (grownBy_putObj' W' Dn (.deferred none)) (fun r e => by cases e; exact ⟨hD, _, hK', rfl⟩) (fun r o h1 h2 h3 h4 => absurd (lowX ee r h4) (by omega))).at
      have q4 : W'.cell? ⟨b4, 0, none⟩ = some (.int .i64 0) := hw'.c1 wup rfl
      have q5 : W'.cell? ⟨b5, 0, none⟩ = some (.int .i64 ee) := hw'.c1 wup rfl
      refine FinI.retM (.inl rfl) hK' (run_ret2s rfl rfl rfl rfl (cell_put q4 (show b4 ≠ Dn by omega)) rfl rfl rfl (cell_put q5 (show b5 ≠ Dn by omega))) ⟨rfl, hx'⟩
  · repeat' (first | refine wgt ?_ | (refine StepT.isAl TIt ?_; refine StepT.he rfl rfl (HE.alloc (t := TIt) [.int .i64 0] rfl rfl) (fun _ => wsl) (fun _ => wsr) ?_; intro b_ _) | (refine StepT.isAl TPP ?_; refine StepT.he rfl rfl (HE.alloc (t := TPP) [.pointer none] rfl rfl) (fun _ => wsl) (fun _ => wsr) ?_; intro b_ _) | (refine StepT.isCl 117 ?_; refine StepT.he rfl rfl (HE.callV rfl rfl (fun w' hw' => stack_top sp s.ps.length c2 g2 w' ((show Ext w w' from hw'.at).cell k1) hp hn2)) (fun _ => wsl) (fun _ => wsr) ?_; rintro ⟨⟩ _) | (refine StepT.isSt ?_; refine StepT.he0 rfl (HE0.storeB _ rfl rfl rfl rfl rfl rfl wup rfl) (fun _ => wsl) (fun _ => wsr) ?_; rintro ⟨⟩ _) | refine OpsT.nil (by decide +kernel) ?_ | refine OpsT.any (by decide +kernel) ?_ | exact StepsT.fin rfl | refine StepsT.skip (by decide +kernel) ?_ | refine StepsT.go ?_ ?_)
    all_goals exact FinH.subP (hrest (_, _)) wsub wsp wsr
end Go.Proofs.YtgbgnipidakdhaaGreatDoor
