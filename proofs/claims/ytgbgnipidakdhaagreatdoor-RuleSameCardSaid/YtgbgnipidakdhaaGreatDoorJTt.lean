/- A region that draws its order, gone through as a tree: what only reads is taken first; where several effects can come, each of them. -/
import Derived.Test.YtgbgnipidakdhaaGreatDoorJSr
import Derived.Test.YtgbgnipidakdhaaGreatDoorJAw
namespace Go.Proofs.YtgbgnipidakdhaaGreatDoor
open Go.RowKit
set_option maxRecDepth 100000

structure OpsT (l : List Oper) (Q : Exit → Act → World → Prop) (Mc : List Res) (Rc : List (World → Prop)) (n fuel : Nat) (listed : Array Bool) (E : Env) (M : List Res) (R : List (World → Prop)) : Prop where
  h : ∀ w, Ok M R w → Ok Mc Rc w → Clo .any l.toArray listed → ∀ a, Ag n a E → wpAnyM G.P .any l.toArray (Ok Mc Rc) l.length (Q .normal) fuel listed a w
structure StepT (l : List Oper) (Q : Exit → Act → World → Prop) (Mc : List Res) (Rc : List (World → Prop)) (n fuel : Nat) (listed : Array Bool) (i : Nat) (E : Env) (M : List Res) (R : List (World → Prop)) : Prop where
  h : ∀ w, Ok M R w → Ok Mc Rc w → Clo .any l.toArray listed → i ∈ Region.ready .any l.toArray listed → ∀ a, Ag n a E → mOp G.P l.toArray (Ok Mc Rc) l.length i (wpAnyM G.P .any l.toArray (Ok Mc Rc) l.length (Q .normal) fuel (listed.setIfInBounds i true)) a w
section
variable {l : List Oper} {Q : Exit → Act → World → Prop} {Mc : List Res} {Rc : List (World → Prop)} {n fuel : Nat} {listed : Array Bool} {E : Env} {M : List Res} {R : List (World → Prop)} {d : Nat} {op : Op} {ty : TypeId} {pos : String} {aft : Array Edge} {v : Value} {β : Type} {φ : β → Prop} {vf : β → Value} {Mf : β → List Res} {Rf : β → List (World → Prop)}
theorem CdH.regionR {id : Nat} (Mc : List Res) (Rc : List (World → Prop)) (hM : Mc.Sublist M) (hR : ∀ p, p ∈ Rc → p ∈ R) (h : OpsT l Q Mc Rc n l.length (Array.replicate l.length false) E M R) : CdH Q n (.region id l.toArray true) E M R :=
  ⟨fun w hw => ⟨fun a ha => wp_region_any G.mixed (wpAny_of_M (C := Ok Mc Rc) (z := l.length) (K := Q .normal) (fun _ _ h => h) _ _ _ _ (by
    have := h.h w.drew hw.drew (hw.drew.sub hM hR) (Clo.start _) a ha
    simpa using this))⟩⟩
/-- a read: the k-th operation -/
theorem OpsT.q (k : Nat) (hk : l[k]? = some ⟨some d, op, ty, pos, aft, none⟩) (hc : (Region.noSelect l.toArray && (Region.ready .any l.toArray listed).contains k && Region.free .any l.toArray listed k && isQ op && Nat.blt d n) = true) (hy : Yl G n op E (Ok Mc Rc) v)
    (h : OpsT l Q Mc Rc n fuel (listed.setIfInBounds k true) ((d, v) :: E) M R) : OpsT l Q Mc Rc n (fuel + 1) listed E M R := ⟨fun w hw hC hcl a ha => by
  simp only [Bool.and_eq_true] at hc
  obtain ⟨⟨⟨⟨h1, h2⟩, h3⟩, h4⟩, h5⟩ := hc
  have hkl : k < l.length := (List.getElem?_eq_some_iff.1 hk).1
  have ho : l.toArray[k]? = some ⟨some d, op, ty, pos, aft, none⟩ := by simpa using hk
  have hkr : k ∈ Region.ready .any l.toArray listed := by simpa using h2
  exact wpAnyM_first ho (Region.noSelect_spec h1) (fun _ _ _ _ => no_z) (by omega) fuel listed a w hC hcl (Region.free_spec ho h3) hkr (.inl ⟨by simp [Region.wanted], fun w hw => hy.h w hw a ha _ _ _ _ _⟩) (h.h w hw hC (hcl.set hkr) _ (ha.put (by simpa using h5) v))⟩
theorem OpsT.nil (hr : Region.ready .any l.toArray listed = []) (h : FinH Q n .normal E M R) : OpsT l Q Mc Rc n fuel listed E M R := ⟨fun w hw hC hcl a ha => by
  cases fuel with
  | zero => exact ⟨hr, (h.h w hw).h a ha⟩
  | succ f => exact ⟨fun _ => (h.h w hw).h a ha, fun i hi => by rw [hr] at hi; cases hi⟩⟩
theorem StepT.he {i : Nat} (hi : l[i]? = some ⟨some d, op, ty, pos, aft, none⟩) (hd : Nat.blt d n = true) (he : HE n op E M R φ vf Mf Rf) (hM : ∀ x, Mc.Sublist (Mf x)) (hR : ∀ x p, p ∈ Rc → p ∈ Rf x) (h : ∀ x, φ x → OpsT l Q Mc Rc n fuel (listed.setIfInBounds i true) ((d, vf x) :: E) (Mf x) (Rf x)) : StepT l Q Mc Rc n fuel listed i E M R := ⟨fun w hw hC hcl hr a ha => by
  have ho : l.toArray[i]? = some ⟨some d, op, ty, pos, aft, none⟩ := by simpa using hi
  unfold mOp
  simp only [ho]
  have hw' : Region.wanted ⟨some d, op, ty, pos, aft, none⟩ (yielded l.toArray a.tmps) = true := by simp [Region.wanted]
  simp only [hw', if_true]
  exact effUp_mono ((he.h w hw).h a ha _ _ _ _ _) fun v w2 ⟨x, h1, h2, h3⟩ => by
    subst h2
    exact ⟨.inr (h3.sub (hM x) (hR x)), (h x h1).h w2 h3 (h3.sub (hM x) (hR x)) (hcl.set hr) _ (ha.put (by simpa using hd) _)⟩⟩
theorem StepT.he0 {i : Nat} (hi : l[i]? = some ⟨none, op, ty, pos, aft, none⟩) (he : HE0 n op E M R φ Mf Rf) (hM : ∀ x, Mc.Sublist (Mf x)) (hR : ∀ x p, p ∈ Rc → p ∈ Rf x) (h : ∀ x, φ x → OpsT l Q Mc Rc n fuel (listed.setIfInBounds i true) E (Mf x) (Rf x)) : StepT l Q Mc Rc n fuel listed i E M R := ⟨fun w hw hC hcl hr a ha => by
  have ho : l.toArray[i]? = some ⟨none, op, ty, pos, aft, none⟩ := by simpa using hi
  unfold mOp
  simp only [ho]
  have hw' : Region.wanted ⟨none, op, ty, pos, aft, none⟩ (yielded l.toArray a.tmps) = true := by simp [Region.wanted]
  simp only [hw', if_true]
  exact effUp_mono ((he.h w hw).h a ha _ _ _ _ _) fun v w2 ⟨x, h1, h3⟩ =>
    ⟨.inr (h3.sub (hM x) (hR x)), (h x h1).h w2 h3 (h3.sub (hM x) (hR x)) (hcl.set hr) _ ha⟩⟩
end
end Go.Proofs.YtgbgnipidakdhaaGreatDoor
/- The walker for regions gone through as a tree. -/
namespace Go.Proofs.YtgbgnipidakdhaaGreatDoor
open Go.RowKit
set_option maxRecDepth 100000
section
variable {n : Nat} {E : Env} {op : Op} {v : Value} {x y : Operand} {t t2 : TypeId} {C : World → Prop}
theorem Yl.isBin {bo : BinOp} (h : Yl G n (.binOp bo t x y t2) E C v) : Yl G n (.binOp bo t x y t2) E C v := h
theorem Yl.isIdx (h : Yl G n (.indexAddr t x y) E C v) : Yl G n (.indexAddr t x y) E C v := h
theorem Yl.isField {f : Nat} (h : Yl G n (.fieldAddr t x f) E C v) : Yl G n (.fieldAddr t x f) E C v := h
theorem Yl.isLoad (h : Yl G n (.load t x) E C v) : Yl G n (.load t x) E C v := h
end
section
variable {l : List Oper} {Q : Exit → Act → World → Prop} {Mc : List Res} {Rc : List (World → Prop)} {n fuel : Nat} {listed : Array Bool} {E : Env} {M M' : List Res} {R : List (World → Prop)} {d : Nat} {op : Op} {ty : TypeId} {pos : String} {aft : Array Edge} {v : Value} {β : Type} {φ : β → Prop} {vf : β → Value} {Mf : β → List Res} {Rf : β → List (World → Prop)}
theorem OpsT.qa (k : Nat) (hk : l[k]? = some ⟨some d, op, ty, pos, aft, none⟩)
    (h : OpsT l Q Mc Rc n fuel (listed.setIfInBounds k true) ((d, v) :: E) M R) (hc : (Region.noSelect l.toArray && (Region.ready .any l.toArray listed).contains k && Region.free .any l.toArray listed k && isQ op && Nat.blt d n) = true := by decide +kernel) (hy : Yl G n op E (Ok Mc Rc) v := by (first | exact Yl.move rfl | exact Yl.assign rfl | (apply Yl.isBin; (first | (apply Yl.isBin (bo := .lss); (first | exact Yl.lssT rfl rfl (by omega) | exact Yl.lssF rfl rfl (by omega))) | (apply Yl.isBin (bo := .eql); (first | exact Yl.eqlT rfl rfl (by omega) | exact Yl.eqlF rfl rfl (by omega))) | (apply Yl.isBin (bo := .neq); (first | exact Yl.neqT rfl rfl (by omega) | exact Yl.neqF rfl rfl (by omega))) | (apply Yl.isBin (bo := .leq); (first | exact Yl.leqT rfl rfl (by omega) | exact Yl.leqF rfl rfl (by omega))) | (apply Yl.isBin (bo := .gtr); (first | exact Yl.gtrT rfl rfl (by omega) | exact Yl.gtrF rfl rfl (by omega))) | (apply Yl.isBin (bo := .geq); (first | exact Yl.geqT rfl rfl (by omega) | exact Yl.geqF rfl rfl (by omega))) | exact Yl.add rfl rfl (by omega) | exact Yl.sub rfl rfl (by omega) | exact Yl.shr1 rfl rfl | exact Yl.eqNil rfl rfl rfl rfl | exact Yl.neqb Tryz.underlying4 rfl rfl | exact Yl.eqlb Tryz.underlying4 rfl rfl | exact Yl.eqS rfl rfl | exact Yl.neqS rfl rfl | exact Yl.addS rfl rfl (by omega) | exact Yl.addw rfl rfl | exact Yl.mulw rfl rfl)) | (apply Yl.isField; (first | exact Yl.fieldZ rfl rfl rfl | exact Yl.field0 rfl rfl rfl | exact Yl.field rfl rfl rfl)) | (apply Yl.isLoad; (first | exact Yl.loadH rfl rfl rfl (by intro w_; repeat (first | ((with_reducible apply Ld.blk); rfl) | (with_reducible exact Ld.cl) | ((with_reducible apply Ld.ent); with_reducible assumption) | (exact Ld.cs 0 rfl rfl) | (exact Ld.cs _ rfl rfl) | apply Ld.tailM | apply Ld.tailR)) | exact Yl.loadB rfl rfl rfl rfl (by repeat (first | with_reducible exact Up.head | apply Up.tail)) | exact Yl.loadP rfl rfl rfl rfl (by repeat (first | with_reducible exact Up.head | apply Up.tail)) (by repeat (first | exact SubT.zero | apply SubT.succ | apply SubC.here | apply SubC.drop)) | exact Yl.loadC rfl rfl rfl (by repeat (first | with_reducible exact List.mem_cons_self | apply List.mem_cons_of_mem)) rfl)) | (apply Yl.isIdx; (first | exact Yl.idx1 rfl rfl rfl rfl rfl rfl (by omega) | exact Yl.idx rfl rfl rfl rfl rfl rfl (by omega))) | exact Yl.len rfl rfl rfl | exact Yl.extract rfl rfl | exact Yl.pickT rfl rfl | exact Yl.pickF rfl rfl | exact Yl.nilCheck rfl | exact Yl.not rfl | exact Yl.convI rfl rfl rfl rfl rfl (by omega) | exact Yl.convU rfl rfl rfl rfl rfl (by omega) | exact Yl.makeFunc rfl rfl | exact Yl.build0 rfl rfl | exact Yl.buildC rfl rfl rfl (by repeat (first | exact Cells.nil | exact App.nil | (with_reducible apply Cells.agg) | apply Cells.one | apply App.cons)) (by rfl) | exact Yl.buildF rfl rfl rfl (by repeat (first | exact fill0 | (apply fill1; rfl; rfl; rfl; (repeat (first | exact SetL.zero | apply SetL.succ))))) | exact Yl.buildP rfl rfl rfl rfl | exact Yl.sliceSHi Tryz.underlying9 rfl rfl rfl (by omega) | exact Yl.sliceSLo Tryz.underlying9 rfl rfl rfl (by omega) | exact Yl.sliceSLH Tryz.underlying9 rfl rfl rfl rfl rfl (by omega) (by omega) | exact Yl.sliceHi rfl rfl rfl rfl rfl rfl (by omega) | exact Yl.lenS Tryz.underlying9 rfl)) : OpsT l Q Mc Rc n (fuel + 1) listed E M R := OpsT.q k hk hc hy h
theorem OpsT.qy (k : Nat) (hk : l[k]? = some ⟨some d, op, ty, pos, aft, none⟩) (hy : Yl G n op E (Ok Mc Rc) v)
    (h : OpsT l Q Mc Rc n fuel (listed.setIfInBounds k true) ((d, v) :: E) M R) (hc : (Region.noSelect l.toArray && (Region.ready .any l.toArray listed).contains k && Region.free .any l.toArray listed k && isQ op && Nat.blt d n) = true := by decide +kernel) : OpsT l Q Mc Rc n (fuel + 1) listed E M R := OpsT.q k hk hc hy h
/-- what is ready from place k on -/
structure StepsT (l : List Oper) (Q : Exit → Act → World → Prop) (Mc : List Res) (Rc : List (World → Prop)) (n fuel : Nat) (listed : Array Bool) (k : Nat) (E : Env) (M : List Res) (R : List (World → Prop)) : Prop where
  h : ∀ i, k ≤ i → i ∈ Region.ready .any l.toArray listed → StepT l Q Mc Rc n fuel listed i E M R
theorem ready_lt {i : Nat} (h : i ∈ Region.ready .any l.toArray listed) : i < l.length := by
  obtain ⟨-, o, ho, -⟩ := mem_ready.1 h
  exact (Array.getElem?_eq_some_iff.1 ho).1
theorem StepsT.fin {k : Nat} (hk : Nat.ble l.length k = true) : StepsT l Q Mc Rc n fuel listed k E M R := ⟨fun i hi hr => by have := ready_lt hr; have := Nat.le_of_ble_eq_true hk; omega⟩
theorem StepsT.skip {k : Nat} (hk : (Region.ready .any l.toArray listed).contains k = false) (h : StepsT l Q Mc Rc n fuel listed (k + 1) E M R) : StepsT l Q Mc Rc n fuel listed k E M R := ⟨fun i hi hr => by
  rcases Nat.eq_or_lt_of_le hi with rfl | hlt
  · have : (Region.ready .any l.toArray listed).contains k = true := by simpa using hr
    rw [hk] at this; cases this
  · exact h.h i hlt hr⟩
theorem StepsT.go {k : Nat} (h1 : StepT l Q Mc Rc n fuel listed k E M R) (h : StepsT l Q Mc Rc n fuel listed (k + 1) E M R) : StepsT l Q Mc Rc n fuel listed k E M R := ⟨fun i hi hr => by
  rcases Nat.eq_or_lt_of_le hi with rfl | hlt
  · exact h1
  · exact h.h i hlt hr⟩
theorem OpsT.any (hr : (Region.ready .any l.toArray listed).isEmpty = false) (h : StepsT l Q Mc Rc n fuel listed 0 E M R) : OpsT l Q Mc Rc n (fuel + 1) listed E M R := ⟨fun w hw hC hcl a ha =>
  ⟨fun h0 => (by rw [h0] at hr; cases hr), fun k hk => (h.h k (Nat.zero_le _) hk).h w hw hC hcl hk a ha⟩⟩
theorem OpsT.pure {φ : Prop} (hp : ∀ w, Ok M R w → φ) (h : φ → OpsT l Q Mc Rc n fuel listed E M R) : OpsT l Q Mc Rc n fuel listed E M R := ⟨fun w hw => (h (hp w hw)).h w hw⟩
theorem OpsT.joinH {α : Type} (E0 : α → Env) (M0 : α → List Res) (R0 : α → List (World → Prop))
    (rest : ∀ x, FinH Q n .normal (E0 x) (M0 x) (R0 x)) (h : (∀ x, FinH Q n .normal (E0 x) (M0 x) (R0 x)) → OpsT l Q Mc Rc n fuel listed E M R) : OpsT l Q Mc Rc n fuel listed E M R := h rest
end
def isAlB (l : List Oper) (i t : Nat) : Bool := match l[i]? with | some ⟨some _, .alloc t', _, _, _, none⟩ => Nat.beq t' t | _ => false
def isClB (l : List Oper) (i f : Nat) : Bool := match l[i]? with | some ⟨some _, .call ⟨.value (.func f'), _, _⟩, _, _, _, none⟩ => Nat.beq f' f | _ => false
def isStB (l : List Oper) (i : Nat) : Bool := match l[i]? with | some ⟨none, .store _ _ _, _, _, _, none⟩ => true | _ => false
def isBsB (l : List Oper) (i : Nat) : Bool := match l[i]? with | some ⟨some _, .buildSlice _ _ _, _, _, _, none⟩ => true | _ => false
def isApB (l : List Oper) (i : Nat) : Bool := match l[i]? with | some ⟨some _, .call ⟨.builtin .append, _, _⟩, _, _, _, none⟩ => true | _ => false
section
variable {l : List Oper} {Q : Exit → Act → World → Prop} {Mc : List Res} {Rc : List (World → Prop)} {n fuel i : Nat} {listed : Array Bool} {E : Env} {M : List Res} {R : List (World → Prop)}
theorem StepT.isAl (t : Nat) (h : StepT l Q Mc Rc n fuel listed i E M R) (_ : isAlB l i t = true := by decide +kernel) : StepT l Q Mc Rc n fuel listed i E M R := h
theorem StepT.isCl (f : Nat) (h : StepT l Q Mc Rc n fuel listed i E M R) (_ : isClB l i f = true := by decide +kernel) : StepT l Q Mc Rc n fuel listed i E M R := h
theorem StepT.isSt (h : StepT l Q Mc Rc n fuel listed i E M R) (_ : isStB l i = true := by decide +kernel) : StepT l Q Mc Rc n fuel listed i E M R := h
theorem StepT.isBs (h : StepT l Q Mc Rc n fuel listed i E M R) (_ : isBsB l i = true := by decide +kernel) : StepT l Q Mc Rc n fuel listed i E M R := h
theorem StepT.isAp (h : StepT l Q Mc Rc n fuel listed i E M R) (_ : isApB l i = true := by decide +kernel) : StepT l Q Mc Rc n fuel listed i E M R := h
end
theorem FinH.sub {Q : Exit → Act → World → Prop} {n : Nat} {e : Exit} {E E' : Env} {M M' : List Res} {R R' : List (World → Prop)} (h : FinH Q n e E' M' R') (hE : Sub E E') (hM : M'.Sublist M) (hR : ∀ p, p ∈ R' → p ∈ R) : FinH Q n e E M R := ⟨fun w hw => ⟨fun a ha => (h.h w (hw.sub hM hR)).h a (ha.sub hE)⟩⟩
theorem FinH.perm {Q : Exit → Act → World → Prop} {n : Nat} {e : Exit} {E : Env} {M M' : List Res} {R : List (World → Prop)} (hp : M.Perm M') (h : FinH Q n e E M' R) : FinH Q n e E M R := ⟨fun w hw => h.h w (hw.perm hp)⟩
/-- some of what is mutable, in whatever order -/
inductive SubP : List Res → List Res → Prop
  | nil {M : List Res} : SubP [] M
  | cons {q : Res} {M M1 M' : List Res} (h : Rm q M M1) (hs : SubP M' M1) : SubP (q :: M') M
theorem Rm.perm {q : Res} {M M' : List Res} (h : Rm q M M') : M.Perm (q :: M') := by
  induction h with
  | head => exact List.Perm.refl _
  | tail _ ih => exact (ih.cons _).trans (List.Perm.swap _ _ _)
theorem SubP.perm {M M' : List Res} (h : SubP M' M) : ∃ M2, M.Perm (M' ++ M2) := by
  induction h with
  | nil => exact ⟨_, List.Perm.refl _⟩
  | cons hr _ ih =>
    obtain ⟨M2, hp⟩ := ih
    exact ⟨M2, hr.perm.trans (hp.cons _)⟩
theorem Ok.subP {M M' : List Res} {R R' : List (World → Prop)} {w : World} (h : Ok M R w) (hM : SubP M' M) (hR : ∀ p, p ∈ R' → p ∈ R) : Ok M' R' w := by
  obtain ⟨M2, hp⟩ := hM.perm
  exact (h.perm hp).sub (List.sublist_append_left _ _) hR
theorem wsp {M M' : List Res} (h : SubP M' M := by (repeat (first | exact SubP.nil | refine SubP.cons wrm ?_))) : SubP M' M := h
theorem FinH.subP {Q : Exit → Act → World → Prop} {n : Nat} {e : Exit} {E E' : Env} {M M' : List Res} {R R' : List (World → Prop)} (h : FinH Q n e E' M' R') (hE : Sub E E') (hM : SubP M' M) (hR : ∀ p, p ∈ R' → p ∈ R) : FinH Q n e E M R := ⟨fun w hw => ⟨fun a ha => (h.h w (hw.subP hM hR)).h a (ha.sub hE)⟩⟩
theorem wgt {g g' : Prop} (h : g') (hw : Hold g' → g := by (intro hk_; (first | refine OpsT.qa 0 rfl ?_ | refine OpsT.qa 1 rfl ?_ | refine OpsT.qa 2 rfl ?_ | refine OpsT.qa 3 rfl ?_ | refine OpsT.qa 4 rfl ?_ | refine OpsT.qa 5 rfl ?_ | refine OpsT.qa 6 rfl ?_ | refine OpsT.qa 7 rfl ?_ | refine OpsT.qa 8 rfl ?_ | refine OpsT.qa 9 rfl ?_ | refine OpsT.qa 10 rfl ?_ | refine OpsT.qa 11 rfl ?_ | refine OpsT.qa 12 rfl ?_ | refine OpsT.qa 13 rfl ?_ | refine OpsT.qa 14 rfl ?_ | refine OpsT.qa 15 rfl ?_ | refine OpsT.qa 16 rfl ?_ | refine OpsT.qa 17 rfl ?_ | refine OpsT.qa 18 rfl ?_ | refine OpsT.qa 19 rfl ?_ | refine OpsT.qa 20 rfl ?_ | refine OpsT.qa 21 rfl ?_ | refine OpsT.qa 22 rfl ?_ | refine OpsT.qa 23 rfl ?_ | refine OpsT.qa 24 rfl ?_ | refine OpsT.qa 25 rfl ?_ | refine OpsT.qa 26 rfl ?_ | refine OpsT.qa 27 rfl ?_ | refine OpsT.qa 28 rfl ?_ | refine OpsT.qa 29 rfl ?_); (repeat (first | refine OpsT.qa 0 rfl ?_ | refine OpsT.qa 1 rfl ?_ | refine OpsT.qa 2 rfl ?_ | refine OpsT.qa 3 rfl ?_ | refine OpsT.qa 4 rfl ?_ | refine OpsT.qa 5 rfl ?_ | refine OpsT.qa 6 rfl ?_ | refine OpsT.qa 7 rfl ?_ | refine OpsT.qa 8 rfl ?_ | refine OpsT.qa 9 rfl ?_ | refine OpsT.qa 10 rfl ?_ | refine OpsT.qa 11 rfl ?_ | refine OpsT.qa 12 rfl ?_ | refine OpsT.qa 13 rfl ?_ | refine OpsT.qa 14 rfl ?_ | refine OpsT.qa 15 rfl ?_ | refine OpsT.qa 16 rfl ?_ | refine OpsT.qa 17 rfl ?_ | refine OpsT.qa 18 rfl ?_ | refine OpsT.qa 19 rfl ?_ | refine OpsT.qa 20 rfl ?_ | refine OpsT.qa 21 rfl ?_ | refine OpsT.qa 22 rfl ?_ | refine OpsT.qa 23 rfl ?_ | refine OpsT.qa 24 rfl ?_ | refine OpsT.qa 25 rfl ?_ | refine OpsT.qa 26 rfl ?_ | refine OpsT.qa 27 rfl ?_ | refine OpsT.qa 28 rfl ?_ | refine OpsT.qa 29 rfl ?_)); exact hk_.out)) : g := hw ⟨h⟩
end Go.Proofs.YtgbgnipidakdhaaGreatDoor
