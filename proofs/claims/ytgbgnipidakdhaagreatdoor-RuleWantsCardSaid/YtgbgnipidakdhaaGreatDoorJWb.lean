/- The walker for regions gone through as a tree, whose last operation (z) waits for all others and may change what is read. -/
import Derived.Test.YtgbgnipidakdhaaGreatDoorJSx
import Derived.Test.YtgbgnipidakdhaaGreatDoorJGf
import Derived.Test.YtgbgnipidakdhaaGreatDoorJGh
import Derived.Test.YtgbgnipidakdhaaGreatDoorJGi
namespace Go.Proofs.YtgbgnipidakdhaaGreatDoor
open Go.RowKit
set_option maxRecDepth 100000
structure OpsU (z : Nat) (l : List Oper) (Q : Exit → Act → World → Prop) (Mc : List Res) (Rc : List (World → Prop)) (n fuel : Nat) (listed : Array Bool) (E : Env) (M : List Res) (R : List (World → Prop)) : Prop where
  h : ∀ w, Ok M R w → Ok Mc Rc w → Clo .any l.toArray listed → ∀ a, Ag n a E → wpAnyM G.P .any l.toArray (Ok Mc Rc) z (Q .normal) fuel listed a w
structure StepU (z : Nat) (l : List Oper) (Q : Exit → Act → World → Prop) (Mc : List Res) (Rc : List (World → Prop)) (n fuel : Nat) (listed : Array Bool) (i : Nat) (E : Env) (M : List Res) (R : List (World → Prop)) : Prop where
  h : ∀ w, Ok M R w → Ok Mc Rc w → Clo .any l.toArray listed → i ∈ Region.ready .any l.toArray listed → ∀ a, Ag n a E → mOp G.P l.toArray (Ok Mc Rc) z i (wpAnyM G.P .any l.toArray (Ok Mc Rc) z (Q .normal) fuel (listed.setIfInBounds i true)) a w
structure StepsU (z : Nat) (l : List Oper) (Q : Exit → Act → World → Prop) (Mc : List Res) (Rc : List (World → Prop)) (n fuel : Nat) (listed : Array Bool) (k : Nat) (E : Env) (M : List Res) (R : List (World → Prop)) : Prop where
  h : ∀ i, k ≤ i → i ∈ Region.ready .any l.toArray listed → StepU z l Q Mc Rc n fuel listed i E M R
section
variable {z : Nat} {l : List Oper} {Q : Exit → Act → World → Prop} {Mc : List Res} {Rc : List (World → Prop)} {n fuel i : Nat} {listed : Array Bool} {E : Env} {M : List Res} {R : List (World → Prop)} {d : Nat} {op : Op} {ty : TypeId} {pos : String} {aft : Array Edge} {v : Value} {β : Type} {φ : β → Prop} {vf : β → Value} {Mf : β → List Res} {Rf : β → List (World → Prop)}
theorem OpsU.q (k : Nat) (hk : l[k]? = some ⟨some d, op, ty, pos, aft, none⟩) (hc : (Region.noSelect l.toArray && (Region.ready .any l.toArray listed).contains k && Region.free .any l.toArray listed k && isQ op && Nat.blt d n && sinkB .any l.toArray z && !(Nat.beq k z)) = true) (hy : Yl G n op E (Ok Mc Rc) v)
    (h : OpsU z l Q Mc Rc n fuel (listed.setIfInBounds k true) ((d, v) :: E) M R) : OpsU z l Q Mc Rc n (fuel + 1) listed E M R := ⟨fun w hw hC hcl a ha => by
  simp only [Bool.and_eq_true, Bool.not_eq_true'] at hc
  obtain ⟨⟨⟨⟨⟨⟨h1, h2⟩, h3⟩, h4⟩, h5⟩, h6⟩, h7⟩ := hc
  have hne : k ≠ z := fun e => by subst e; simp at h7
  have ho : l.toArray[k]? = some ⟨some d, op, ty, pos, aft, none⟩ := by simpa using hk
  have hkl : k < l.toArray.size := (Array.getElem?_eq_some_iff.1 ho).1
  have hkr : k ∈ Region.ready .any l.toArray listed := by simpa using h2
  exact wpAnyM_first ho (Region.noSelect_spec h1) (fun _ hcl' hl _ => sinkB_spec h6 hkl hne hcl' hl) hne fuel listed a w hC hcl (Region.free_spec ho h3) hkr (.inl ⟨by simp [Region.wanted], fun w hw => hy.h w hw a ha _ _ _ _ _⟩) (h.h w hw hC (hcl.set hkr) _ (ha.put (by simpa using h5) v))⟩
theorem OpsU.qa (k : Nat) (hk : l[k]? = some ⟨some d, op, ty, pos, aft, none⟩)
    (h : OpsU z l Q Mc Rc n fuel (listed.setIfInBounds k true) ((d, v) :: E) M R) (hc : (Region.noSelect l.toArray && (Region.ready .any l.toArray listed).contains k && Region.free .any l.toArray listed k && isQ op && Nat.blt d n && sinkB .any l.toArray z && !(Nat.beq k z)) = true := by decide +kernel) (hy : Yl G n op E (Ok Mc Rc) v := by (first | exact Yl.move rfl | exact Yl.assign rfl | (apply Yl.isBin; (first | (apply Yl.isBin (bo := .lss); (first | exact Yl.lssT rfl rfl (by omega) | exact Yl.lssF rfl rfl (by omega))) | (apply Yl.isBin (bo := .eql); (first | exact Yl.eqlT rfl rfl (by omega) | exact Yl.eqlF rfl rfl (by omega))) | (apply Yl.isBin (bo := .neq); (first | exact Yl.neqT rfl rfl (by omega) | exact Yl.neqF rfl rfl (by omega))) | (apply Yl.isBin (bo := .leq); (first | exact Yl.leqT rfl rfl (by omega) | exact Yl.leqF rfl rfl (by omega))) | (apply Yl.isBin (bo := .gtr); (first | exact Yl.gtrT rfl rfl (by omega) | exact Yl.gtrF rfl rfl (by omega))) | (apply Yl.isBin (bo := .geq); (first | exact Yl.geqT rfl rfl (by omega) | exact Yl.geqF rfl rfl (by omega))) | exact Yl.add rfl rfl (by omega) | exact Yl.sub rfl rfl (by omega) | exact Yl.shr1 rfl rfl | exact Yl.eqNil rfl rfl rfl rfl | exact Yl.neqb Tryz.underlying4 rfl rfl | exact Yl.eqlb Tryz.underlying4 rfl rfl | exact Yl.eqS rfl rfl | exact Yl.neqS rfl rfl | exact Yl.addS rfl rfl (by omega) | exact Yl.addw rfl rfl | exact Yl.mulw rfl rfl)) | (apply Yl.isField; (first | exact Yl.fieldZ rfl rfl rfl | exact Yl.field0 rfl rfl rfl | exact Yl.field rfl rfl rfl)) | (apply Yl.isLoad; (first | exact Yl.loadH rfl rfl rfl (by intro w_; repeat (first | ((with_reducible apply Ld.blk); rfl) | (with_reducible exact Ld.cl) | ((with_reducible apply Ld.ent); with_reducible assumption) | (exact Ld.cs 0 rfl rfl) | (exact Ld.cs _ rfl rfl) | apply Ld.tailM | apply Ld.tailR)) | exact Yl.loadB rfl rfl rfl rfl (by repeat (first | with_reducible exact Up.head | apply Up.tail)) | exact Yl.loadP rfl rfl rfl rfl (by repeat (first | with_reducible exact Up.head | apply Up.tail)) (by repeat (first | exact SubT.zero | apply SubT.succ | apply SubC.here | apply SubC.drop)) | exact Yl.loadC rfl rfl rfl (by repeat (first | with_reducible exact List.mem_cons_self | apply List.mem_cons_of_mem)) rfl)) | (apply Yl.isIdx; (first | exact Yl.idx1 rfl rfl rfl rfl rfl rfl (by omega) | exact Yl.idx rfl rfl rfl rfl rfl rfl (by omega))) | exact Yl.len rfl rfl rfl | exact Yl.extract rfl rfl | exact Yl.pickT rfl rfl | exact Yl.pickF rfl rfl | exact Yl.nilCheck rfl | exact Yl.not rfl | exact Yl.convI rfl rfl rfl rfl rfl (by omega) | exact Yl.convU rfl rfl rfl rfl rfl (by omega) | exact Yl.makeFunc rfl rfl | exact Yl.build0 rfl rfl | exact Yl.buildC rfl rfl rfl (by repeat (first | exact Cells.nil | exact App.nil | (with_reducible apply Cells.agg) | apply Cells.one | apply App.cons)) (by rfl) | exact Yl.buildF rfl rfl rfl (by repeat (first | exact fill0 | (apply fill1; rfl; rfl; rfl; (repeat (first | exact SetL.zero | apply SetL.succ))))) | exact Yl.buildP rfl rfl rfl rfl | exact Yl.sliceSHi Tryz.underlying9 rfl rfl rfl (by omega) | exact Yl.sliceSLo Tryz.underlying9 rfl rfl rfl (by omega) | exact Yl.sliceSLH Tryz.underlying9 rfl rfl rfl rfl rfl (by omega) (by omega) | exact Yl.sliceHi rfl rfl rfl rfl rfl rfl (by omega) | exact Yl.lenS Tryz.underlying9 rfl)) : OpsU z l Q Mc Rc n (fuel + 1) listed E M R := OpsU.q k hk hc hy h
theorem OpsU.qy (k : Nat) (hk : l[k]? = some ⟨some d, op, ty, pos, aft, none⟩) (hy : Yl G n op E (Ok Mc Rc) v)
    (h : OpsU z l Q Mc Rc n fuel (listed.setIfInBounds k true) ((d, v) :: E) M R) (hc : (Region.noSelect l.toArray && (Region.ready .any l.toArray listed).contains k && Region.free .any l.toArray listed k && isQ op && Nat.blt d n && sinkB .any l.toArray z && !(Nat.beq k z)) = true := by decide +kernel) : OpsU z l Q Mc Rc n (fuel + 1) listed E M R := OpsU.q k hk hc hy h
theorem StepsU.fin {k : Nat} (hk : Nat.ble l.length k = true) : StepsU z l Q Mc Rc n fuel listed k E M R := ⟨fun i hi hr => by have := ready_lt hr; have := Nat.le_of_ble_eq_true hk; omega⟩
theorem StepsU.skip {k : Nat} (hk : (Region.ready .any l.toArray listed).contains k = false) (h : StepsU z l Q Mc Rc n fuel listed (k + 1) E M R) : StepsU z l Q Mc Rc n fuel listed k E M R := ⟨fun i hi hr => by
  rcases Nat.eq_or_lt_of_le hi with rfl | hlt
  · have : (Region.ready .any l.toArray listed).contains k = true := by simpa using hr
    rw [hk] at this; cases this
  · exact h.h i hlt hr⟩
theorem StepsU.go {k : Nat} (h1 : StepU z l Q Mc Rc n fuel listed k E M R) (h : StepsU z l Q Mc Rc n fuel listed (k + 1) E M R) : StepsU z l Q Mc Rc n fuel listed k E M R := ⟨fun i hi hr => by
  rcases Nat.eq_or_lt_of_le hi with rfl | hlt
  · exact h1
  · exact h.h i hlt hr⟩
theorem OpsU.any (hr : (Region.ready .any l.toArray listed).isEmpty = false) (h : StepsU z l Q Mc Rc n fuel listed 0 E M R) : OpsU z l Q Mc Rc n (fuel + 1) listed E M R := ⟨fun w hw hC hcl a ha =>
  ⟨fun h0 => (by rw [h0] at hr; cases hr), fun k hk => (h.h k (Nat.zero_le _) hk).h w hw hC hcl hk a ha⟩⟩
theorem OpsU.pure {φ : Prop} (hp : ∀ w, Ok M R w → φ) (h : φ → OpsU z l Q Mc Rc n fuel listed E M R) : OpsU z l Q Mc Rc n fuel listed E M R := ⟨fun w hw => (h (hp w hw)).h w hw⟩
theorem OpsU.joinH {α : Type} (E0 : α → Env) (M0 : α → List Res) (R0 : α → List (World → Prop))
    (rest : ∀ x, FinH Q n .normal (E0 x) (M0 x) (R0 x)) (h : (∀ x, FinH Q n .normal (E0 x) (M0 x) (R0 x)) → OpsU z l Q Mc Rc n fuel listed E M R) : OpsU z l Q Mc Rc n fuel listed E M R := h rest
theorem StepU.he (hi : l[i]? = some ⟨some d, op, ty, pos, aft, none⟩) (hd : Nat.blt d n = true) (he : HE n op E M R φ vf Mf Rf) (hM : ∀ x, Mc.Sublist (Mf x)) (hR : ∀ x p, p ∈ Rc → p ∈ Rf x) (h : ∀ x, φ x → OpsU z l Q Mc Rc n fuel (listed.setIfInBounds i true) ((d, vf x) :: E) (Mf x) (Rf x)) : StepU z l Q Mc Rc n fuel listed i E M R := ⟨fun w hw hC hcl hr a ha => by
  have ho : l.toArray[i]? = some ⟨some d, op, ty, pos, aft, none⟩ := by simpa using hi
  unfold mOp
  simp only [ho]
  have hw' : Region.wanted ⟨some d, op, ty, pos, aft, none⟩ (yielded l.toArray a.tmps) = true := by simp [Region.wanted]
  simp only [hw', if_true]
  exact effUp_mono ((he.h w hw).h a ha _ _ _ _ _) fun v w2 ⟨x, h1, h2, h3⟩ => by
    subst h2
    exact ⟨.inr (h3.sub (hM x) (hR x)), (h x h1).h w2 h3 (h3.sub (hM x) (hR x)) (hcl.set hr) _ (ha.put (by simpa using hd) _)⟩⟩
theorem StepU.hez0 (hi : l[z]? = some ⟨none, op, ty, pos, aft, none⟩) (he : HE0 n op E M R φ Mf Rf) (h : ∀ x, φ x → FinH Q n .normal E (Mf x) (Rf x)) (hr : (Region.ready .any l.toArray (listed.setIfInBounds z true)).isEmpty = true := by decide +kernel) : StepU z l Q Mc Rc n fuel listed z E M R := ⟨fun w hw hC hcl hrd a ha => by
  have ho : l.toArray[z]? = some ⟨none, op, ty, pos, aft, none⟩ := by simpa using hi
  have hr' : Region.ready .any l.toArray (listed.setIfInBounds z true) = [] := by simpa using hr
  unfold mOp
  simp only [ho]
  have hw' : Region.wanted ⟨none, op, ty, pos, aft, none⟩ (yielded l.toArray a.tmps) = true := by simp [Region.wanted]
  simp only [hw', if_true]
  exact effUp_mono ((he.h w hw).h a ha _ _ _ _ _) fun v w2 ⟨x, h1, h3⟩ =>
    ⟨.inl trivial, by
      cases fuel with
      | zero => exact ⟨hr', ((h x h1).h w2 h3).h _ ha⟩
      | succ f => exact ⟨fun _ => ((h x h1).h w2 h3).h _ ha, fun i hi => by rw [hr'] at hi; cases hi⟩⟩⟩
theorem StepU.isAl (t : Nat) (h : StepU z l Q Mc Rc n fuel listed i E M R) (_ : isAlB l i t = true := by decide +kernel) : StepU z l Q Mc Rc n fuel listed i E M R := h
theorem StepU.isCl (f : Nat) (h : StepU z l Q Mc Rc n fuel listed i E M R) (_ : isClB l i f = true := by decide +kernel) : StepU z l Q Mc Rc n fuel listed i E M R := h
theorem StepU.isSt (h : StepU z l Q Mc Rc n fuel listed i E M R) (_ : isStB l i = true := by decide +kernel) : StepU z l Q Mc Rc n fuel listed i E M R := h
theorem StepU.isBs (h : StepU z l Q Mc Rc n fuel listed i E M R) (_ : isBsB l i = true := by decide +kernel) : StepU z l Q Mc Rc n fuel listed i E M R := h
theorem StepU.isAp (h : StepU z l Q Mc Rc n fuel listed i E M R) (_ : isApB l i = true := by decide +kernel) : StepU z l Q Mc Rc n fuel listed i E M R := h
end
theorem FnD.shape {f : ApiFunc} {D : Nat → Prop} {w : World} {u0 u1 : Value} (h : FnD f D w (u0, u1)) : (∃ p c, u0 = .slice p f.params.length c) ∧ ∃ p c, u1 = .slice p f.results.length c := by
  obtain ⟨p, c, e, _⟩ := h.1.slice
  obtain ⟨p2, c2, e2, _⟩ := h.2.slice
  exact ⟨⟨p, c, e⟩, ⟨p2, c2, e2⟩⟩
structure SgA where
  D : Nat → Prop
  p : Option Addr
  c : Nat
  q : Option Addr
  d : Nat
def SgR (f : ApiFunc) (x : SgA) : World → Prop := fun w => FnD f x.D w (.slice x.p f.params.length x.c, .slice x.q f.results.length x.d)
section
variable {n : Nat} {E : Env} {M M' : List Res} {R R' : List (World → Prop)} {w : World}
theorem HE.callS {f0 : ApiFunc} {tf : Value → Value → Value} {F : Nat → Prop} {w0 : World} {f : Nat} {args : List Operand} {tys : Array TypeId} {vs : List Value} (hR : Ext w0 ∈ R) (hF : ∀ k, F k → k < w0.heap.size) (hf : G.fb[f]? = some true) (ha : evs E args = some vs)
    (hc : ∀ w, Ok M R w → Calls G.P f vs.toArray w (Gives (FnD f0) (fun y : Value × Value => tf y.1 y.2) F w)) :
    HE n (.call ⟨.value (.func f), args.toArray, tys⟩) E M R (fun x : SgA => ∀ k, x.D k → F k ∨ w0.heap.size ≤ k) (fun x => tf (.slice x.p f0.params.length x.c) (.slice x.q f0.results.length x.d)) (fun _ => M) (fun x => SgR f0 x :: R) :=
  ⟨fun w hw => (Eff.call hf ha (hc w hw) (fun e w' h => by obtain ⟨⟨x, e1, _⟩, _⟩ := h; exact ⟨_, e1⟩)).mono fun v w' ⟨⟨⟨x1, x2⟩, e1, hv⟩, hx⟩ => by
    cases e1
    obtain ⟨⟨p, c, rfl⟩, ⟨q, d, rfl⟩⟩ := hv.shape
    refine ⟨⟨fun k => F k ∨ w.heap.size ≤ k, p, c, q, d⟩, ?_, rfl, (hw.ext hx).add fun w2 h2 => FnD.fr f0 hv h2 fun k hk1 hk hm => ?_⟩
    · rintro k (h | h)
      · exact .inl h
      · exact .inr (Nat.le_trans (show Ext w0 w from hw.get hR).size h)
    · rcases hk with hk | hk
      · exact hw.origin (S := fun _ => False) hR k hm (hF k hk)
      · obtain ⟨q, hq, hk'⟩ := hm
        have := (hw.m q hq).2 k hk'; omega⟩
theorem Gives.ofS {f0 : ApiFunc} {tf : Value × Value → Value} {F : Nat → Prop} {w0 w' : World} (x : SgA) (h : Ok M R w') (hr : SgR f0 x ∈ R) (hR : Ext w0 ∈ R) (hD : ∀ k, x.D k → F k ∨ w0.heap.size ≤ k) : Gives (FnD f0) tf F w0 (.returned (tf (.slice x.p f0.params.length x.c, .slice x.q f0.results.length x.d))) w' :=
  ⟨⟨_, rfl, FnD.mono (D := x.D) (h.get hr) hD⟩, h.get hR⟩
theorem Gives.ofN {tf : Value × Value → Value} {F : Nat → Prop} {w0 w' : World} (h : Ok M R w') (hR : Ext w0 ∈ R) : Gives (FnD noF) tf F w0 (.returned (tf (.slice none 0 0, .slice none 0 0))) w' := ⟨⟨_, rfl, FnD.nil _ _⟩, h.get hR⟩
theorem fnO_rd {B : Nat} {f : ApiFunc} {x : Value × Value} {w : World} (h1 : w.ownsRow B TVal 1 x.1 f.params.length (f.params.map (Value.int .i64))) (h2 : w.ownsRow B TVal 1 x.2 f.results.length (f.results.map (Value.int .i64))) (l1 : f.params.length ≤ 17592186044416) (l2 : f.results.length ≤ 17592186044416) : FnD f (fun k => B ≤ k) w x := ⟨own_ints h1 l1, own_ints h2 l2⟩
end
def FGives (r : Option ApiFunc) (F : Nat → Prop) (w : World) : Ending → World → Prop := Gives (FnD (r.getD noF)) (fun x : Value × Value => .tuple #[.agg #[x.1, x.2], .bool r.isSome]) F w
section
variable {n : Nat} {E : Env} {M : List Res} {R : List (World → Prop)} {w0 : World} {f : Nat} {args : List Operand} {tys : Array TypeId} {vs : List Value} {F : Nat → Prop}
theorem HE.sgO {r : Option ApiFunc} (hR : Ext w0 ∈ R) (hF : ∀ k, F k → k < w0.heap.size) (hf : G.fb[f]? = some true) (ha : evs E args = some vs) (hc : ∀ w, Ok M R w → Calls G.P f vs.toArray w (FGives r F w)) :
    HE n (.call ⟨.value (.func f), args.toArray, tys⟩) E M R (fun x : SgA => ∀ k, x.D k → F k ∨ w0.heap.size ≤ k) (fun x => .tuple #[.agg #[.slice x.p (r.getD noF).params.length x.c, .slice x.q (r.getD noF).results.length x.d], .bool r.isSome]) (fun _ => M) (fun x => SgR (r.getD noF) x :: R) :=
  HE.callS (tf := fun u v => .tuple #[.agg #[u, v], .bool r.isSome]) hR hF hf ha hc
theorem HE.sgO0 {r : Option ApiFunc} (hR : Ext w0 ∈ R) (hf : G.fb[f]? = some true) (ha : evs E args = some vs) (hc : ∀ w, Ok M R w → Calls G.P f vs.toArray w (FGives r (fun _ => False) w)) :
    HE n (.call ⟨.value (.func f), args.toArray, tys⟩) E M R (fun x : SgA => ∀ k, x.D k → False ∨ w0.heap.size ≤ k) (fun x => .tuple #[.agg #[.slice x.p (r.getD noF).params.length x.c, .slice x.q (r.getD noF).results.length x.d], .bool r.isSome]) (fun _ => M) (fun x => SgR (r.getD noF) x :: R) := HE.sgO hR (fun _ h => h.elim) hf ha hc
theorem HE.sgW {r : ApiFunc × Int} (hR : Ext w0 ∈ R) (hF : ∀ k, F k → k < w0.heap.size) (hf : G.fb[f]? = some true) (ha : evs E args = some vs) (hc : ∀ w, Ok M R w → Calls G.P f vs.toArray w (WPost r F w)) :
    HE n (.call ⟨.value (.func f), args.toArray, tys⟩) E M R (fun x : SgA => ∀ k, x.D k → F k ∨ w0.heap.size ≤ k) (fun x => .tuple #[.agg #[.slice x.p r.1.params.length x.c, .slice x.q r.1.results.length x.d], .int .i64 r.2]) (fun _ => M) (fun x => SgR r.1 x :: R) :=
  HE.callS (tf := fun u v => .tuple #[.agg #[u, v], .int .i64 r.2]) hR hF hf ha hc
theorem HE.sgW0 {r : ApiFunc × Int} (hR : Ext w0 ∈ R) (hf : G.fb[f]? = some true) (ha : evs E args = some vs) (hc : ∀ w, Ok M R w → Calls G.P f vs.toArray w (WPost r (fun _ => False) w)) :
    HE n (.call ⟨.value (.func f), args.toArray, tys⟩) E M R (fun x : SgA => ∀ k, x.D k → False ∨ w0.heap.size ≤ k) (fun x => .tuple #[.agg #[.slice x.p r.1.params.length x.c, .slice x.q r.1.results.length x.d], .int .i64 r.2]) (fun _ => M) (fun x => SgR r.1 x :: R) := HE.sgW hR (fun _ h => h.elim) hf ha hc
end
theorem space_Type (B0 : Nat) (m : ApiModule) (v : Value) (i : Int) (w : World) (h : SpaceRd B0 m w v) : Calls G.P 106 #[v, .int .i64 i] w (FGives (atK m.types i) (fun _ => False) w) := by
  have hl : ((atK m.types i).getD noF).params.length ≤ 17592186044416 ∧ ((atK m.types i).getD noF).results.length ≤ 17592186044416 := by
    obtain ⟨bS, sp, im, dm, vs, tc, ig, dg, rfl, -, h⟩ := h
    obtain ⟨p, c, e, hh⟩ := fn_of (i := i) (own_rowC h.ts) h.ty
    rcases hh with ⟨-, hat⟩ | ⟨j, b, o, x0, x1, y0, y1, rfl, hj, rfl, hat, -, -, q0, q1⟩
    · rw [hat]; exact ⟨by show 0 ≤ _; omega, by show 0 ≤ _; omega⟩
    · rw [hat]
      obtain ⟨_, _, _, h0⟩ := q0.slice
      obtain ⟨_, _, _, h1⟩ := q1.slice
      exact ⟨h0, h1⟩
  refine (space_TypeM B0 w.heap.size m v i w h (Nat.le_refl _)).mono fun e w' ⟨x, e1, _, hok, hch, _⟩ => ?_
  subst e1
  have hx : Ext w w' := hch.mono (fun k _ hk => by obtain ⟨q, hq, -⟩ := hk; simp at hq)
  refine ⟨⟨x, rfl, FnD.mono (fnO_rd ?_ ?_ hl.1 hl.2) fun k hk => .inr hk⟩, hx⟩
  · exact (hok.m (.own w.heap.size TVal 1 x.1 _ _) (by simp [fnO])).1
  · exact (hok.m (.own w.heap.size TVal 1 x.2 _ _) (by simp [fnO])).1
theorem space_Func (B0 : Nat) (m : ApiModule) (v : Value) (i : Int) (w : World) (h : SpaceRd B0 m w v) : Calls G.P 130 #[v, .int .i64 i] w (FGives (funcTy m i) (fun _ => False) w) := by
  have h0 := h
  obtain ⟨bS, sp, im, dm, vs, tc, ig, dg, rfl, -, h⟩ := h
  have hb := own_rowC h.fs
  have c2 : w.cell? ⟨sp, 1, none⟩ = some vs.fv := h.x.cell rfl
  have et : (spX m).funcs = funcsM m := by rw [spX_eq]
  rw [et] at hb
  cases hat : atK (funcsM m) i with
  | none =>
    rw [show funcTy m i = none from by unfold funcTy; rw [hat]; rfl]
    refine enterH (l := [_, _]) Tryz.func130 rfl Tryz.ntmps130 rfl (Ok.start w) ?_
    repeat' (first | refine wau ?_ | (refine qal2q fun b_ => ?_) | (refine qal5q fun b_ => ?_) | (refine qal4q fun b_ => ?_) | (refine qal3q fun b_ => ?_) | (refine OpsH.isCall (f := 155) ?_; refine OpsH.call1 rfl rfl rfl (fun w' hw' => space_whole bS sp w' (h.s.chg (show Ext w w' from hw'.at) (fun h => h))) ?_) | (refine OpsH.isCall (f := 161) ?_; refine OpsH.call1 (v := .tuple #[.int .i64 0, .bool false]) rfl rfl rfl (fun w' hw' => by have := at_int _ _ i w' (hb.ext hw'.at); rw [hat] at this; exact this) ?_) | (refine wspl ?_ ?_ <;> intro hc_))
    all_goals exact FinH.ret2c (.inl rfl) rfl rfl rfl rfl rfl wup rfl rfl fun w' hw' => Gives.ofN (tf := fun x : Value × Value => .tuple #[.agg #[x.1, x.2], .bool false]) hw' wmem
  | some t =>
    rw [show funcTy m i = atK m.types t from by unfold funcTy; rw [hat]; rfl]
    refine enterH (l := [_, _]) Tryz.func130 rfl Tryz.ntmps130 rfl (Ok.start w) ?_
    repeat' (first | refine wau ?_ | (refine qal2q fun b_ => ?_) | (refine qal5q fun b_ => ?_) | (refine qal4q fun b_ => ?_) | (refine qal3q fun b_ => ?_) | (refine OpsH.isCall (f := 155) ?_; refine OpsH.call1 rfl rfl rfl (fun w' hw' => space_whole bS sp w' (h.s.chg (show Ext w w' from hw'.at) (fun h => h))) ?_) | (refine OpsH.isCall (f := 161) ?_; refine OpsH.call1 (v := .tuple #[.int .i64 t, .bool true]) rfl rfl rfl (fun w' hw' => by have := at_int _ _ i w' (hb.ext hw'.at); rw [hat] at this; exact this) ?_) | (refine OpsH.isCall (f := 106) ?_; refine OpsH.he (HE.sgO0 wmem rfl rfl (fun w' hw' => space_Type B0 m _ t w' (h0.chg (show Ext w w' from hw'.at) (fun _ _ h => h)))) rfl ?_; rintro ⟨D_, p_, c_, q_, d_⟩ hD_; dsimp only) | (refine wspl ?_ ?_ <;> intro hc_))
    all_goals exact FinH.ret2c (.inl rfl) rfl rfl rfl rfl rfl wup rfl rfl fun w' hw' => Gives.ofS (tf := fun x : Value × Value => .tuple #[.agg #[x.1, x.2], .bool (atK m.types t).isSome]) ⟨D_, p_, c_, q_, d_⟩ hw' wmem wmem hD_
def blockTy (m : ApiModule) (k v i : Int) : Option ApiFunc := if k = 0 then some noF else if k = 1 then (if valK v = true then some ⟨[], [v]⟩ else none) else if k = 2 then atK m.types i else none
end Go.Proofs.YtgbgnipidakdhaaGreatDoor
