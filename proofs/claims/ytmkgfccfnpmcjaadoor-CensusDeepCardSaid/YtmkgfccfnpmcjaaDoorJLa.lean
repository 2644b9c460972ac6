/- A region that draws its order, gone through as a tree: what only reads is taken first; where several effects can come, each of them. -/
import Derived.Test.YtmkgfccfnpmcjaaDoorJDp
import Derived.Laws.StructEq
namespace Go.Proofs.YtmkgfccfnpmcjaaDoor
open Go.RowKit
set_option maxRecDepth 100000

structure OpsT (l : List Oper) (Q : Exit → Act → World → Prop) (Mc : List Res) (Rc : List (World → Prop)) (n fuel : Nat) (listed : Array Bool) (E : Env) (M : List Res) (R : List (World → Prop)) : Prop where
  h : ∀ w, Ok M R w → Ok Mc Rc w → Clo .any l.toArray listed → ∀ a, Ag n a E → wpAnyM G.P .any l.toArray (Ok Mc Rc) l.length (Q .normal) fuel listed a w
structure StepT (l : List Oper) (Q : Exit → Act → World → Prop) (Mc : List Res) (Rc : List (World → Prop)) (n fuel : Nat) (listed : Array Bool) (i : Nat) (E : Env) (M : List Res) (R : List (World → Prop)) : Prop where
  h : ∀ w, Ok M R w → Ok Mc Rc w → Clo .any l.toArray listed → i ∈ Region.ready .any l.toArray listed → ∀ a, Ag n a E → mOp G.P l.toArray (Ok Mc Rc) l.length i (wpAnyM G.P .any l.toArray (Ok Mc Rc) l.length (Q .normal) fuel (listed.setIfInBounds i true)) a w
section
variable {l : List Oper} {Q : Exit → Act → World → Prop} {Mc : List Res} {Rc : List (World → Prop)} {n fuel : Nat} {listed : Array Bool} {E : Env} {M : List Res} {R : List (World → Prop)} {d : Nat} {op : Op} {ty : TypeId} {pos : String} {aft : Array Edge} {v : Value} {β : Type} {φ : β → Prop} {vf : β → Value} {Mf : β → List Res} {Rf : β → List (World → Prop)}
theorem CdH.regionR {id : Nat} (Mc : List Res) (Rc : List (World → Prop)) (hM : Mc.Sublist M) (hR : ∀ p, p ∈ Rc → p ∈ R) (h : OpsT l Q Mc Rc n l.length (Array.replicate l.length false) E M R) : CdH Q n (.region id l.toArray true) E M R :=
  ⟨fun w hw => ⟨fun a ha => wp_region_any G.mixed (wpAny_of_M (C := Ok Mc Rc) (z := l.length) (K := Q .normal) (fun _ _ h => h) _ _ _ _ (by
    have := h.h w.drew hw.drew (hw.drew.sub hM hR) (Clo.start _) a ha
    simpa using this))⟩⟩
/-- a read: the k-th operation -/
theorem OpsT.q (k : Nat) (hk : l[k]? = some ⟨some d, op, ty, pos, aft, none⟩) (hc : (Region.noSelect l.toArray && (Region.ready .any l.toArray listed).contains k && Region.free .any l.toArray listed k && isQ op && Nat.blt d n) = true) (hy : Yl G n op E (Ok Mc Rc) v)
    (h : OpsT l Q Mc Rc n fuel (listed.setIfInBounds k true) ((d, v) :: E) M R) : OpsT l Q Mc Rc n (fuel + 1) listed E M R := ⟨fun w hw hC hcl a ha => by
  simp only [Bool.and_eq_true] at hc
  obtain ⟨⟨⟨⟨h1, h2⟩, h3⟩, h4⟩, h5⟩ := hc
  have hkl : k < l.length := (List.getElem?_eq_some_iff.1 hk).1
  have ho : l.toArray[k]? = some ⟨some d, op, ty, pos, aft, none⟩ := by simpa using hk
  have hkr : k ∈ Region.ready .any l.toArray listed := by simpa using h2
  exact wpAnyM_first ho (Region.noSelect_spec h1) (fun _ _ _ _ => no_z) (by omega) fuel listed a w hC hcl (Region.free_spec ho h3) hkr (.inl ⟨by simp [Region.wanted], fun w hw => hy.h w hw a ha _ _ _ _ _⟩) (h.h w hw hC (hcl.set hkr) _ (ha.put (by simpa using h5) v))⟩
theorem OpsT.nil (hr : Region.ready .any l.toArray listed = []) (h : FinH Q n .normal E M R) : OpsT l Q Mc Rc n fuel listed E M R := ⟨fun w hw hC hcl a ha => by
  cases fuel with
  | zero => exact ⟨hr, (h.h w hw).h a ha⟩
  | succ f => exact ⟨fun _ => (h.h w hw).h a ha, fun i hi => by rw [hr] at hi; cases hi⟩⟩
theorem OpsT.all1 (i : Nat) (hr : Region.ready .any l.toArray listed = [i]) (h : StepT l Q Mc Rc n fuel listed i E M R) : OpsT l Q Mc Rc n (fuel + 1) listed E M R := ⟨fun w hw hC hcl a ha =>
  ⟨fun h0 => (by rw [hr] at h0; cases h0), fun k hk => by
    have hk' := hk
    rw [hr, List.mem_singleton] at hk'
    subst hk'
    exact h.h w hw hC hcl hk a ha⟩⟩
theorem OpsT.all2 (i j : Nat) (hr : Region.ready .any l.toArray listed = [i, j]) (h : StepT l Q Mc Rc n fuel listed i E M R) (h2 : StepT l Q Mc Rc n fuel listed j E M R) : OpsT l Q Mc Rc n (fuel + 1) listed E M R := ⟨fun w hw hC hcl a ha =>
  ⟨fun h0 => (by rw [hr] at h0; cases h0), fun k hk => by
    have hk' := hk
    rw [hr] at hk'
    rcases (show k = i ∨ k = j by simpa using hk') with rfl | rfl
    · exact h.h w hw hC hcl hk a ha
    · exact h2.h w hw hC hcl hk a ha⟩⟩
theorem StepT.he {i : Nat} (hi : l[i]? = some ⟨some d, op, ty, pos, aft, none⟩) (hd : Nat.blt d n = true) (he : HE n op E M R φ vf Mf Rf) (hM : ∀ x, Mc.Sublist (Mf x)) (hR : ∀ x p, p ∈ Rc → p ∈ Rf x) (h : ∀ x, φ x → OpsT l Q Mc Rc n fuel (listed.setIfInBounds i true) ((d, vf x) :: E) (Mf x) (Rf x)) : StepT l Q Mc Rc n fuel listed i E M R := ⟨fun w hw hC hcl hr a ha => by
  have ho : l.toArray[i]? = some ⟨some d, op, ty, pos, aft, none⟩ := by simpa using hi
  unfold mOp
  simp only [ho]
  have hw' : Region.wanted ⟨some d, op, ty, pos, aft, none⟩ (yielded l.toArray a.tmps) = true := by simp [Region.wanted]
  simp only [hw', if_true]
  exact effUp_mono ((he.h w hw).h a ha _ _ _ _ _) fun v w2 ⟨x, h1, h2, h3⟩ => by
    subst h2
    exact ⟨.inr (h3.sub (hM x) (hR x)), (h x h1).h w2 h3 (h3.sub (hM x) (hR x)) (hcl.set hr) _ (ha.put (by simpa using hd) _)⟩⟩
theorem StepT.he0 {i : Nat} (hi : l[i]? = some ⟨none, op, ty, pos, aft, none⟩) (he : HE0 n op E M R φ Mf Rf) (hM : ∀ x, Mc.Sublist (Mf x)) (hR : ∀ x p, p ∈ Rc → p ∈ Rf x) (h : ∀ x, φ x → OpsT l Q Mc Rc n fuel (listed.setIfInBounds i true) E (Mf x) (Rf x)) : StepT l Q Mc Rc n fuel listed i E M R := ⟨fun w hw hC hcl hr a ha => by
  have ho : l.toArray[i]? = some ⟨none, op, ty, pos, aft, none⟩ := by simpa using hi
  unfold mOp
  simp only [ho]
  have hw' : Region.wanted ⟨none, op, ty, pos, aft, none⟩ (yielded l.toArray a.tmps) = true := by simp [Region.wanted]
  simp only [hw', if_true]
  exact effUp_mono ((he.h w hw).h a ha _ _ _ _ _) fun v w2 ⟨x, h1, h3⟩ =>
    ⟨.inr (h3.sub (hM x) (hR x)), (h x h1).h w2 h3 (h3.sub (hM x) (hR x)) (hcl.set hr) _ ha⟩⟩
end
end Go.Proofs.YtmkgfccfnpmcjaaDoor
/- law57.alive: the chapter's examples. -/
namespace Go.Proofs.YtmkgfccfnpmcjaaDoor
open Go.RowKit
set_option maxRecDepth 100000

/-! structs of numbers, compared -/
theorem run_eqFields_self {P : Program} {cs : List Value} (d : Nat) (w : World) : ∀ fs : List Field, (∀ f ∈ fs, P.underlying f.type = some (.int .i64) ∧ ∃ a : Int, cs[f.offset]? = some (.int .i64 a)) → (Op.eqFields (d + 1) cs.toArray cs.toArray fs).run P w = .ok true w
  | [], _ => by simp [Op.eqFields]
  | f :: fs, h => by
    obtain ⟨h1, a, h2⟩ := h f (by simp)
    have ih := run_eqFields_self d w fs fun g hg => h g (by simp [hg])
    have hg : (isAgg f.type).run P w = .ok false w := by simp [isAgg, run_underlying h1]
    have hp : (part f.type cs.toArray f.offset).run P w = .ok (.int .i64 a) w := by
      have h2' : cs.toArray[f.offset]? = some (Value.int .i64 a) := by simpa using h2
      simp only [part, Sem.run_bind, hg, Result.andThen_ok, Bool.false_eq_true, if_false]
      rw [h2']; simp
    have he : (Op.equalIn (d + 1) f.type (.int .i64 a) (.int .i64 a)).run P w = .ok true w := by simp [Op.equalIn, run_underlying h1]
    simp only [Op.eqFields, Sem.run_ite]
    split
    · simp only [Sem.run_bind, hp, Result.andThen_ok, he, Bool.not_true, Bool.false_eq_true, if_false]
      exact ih
    · exact ih
theorem Yl.eqCen {G : Prg} {n : Nat} {E : Env} {C : World → Prop} {x y : Operand} {t t2 : TypeId} {cs : List Value} (hx : ev E x = some (.agg cs.toArray)) (hy : ev E y = some (.agg cs.toArray)) (ht : G.P.underlying t = some (.struct (G.P.fieldsOf t))) (hp : G.P.stoodInHeld t = false) (hg : G.P.eqGuardType G.P.depth t = false)
    (hf : ∀ f ∈ (G.P.fieldsOf t).toList, G.P.underlying f.type = some (.int .i64) ∧ ∃ a : Int, cs[f.offset]? = some (.int .i64 a)) : Yl G n (.binOp .eql t x y t2) E C (.bool true) :=
  ⟨fun w _ a ha d ty pos aft gd => by
    have h3 : (Op.equal t (.agg cs.toArray) (.agg cs.toArray)).run G.P w = .ok true w := by
      show (Op.equalIn (9999 + 1) t _ _).run G.P w = _
      rw [run_equalIn_struct w 9999 t _ _ ht hp]
      exact run_eqFields_self 9998 w _ hf
    have h4 : ∀ b c : Operand, (eqGuard .eql t b c (.agg cs.toArray) (.agg cs.toArray)).run G.P w = .ok () w := by
      intro b c; simp [eqGuard, hg, run_program]
    simp [execOp, ha.eval hx, ha.eval hy, h4, binOp, h3]⟩

/-! modules written out -/
def iX (p : Int × Int) : Ins := { op := p.1, a := p.2, b := 0, n := 0, kind := 0, val := 0, index := 0, types := [], labels := [] }
def iC (p : Int × Int) : List Value := [.int .i64 p.1, .int .i64 p.2, .int .i64 0, .int .u64 0, .int .i64 0, .int .i64 0, .int .i64 0, .slice none 0 0, .slice none 0 0]
def cX (l : List (Int × Int)) : ApiCode := ⟨0, [], l.map iX⟩
def mX (l : List (List (Int × Int))) : ApiModule := ⟨[], [], l.map cX, [], [], [], [], false, 0, [], [], []⟩
theorem body_blk {w : World} {b c T : Nat} {l : List (Int × Int)} (h : Blk w b (l.flatMap iC) T) (hl : l.length ≤ 1000) (hr0 : (l.all fun p => decide (0 ≤ p.1) && decide (p.1 < 1000) && decide (0 ≤ p.2) && decide (p.2 < 1000)) = true) : BodyR (fun _ => True) w (.slice (some ⟨b, 0, none⟩) l.length c) (l.map iX) := by
  have hr : ∀ i, i < l.length → R64 (ix l i).1 ∧ R64 (ix l i).2 := fun i hi => by
    have := List.all_eq_true.1 hr0 (ix l i) (by rw [ix_eq hi]; exact List.getElem_mem hi)
    simp only [Bool.and_eq_true, decide_eq_true_eq] at this
    unfold R64; omega
  refine ⟨_, c, by rw [List.length_map], by rw [List.length_map]; omega, .inr ⟨b, 0, rfl, trivial, fun i hi => ?_⟩⟩
  have hi' : i < l.length := by simpa using hi
  rw [ix_map hi', Nat.zero_add]
  have hc : ∀ j v, j < 9 → (iC (ix l i))[j]? = some v → w.cell? ⟨b, i * 9 + j, none⟩ = some v := fun j v hj hv => h.cell (by rw [flatMap_get iC (s := 9) (fun _ => rfl) l i j hi' hj]; exact hv)
  exact ⟨hc 0 _ (by omega) rfl, hc 1 _ (by omega) rfl, hc 2 _ (by omega) rfl, hc 3 _ (by omega) rfl, hc 4 _ (by omega) rfl, hc 5 _ (by omega) rfl, hc 6 _ (by omega) rfl, ⟨_, hc 7 _ (by omega) rfl, IntsR.nil0 _ _⟩, ⟨_, hc 8 _ (by omega) rfl, IntsR.nil0 _ _⟩, (hr i hi').1, (hr i hi').2⟩
def codC (v : Value) : List Value := [.int .i64 0, .slice none 0 0, v]
theorem mod_blk {w : World} {b c T : Nat} {vs : List Value} {l : List (List (Int × Int))} (h : Blk w b (vs.flatMap codC) T) (hl : vs.length = l.length) (hl2 : l.length ≤ 1000) (hb : ∀ i, i < l.length → BodyR (fun _ => True) w (ix vs i) ((ix l i).map iX)) :
    ApiModuleV (fun _ => True) w [.slice none 0 0, .slice none 0 0, .slice (some ⟨b, 0, none⟩) l.length c, .slice none 0 0, .slice none 0 0, .slice none 0 0, .slice none 0 0, .bool false, .int .i64 0, .slice none 0 0, .slice none 0 0, .slice none 0 0] (mX l) := by
  refine ⟨_, _, _, _, _, _, _, _, _, _, rfl, SlR.nil, SlR.nil, ⟨_, c, by simp [mX], by simp [mX]; omega, .inr ⟨b, 0, rfl, trivial, fun i hi => ?_⟩⟩, SlR.nil, SlR.nil, SlR.nil, SlR.nil, SlR.nil, SlR.nil, SlR.nil, by show R64 0; unfold R64; omega⟩
  have hi' : i < l.length := by simpa [mX] using hi
  show ApiCodeR _ w b (0 + i * 3) (ix (l.map cX) i)
  rw [ix_map hi', Nat.zero_add]
  refine ⟨codC (ix vs i), ⟨_, _, rfl, IntsR.nil0 _ _, hb i hi', by show R64 0; unfold R64; omega⟩, fun j hj => ?_⟩
  have := flatMap_get codC (s := 3) (fun _ => rfl) vs i j (by omega) hj
  rw [← this]
  have hlt : i * 3 + j < (vs.flatMap codC).length := by rw [flatMap_len codC (s := 3) (fun _ => rfl)]; omega
  rw [List.getElem?_eq_getElem hlt]
  exact h.cell (List.getElem?_eq_getElem hlt)
theorem mod_nil {w : World} : ApiModuleV (fun _ => True) w [.slice none 0 0, .slice none 0 0, .slice none 0 0, .slice none 0 0, .slice none 0 0, .slice none 0 0, .slice none 0 0, .bool false, .int .i64 0, .slice none 0 0, .slice none 0 0, .slice none 0 0] (mX []) :=
  ⟨_, _, _, _, _, _, _, _, _, _, rfl, SlR.nil, SlR.nil, SlR.nil, SlR.nil, SlR.nil, SlR.nil, SlR.nil, SlR.nil, SlR.nil, SlR.nil, by show R64 0; unfold R64; omega⟩
theorem mX_lens (l : List (List (Int × Int))) (h : l.length ≤ 100) : LensP (mX l) := by
  refine ⟨?_, ?_, ?_, ?_, ?_, ?_, ?_, ?_, ?_⟩ <;> simp [mX] <;> exact h
theorem mX_small (l : List (List (Int × Int))) (h : ∀ i, i < l.length → (ix l i).length ≤ 1000) : SmallM (mX l) := by
  intro i hi
  have hi' : i < l.length := by simpa [mX] using hi
  have e : (ix (mX l).funcs i).body = (ix l i).map iX := by show (ix (l.map cX) i).body = _; rw [ix_map hi']; rfl
  rw [e]
  refine ⟨by have := h i hi'; rw [List.length_map]; omega, fun j hj => ?_⟩
  have hj' : j < (ix l i).length := by simpa using hj
  rw [ix_map hj']
  show ([] : List Int).length ≤ _
  simp

def exO : List (List (Int × Int)) := [[(3, 0), (12, 0), (11, 0), (11, 0)]]
def ex1 : List (List (Int × Int)) := [[(16, 1), (11, 0)], [(11, 0)]]
def ex2 : List (List (Int × Int)) := [[(16, 1), (11, 0)], [(16, 1), (11, 0)]]
def exL : List Ins := [iX (3, 0), iX (12, 0), iX (11, 0), iX (11, 0)]
theorem exL_check : (checkR exL).2 = 0 := by decide
theorem exL_ok : ∀ p, p < exL.length → okN exL p = true := by decide
theorem exL_bad : ¬ badB exL := fun h => by
  obtain ⟨p, hp, hN⟩ := (bad_iff exL_check).1 h
  rw [exL_ok p hp] at hN; cases hN
theorem exL_len : (blocksB exL).length = 4 := by kernel_rfl
theorem exL_nb : nbK exL = 4 := by
  unfold nbK
  rw [if_pos ⟨exL_check, exL_bad⟩, exL_len]
theorem exO_mod : modC (mX exO) = ⟨1, 4, 4, 1, 0, 0, 0, 0⟩ := by
  show add0 ⟨1, 0, 0, 0, 0, 0, 0, 0⟩ (add0 (add0 ⟨0, 0, nbK exL, 0, 0, 0, 0, 0⟩ (csum (fun x : Ins => oneC x.op) exL)) zC) = _
  rw [exL_nb]
  decide
theorem exO_wrap : wrapC (modC (mX exO)) = ⟨1, 4, 4, 1, 0, 0, 0, 0⟩ := by rw [exO_mod]; decide
theorem ex1_calls : callsM (mX ex1) = [[1], []] := by decide
theorem ex1_deep : deepG (callsM (mX ex1)) = 2 := by decide
theorem ex2_deep : deepG (callsM (mX ex2)) = -1 := by decide
theorem ex0_deep : deepG (callsM (mX [])) = 0 := by decide
end Go.Proofs.YtmkgfccfnpmcjaaDoor
