/- Quiet regions inside a fence; slices.Backward; how many types remain on the stack. -/
import Derived.OrdersIn
import Derived.Test.YtgbgnipidakdhaaGreatDoorJIn
import Derived.Test.YtgbgnipidakdhaaGreatDoorJSt
namespace Go.Proofs.YtgbgnipidakdhaaGreatDoor
open Go.RowKit
set_option maxRecDepth 100000

section
variable {ops : Array Oper} {md : Region.Mode} {C : World → Prop} {ro : Option Nat} {m : Nat}
theorem wpOpIn_of_qOp {i : Nat} {a : Act} {K : Act → Prop} {K' : Act → World → Prop} {Q' : Exit → Act → World → Prop} {w : World} (hn : ∀ (j : Nat) (o : Oper), ops[j]? = some o → nodef o.op = true) (hC : C w) (h : ∀ a w', C w' → K a → K' a w') (hh : qOp G.P ops C i K a) : wpOpIn (FW ro) m G.P ops Q' i K' a w := by
  unfold qOp at hh
  unfold wpOpIn
  split
  · rename_i ho; simp only [ho] at hh; exact h _ _ hC hh
  · rename_i o ho
    simp only [ho] at hh
    split
    · rename_i hw
      simp only [hw, if_true] at hh
      obtain ⟨v, h1, h2⟩ := hh
      have h3 := h1 w hC
      have hs : Oper.semAt (FW ro).round a.eval o = execOp a.eval o := Oper.semAt_eq _ _ _ (by
        have := hn i o ho
        rintro c e; rw [e] at this; simp [nodef] at this)
      refine ⟨fun _ _ => trivial, ?_⟩
      rw [hs]
      unfold Oper.quietAt at h3
      generalize (execOp a.eval o).run G.P w = r at *
      cases r with
      | ok n w' =>
        cases n <;> simp only [Oper.quietUpon] at h3 <;> simp only [Oper.uponIn]
        case value u =>
          obtain ⟨e1, e2⟩ := h3
          rw [e1, e2]
          exact h _ _ hC h2
        case skip =>
          obtain ⟨e1, e2⟩ := h3
          rw [e1, ← e2]
          exact h _ _ hC h2
        case enter f args =>
          obtain ⟨e1, hc⟩ := h3
          rw [e1]
          exact ⟨fun e => (by cases e), (FW_calls hc).mono fun e w'' ⟨he, hw''⟩ => by subst he; exact h _ _ hw'' h2⟩
      | halt x w' => simp only [Oper.quietUpon] at h3
    · rename_i hw; simp only [hw] at hh; exact ⟨fun _ _ => trivial, h _ _ hC hh⟩
theorem wpAnyIn_of_quiet {Q : Act → Prop} {Q' : Exit → Act → World → Prop} (hn : ∀ (j : Nat) (o : Oper), ops[j]? = some o → nodef o.op = true) (hQ : ∀ a w, C w → Q a → Q' .normal a w) : ∀ (fuel : Nat) (listed : Array Bool) (a : Act) (w : World), C w →
    wpAnyQ G.P md ops C Q fuel listed a → wpAnyIn (FW ro) m G.P md ops Q' fuel listed a w
  | 0, _, _, _, hw, h => ⟨h.1, hQ _ _ hw h.2⟩
  | fuel + 1, _, _, _, hw, h => ⟨fun h0 => hQ _ _ hw (h.1 h0), fun i hi => wpOpIn_of_qOp hn hw (fun a' w' hw' => wpAnyIn_of_quiet hn hQ fuel _ a' w' hw') (h.2 i hi)⟩
theorem wpIn_region_quiet {id : Nat} {Q : Exit → Act → World → Prop} {a : Act} {w : World} (hn : ∀ (j : Nat) (o : Oper), ops[j]? = some o → nodef o.op = true) (hB : Region.lexB .any ops = true) (hC : C { w with drawn := w.drawn + 1 })
    (h : wpQuiet G.P ops C (fun a' => ∀ w', C w' → Q .normal a' w') ops.toList a) : (Code.region id ops true).wpIn (FW ro) m G.P Q a w := by
  simp only [Region.lexB, Bool.and_eq_true] at hB
  refine wpIn_region_any G.mixed (wpAnyIn_of_quiet (Q := fun a' => ∀ w', C w' → Q .normal a' w') hn (fun _ w' hw' h => h w' hw') _ _ _ _ hC ?_)
  have := wpAnyQ_lex (C := C) (md := .any) hB.1 ops.toList 0 (Array.replicate ops.size false) a (by simp) (by simpa using hB.2) h
  simpa using this
end
theorem wpListIn_of_quiet {ops : Array Oper} {C : World → Prop} {ro : Option Nat} {m : Nat} {Q : Act → Prop} {Q' : Exit → Act → World → Prop} (hQ : ∀ a w, C w → Q a → Q' .normal a w) : ∀ (l : List Oper), (∀ o, o ∈ l → nodef o.op = true) → ∀ (a : Act) (w : World), C w →
    wpQuiet G.P ops C Q l a → wpListIn (FW ro) m G.P ops Q' l a w
  | [], _, _, _, hw, h => hQ _ _ hw h
  | o :: rest, hn, a, w, hC, hh => by
    have ih := wpListIn_of_quiet (ops := ops) (ro := ro) (m := m) hQ rest (fun o h => hn o (by simp [h]))
    unfold wpListIn
    simp only [wpQuiet] at hh
    split
    · rename_i hw
      simp only [hw, if_true] at hh
      obtain ⟨v, h1, h2⟩ := hh
      have h3 := h1 w hC
      have hs : Oper.semAt (FW ro).round a.eval o = execOp a.eval o := Oper.semAt_eq _ _ _ (by
        have := hn o (by simp)
        rintro c e; rw [e] at this; simp [nodef] at this)
      refine ⟨fun _ _ => trivial, ?_⟩
      rw [hs]
      unfold Oper.quietAt at h3
      generalize (execOp a.eval o).run G.P w = r at *
      cases r with
      | ok n w' =>
        cases n <;> simp only [Oper.quietUpon] at h3 <;> simp only [Oper.uponIn]
        case value u =>
          obtain ⟨e1, e2⟩ := h3
          rw [e1, e2]
          exact ih _ _ hC h2
        case skip =>
          obtain ⟨e1, e2⟩ := h3
          rw [e1, ← e2]
          exact ih _ _ hC h2
        case enter f args =>
          obtain ⟨e1, hc⟩ := h3
          rw [e1]
          exact ⟨fun e => (by cases e), (FW_calls hc).mono fun e w'' ⟨he, hw''⟩ => by subst he; exact ih _ _ hw'' h2⟩
      | halt x w' => simp only [Oper.quietUpon] at h3
    · rename_i hw; simp only [hw] at hh; exact ⟨fun _ _ => trivial, ih _ _ hC hh⟩
section
variable {ro : Option Nat} {D : List Deferred} {ops : Array Oper} {Q : Exit → Act → World → Prop} {n : Nat} {E : Env} {M M' : List Res} {R R' : List (World → Prop)}
theorem CdN.regionQ {id : Nat} {l : List Oper} (hn : (l.all fun o => nodef o.op) = true) (hB : Region.lexB .any l.toArray = true) (h : Ops G l.toArray (.quiet (fun a' => ∀ w', Ok M R w' → Q .normal a' w') (Ok M R)) n l E) : CdN ro [] Q n (.region id l.toArray true) E M R :=
  ⟨fun w hw => ⟨fun a ha => wpIn_region_quiet (C := Ok M R) (fun j o ho => by
    have hm : o ∈ l := List.mem_of_getElem? (by simpa using ho)
    exact List.all_eq_true.1 hn o hm) hB hw.drew (by have := h.h a ha.toAg; simp only [Mode.run] at this; simpa using this)⟩⟩
theorem CdN.regionL {id : Nat} {l : List Oper} (hn : (l.all fun o => nodef o.op) = true) (h : Ops G l.toArray (.quiet (fun a' => ∀ w', Ok M R w' → Q .normal a' w') (Ok M R)) n l E) : CdN ro [] Q n (.region id l.toArray false) E M R :=
  ⟨fun w hw => ⟨fun a ha => wpIn_region_lit (wpListIn_of_quiet (C := Ok M R) (Q := fun a' => ∀ w', Ok M R w' → Q .normal a' w') (fun _ w' hw' h => h w' hw') l (fun o ho => List.all_eq_true.1 hn o ho) a w hw (by have := h.h a ha.toAg; simp only [Mode.run] at this; simpa using this))⟩⟩
theorem FinH.toN {e : Exit} (h : FinN [] Q n e E M R) : FinH Q n e E M R := ⟨fun w hw => ⟨fun a ha => (h.h w hw).h a (AgD.of ha)⟩⟩
theorem CdN.regionQq {id : Nat} {l : List Oper} (_ : (l.all fun o => isQ o.op) = true) (hn : (l.all fun o => nodef o.op) = true) (hB : Region.lexB .any l.toArray = true) (h : Ops G l.toArray (.quiet (fun a' => ∀ w', Ok M R w' → Q .normal a' w') (Ok M R)) n l E) : CdN ro [] Q n (.region id l.toArray true) E M R := CdN.regionQ hn hB h
theorem CdN.regionLq {id : Nat} {l : List Oper} (_ : (l.all fun o => isQ o.op) = true) (hn : (l.all fun o => nodef o.op) = true) (h : Ops G l.toArray (.quiet (fun a' => ∀ w', Ok M R w' → Q .normal a' w') (Ok M R)) n l E) : CdN ro [] Q n (.region id l.toArray false) E M R := CdN.regionL hn h
theorem wgm {g g' : Prop} (h : g') (hw : Hold g' → g := by (intro hk_; (repeat (first | (refine FinH.is ?_; refine FinH.toN ?_) | (refine Ops.is ?_; (first | (refine Ops.isG ?_; (first | refine Ops.gs rfl rfl rfl ?_ | refine Ops.gu rfl rfl ?_ | refine Ops.yg rfl (Yl.move rfl) rfl ?_ | refine Ops.yg rfl (Yl.assign rfl) rfl ?_ | (refine Ops.isBin ?_; (first | (refine Ops.isBin (bo := .lss) ?_; (first | refine Ops.yg rfl (Yl.lssT rfl rfl (by omega)) rfl ?_ | refine Ops.yg rfl (Yl.lssF rfl rfl (by omega)) rfl ?_)) | (refine Ops.isBin (bo := .eql) ?_; (first | refine Ops.yg rfl (Yl.eqlT rfl rfl (by omega)) rfl ?_ | refine Ops.yg rfl (Yl.eqlF rfl rfl (by omega)) rfl ?_)) | (refine Ops.isBin (bo := .neq) ?_; (first | refine Ops.yg rfl (Yl.neqT rfl rfl (by omega)) rfl ?_ | refine Ops.yg rfl (Yl.neqF rfl rfl (by omega)) rfl ?_)) | (refine Ops.isBin (bo := .leq) ?_; (first | refine Ops.yg rfl (Yl.leqT rfl rfl (by omega)) rfl ?_ | refine Ops.yg rfl (Yl.leqF rfl rfl (by omega)) rfl ?_)) | (refine Ops.isBin (bo := .gtr) ?_; (first | refine Ops.yg rfl (Yl.gtrT rfl rfl (by omega)) rfl ?_ | refine Ops.yg rfl (Yl.gtrF rfl rfl (by omega)) rfl ?_)) | (refine Ops.isBin (bo := .geq) ?_; (first | refine Ops.yg rfl (Yl.geqT rfl rfl (by omega)) rfl ?_ | refine Ops.yg rfl (Yl.geqF rfl rfl (by omega)) rfl ?_)) | refine Ops.yg rfl (Yl.add rfl rfl (by omega)) rfl ?_ | refine Ops.yg rfl (Yl.sub rfl rfl (by omega)) rfl ?_ | refine Ops.yg rfl (Yl.shr1 rfl rfl) rfl ?_ | refine Ops.yg rfl (Yl.eqNil rfl rfl rfl rfl) rfl ?_ | refine Ops.yg rfl (Yl.neqb Tryz.underlying4 rfl rfl) rfl ?_ | refine Ops.yg rfl (Yl.eqlb Tryz.underlying4 rfl rfl) rfl ?_ | refine Ops.yg rfl (Yl.eqS rfl rfl) rfl ?_ | refine Ops.yg rfl (Yl.neqS rfl rfl) rfl ?_ | refine Ops.yg rfl (Yl.addS rfl rfl (by omega)) rfl ?_ | refine Ops.yg rfl (Yl.addw rfl rfl) rfl ?_ | refine Ops.yg rfl (Yl.mulw rfl rfl) rfl ?_)) | (refine Ops.isField ?_; (first | refine Ops.yg rfl (Yl.fieldZ rfl rfl rfl) rfl ?_ | refine Ops.yg rfl (Yl.field0 rfl rfl rfl) rfl ?_ | refine Ops.yg rfl (Yl.field rfl rfl rfl) rfl ?_)) | (refine Ops.isLoad ?_; (first | refine Ops.yg rfl (Yl.loadH rfl rfl rfl (by intro w_; repeat (first | ((with_reducible apply Ld.blk); rfl) | (with_reducible exact Ld.cl) | ((with_reducible apply Ld.ent); with_reducible assumption) | (exact Ld.cs 0 rfl rfl) | (exact Ld.cs _ rfl rfl) | apply Ld.tailM | apply Ld.tailR))) rfl ?_ | refine Ops.yg rfl (Yl.loadB rfl rfl rfl rfl (by repeat (first | with_reducible exact Up.head | apply Up.tail))) rfl ?_ | refine Ops.yg rfl (Yl.loadP rfl rfl rfl rfl (by repeat (first | with_reducible exact Up.head | apply Up.tail)) (by repeat (first | exact SubT.zero | apply SubT.succ | apply SubC.here | apply SubC.drop))) rfl ?_ | refine Ops.yg rfl (Yl.loadC rfl rfl rfl (by repeat (first | with_reducible exact List.mem_cons_self | apply List.mem_cons_of_mem)) rfl) rfl ?_)) | (refine Ops.isIdx ?_; (first | refine Ops.yg rfl (Yl.idx1 rfl rfl rfl rfl rfl rfl (by omega)) rfl ?_ | refine Ops.yg rfl (Yl.idx rfl rfl rfl rfl rfl rfl (by omega)) rfl ?_)) | refine Ops.yg rfl (Yl.len rfl rfl rfl) rfl ?_ | refine Ops.yg rfl (Yl.extract rfl rfl) rfl ?_ | refine Ops.yg rfl (Yl.pickT rfl rfl) rfl ?_ | refine Ops.yg rfl (Yl.pickF rfl rfl) rfl ?_ | refine Ops.yg rfl (Yl.nilCheck rfl) rfl ?_ | refine Ops.yg rfl (Yl.not rfl) rfl ?_ | refine Ops.yg rfl (Yl.convI rfl rfl rfl rfl rfl (by omega)) rfl ?_ | refine Ops.yg rfl (Yl.convU rfl rfl rfl rfl rfl (by omega)) rfl ?_ | refine Ops.yg rfl (Yl.makeFunc rfl rfl) rfl ?_ | refine Ops.yg rfl (Yl.build0 rfl rfl) rfl ?_ | refine Ops.yg rfl (Yl.buildC rfl rfl rfl (by repeat (first | exact Cells.nil | exact App.nil | (with_reducible apply Cells.agg) | apply Cells.one | apply App.cons)) (by rfl)) rfl ?_ | refine Ops.yg rfl (Yl.buildF rfl rfl rfl (by repeat (first | exact fill0 | (apply fill1; rfl; rfl; rfl; (repeat (first | exact SetL.zero | apply SetL.succ)))))) rfl ?_ | refine Ops.yg rfl (Yl.buildP rfl rfl rfl rfl) rfl ?_ | refine Ops.yg rfl (Yl.sliceSHi Tryz.underlying9 rfl rfl rfl (by omega)) rfl ?_ | refine Ops.yg rfl (Yl.sliceSLo Tryz.underlying9 rfl rfl rfl (by omega)) rfl ?_ | refine Ops.yg rfl (Yl.sliceSLH Tryz.underlying9 rfl rfl rfl rfl rfl (by omega) (by omega)) rfl ?_ | refine Ops.yg rfl (Yl.sliceHi rfl rfl rfl rfl rfl rfl (by omega)) rfl ?_ | refine Ops.yg rfl (Yl.lenS Tryz.underlying9 rfl) rfl ?_)) | refine Ops.nilH ?_ | refine Ops.y (Yl.move rfl) rfl ?_ | refine Ops.y (Yl.assign rfl) rfl ?_ | (refine Ops.isBin ?_; (first | (refine Ops.isBin (bo := .lss) ?_; (first | refine Ops.y (Yl.lssT rfl rfl (by omega)) rfl ?_ | refine Ops.y (Yl.lssF rfl rfl (by omega)) rfl ?_)) | (refine Ops.isBin (bo := .eql) ?_; (first | refine Ops.y (Yl.eqlT rfl rfl (by omega)) rfl ?_ | refine Ops.y (Yl.eqlF rfl rfl (by omega)) rfl ?_)) | (refine Ops.isBin (bo := .neq) ?_; (first | refine Ops.y (Yl.neqT rfl rfl (by omega)) rfl ?_ | refine Ops.y (Yl.neqF rfl rfl (by omega)) rfl ?_)) | (refine Ops.isBin (bo := .leq) ?_; (first | refine Ops.y (Yl.leqT rfl rfl (by omega)) rfl ?_ | refine Ops.y (Yl.leqF rfl rfl (by omega)) rfl ?_)) | (refine Ops.isBin (bo := .gtr) ?_; (first | refine Ops.y (Yl.gtrT rfl rfl (by omega)) rfl ?_ | refine Ops.y (Yl.gtrF rfl rfl (by omega)) rfl ?_)) | (refine Ops.isBin (bo := .geq) ?_; (first | refine Ops.y (Yl.geqT rfl rfl (by omega)) rfl ?_ | refine Ops.y (Yl.geqF rfl rfl (by omega)) rfl ?_)) | refine Ops.y (Yl.add rfl rfl (by omega)) rfl ?_ | refine Ops.y (Yl.sub rfl rfl (by omega)) rfl ?_ | refine Ops.y (Yl.shr1 rfl rfl) rfl ?_ | refine Ops.y (Yl.eqNil rfl rfl rfl rfl) rfl ?_ | refine Ops.y (Yl.neqb Tryz.underlying4 rfl rfl) rfl ?_ | refine Ops.y (Yl.eqlb Tryz.underlying4 rfl rfl) rfl ?_ | refine Ops.y (Yl.eqS rfl rfl) rfl ?_ | refine Ops.y (Yl.neqS rfl rfl) rfl ?_ | refine Ops.y (Yl.addS rfl rfl (by omega)) rfl ?_ | refine Ops.y (Yl.addw rfl rfl) rfl ?_ | refine Ops.y (Yl.mulw rfl rfl) rfl ?_)) | (refine Ops.isField ?_; (first | refine Ops.y (Yl.fieldZ rfl rfl rfl) rfl ?_ | refine Ops.y (Yl.field0 rfl rfl rfl) rfl ?_ | refine Ops.y (Yl.field rfl rfl rfl) rfl ?_)) | (refine Ops.isLoad ?_; (first | refine Ops.y (Yl.loadH rfl rfl rfl (by intro w_; repeat (first | ((with_reducible apply Ld.blk); rfl) | (with_reducible exact Ld.cl) | ((with_reducible apply Ld.ent); with_reducible assumption) | (exact Ld.cs 0 rfl rfl) | (exact Ld.cs _ rfl rfl) | apply Ld.tailM | apply Ld.tailR))) rfl ?_ | refine Ops.y (Yl.loadB rfl rfl rfl rfl (by repeat (first | with_reducible exact Up.head | apply Up.tail))) rfl ?_ | refine Ops.y (Yl.loadP rfl rfl rfl rfl (by repeat (first | with_reducible exact Up.head | apply Up.tail)) (by repeat (first | exact SubT.zero | apply SubT.succ | apply SubC.here | apply SubC.drop))) rfl ?_ | refine Ops.y (Yl.loadC rfl rfl rfl (by repeat (first | with_reducible exact List.mem_cons_self | apply List.mem_cons_of_mem)) rfl) rfl ?_)) | (refine Ops.isIdx ?_; (first | refine Ops.y (Yl.idx1 rfl rfl rfl rfl rfl rfl (by omega)) rfl ?_ | refine Ops.y (Yl.idx rfl rfl rfl rfl rfl rfl (by omega)) rfl ?_)) | refine Ops.y (Yl.len rfl rfl rfl) rfl ?_ | refine Ops.y (Yl.extract rfl rfl) rfl ?_ | refine Ops.y (Yl.pickT rfl rfl) rfl ?_ | refine Ops.y (Yl.pickF rfl rfl) rfl ?_ | refine Ops.y (Yl.nilCheck rfl) rfl ?_ | refine Ops.y (Yl.not rfl) rfl ?_ | refine Ops.y (Yl.convI rfl rfl rfl rfl rfl (by omega)) rfl ?_ | refine Ops.y (Yl.convU rfl rfl rfl rfl rfl (by omega)) rfl ?_ | refine Ops.y (Yl.makeFunc rfl rfl) rfl ?_ | refine Ops.y (Yl.build0 rfl rfl) rfl ?_ | refine Ops.y (Yl.buildC rfl rfl rfl (by repeat (first | exact Cells.nil | exact App.nil | (with_reducible apply Cells.agg) | apply Cells.one | apply App.cons)) (by rfl)) rfl ?_ | refine Ops.y (Yl.buildF rfl rfl rfl (by repeat (first | exact fill0 | (apply fill1; rfl; rfl; rfl; (repeat (first | exact SetL.zero | apply SetL.succ)))))) rfl ?_ | refine Ops.y (Yl.buildP rfl rfl rfl rfl) rfl ?_ | refine Ops.y (Yl.sliceSHi Tryz.underlying9 rfl rfl rfl (by omega)) rfl ?_ | refine Ops.y (Yl.sliceSLo Tryz.underlying9 rfl rfl rfl (by omega)) rfl ?_ | refine Ops.y (Yl.sliceSLH Tryz.underlying9 rfl rfl rfl rfl rfl (by omega) (by omega)) rfl ?_ | refine Ops.y (Yl.sliceHi rfl rfl rfl rfl rfl rfl (by omega)) rfl ?_ | refine Ops.y (Yl.lenS Tryz.underlying9 rfl) rfl ?_)) | (refine OpsN.is ?_; (first | refine OpsN.nil ?_ | refine OpsN.y_ (Yl.move rfl) rfl ?_ | refine OpsN.y_ (Yl.assign rfl) rfl ?_ | (refine OpsN.isBin ?_; (first | (refine OpsN.isBin (bo := .lss) ?_; (first | refine OpsN.y_ (Yl.lssT rfl rfl (by omega)) rfl ?_ | refine OpsN.y_ (Yl.lssF rfl rfl (by omega)) rfl ?_)) | (refine OpsN.isBin (bo := .eql) ?_; (first | refine OpsN.y_ (Yl.eqlT rfl rfl (by omega)) rfl ?_ | refine OpsN.y_ (Yl.eqlF rfl rfl (by omega)) rfl ?_)) | (refine OpsN.isBin (bo := .neq) ?_; (first | refine OpsN.y_ (Yl.neqT rfl rfl (by omega)) rfl ?_ | refine OpsN.y_ (Yl.neqF rfl rfl (by omega)) rfl ?_)) | (refine OpsN.isBin (bo := .leq) ?_; (first | refine OpsN.y_ (Yl.leqT rfl rfl (by omega)) rfl ?_ | refine OpsN.y_ (Yl.leqF rfl rfl (by omega)) rfl ?_)) | (refine OpsN.isBin (bo := .gtr) ?_; (first | refine OpsN.y_ (Yl.gtrT rfl rfl (by omega)) rfl ?_ | refine OpsN.y_ (Yl.gtrF rfl rfl (by omega)) rfl ?_)) | (refine OpsN.isBin (bo := .geq) ?_; (first | refine OpsN.y_ (Yl.geqT rfl rfl (by omega)) rfl ?_ | refine OpsN.y_ (Yl.geqF rfl rfl (by omega)) rfl ?_)) | refine OpsN.y_ (Yl.add rfl rfl (by omega)) rfl ?_ | refine OpsN.y_ (Yl.sub rfl rfl (by omega)) rfl ?_ | refine OpsN.y_ (Yl.shr1 rfl rfl) rfl ?_ | refine OpsN.y_ (Yl.eqNil rfl rfl rfl rfl) rfl ?_ | refine OpsN.y_ (Yl.neqb Tryz.underlying4 rfl rfl) rfl ?_ | refine OpsN.y_ (Yl.eqlb Tryz.underlying4 rfl rfl) rfl ?_ | refine OpsN.y_ (Yl.eqS rfl rfl) rfl ?_ | refine OpsN.y_ (Yl.neqS rfl rfl) rfl ?_ | refine OpsN.y_ (Yl.addS rfl rfl (by omega)) rfl ?_ | refine OpsN.y_ (Yl.addw rfl rfl) rfl ?_ | refine OpsN.y_ (Yl.mulw rfl rfl) rfl ?_)) | (refine OpsN.isField ?_; (first | refine OpsN.y_ (Yl.fieldZ rfl rfl rfl) rfl ?_ | refine OpsN.y_ (Yl.field0 rfl rfl rfl) rfl ?_ | refine OpsN.y_ (Yl.field rfl rfl rfl) rfl ?_)) | (refine OpsN.isLoad ?_; (first | refine OpsN.y_ (Yl.loadH rfl rfl rfl (by intro w_; repeat (first | ((with_reducible apply Ld.blk); rfl) | (with_reducible exact Ld.cl) | ((with_reducible apply Ld.ent); with_reducible assumption) | (exact Ld.cs 0 rfl rfl) | (exact Ld.cs _ rfl rfl) | apply Ld.tailM | apply Ld.tailR))) rfl ?_ | refine OpsN.y_ (Yl.loadB rfl rfl rfl rfl (by repeat (first | with_reducible exact Up.head | apply Up.tail))) rfl ?_ | refine OpsN.y_ (Yl.loadP rfl rfl rfl rfl (by repeat (first | with_reducible exact Up.head | apply Up.tail)) (by repeat (first | exact SubT.zero | apply SubT.succ | apply SubC.here | apply SubC.drop))) rfl ?_ | refine OpsN.y_ (Yl.loadC rfl rfl rfl (by repeat (first | with_reducible exact List.mem_cons_self | apply List.mem_cons_of_mem)) rfl) rfl ?_)) | (refine OpsN.isIdx ?_; (first | refine OpsN.y_ (Yl.idx1 rfl rfl rfl rfl rfl rfl (by omega)) rfl ?_ | refine OpsN.y_ (Yl.idx rfl rfl rfl rfl rfl rfl (by omega)) rfl ?_)) | refine OpsN.y_ (Yl.len rfl rfl rfl) rfl ?_ | refine OpsN.y_ (Yl.extract rfl rfl) rfl ?_ | refine OpsN.y_ (Yl.pickT rfl rfl) rfl ?_ | refine OpsN.y_ (Yl.pickF rfl rfl) rfl ?_ | refine OpsN.y_ (Yl.nilCheck rfl) rfl ?_ | refine OpsN.y_ (Yl.not rfl) rfl ?_ | refine OpsN.y_ (Yl.convI rfl rfl rfl rfl rfl (by omega)) rfl ?_ | refine OpsN.y_ (Yl.convU rfl rfl rfl rfl rfl (by omega)) rfl ?_ | refine OpsN.y_ (Yl.makeFunc rfl rfl) rfl ?_ | refine OpsN.y_ (Yl.build0 rfl rfl) rfl ?_ | refine OpsN.y_ (Yl.buildC rfl rfl rfl (by repeat (first | exact Cells.nil | exact App.nil | (with_reducible apply Cells.agg) | apply Cells.one | apply App.cons)) (by rfl)) rfl ?_ | refine OpsN.y_ (Yl.buildF rfl rfl rfl (by repeat (first | exact fill0 | (apply fill1; rfl; rfl; rfl; (repeat (first | exact SetL.zero | apply SetL.succ)))))) rfl ?_ | refine OpsN.y_ (Yl.buildP rfl rfl rfl rfl) rfl ?_ | refine OpsN.y_ (Yl.sliceSHi Tryz.underlying9 rfl rfl rfl (by omega)) rfl ?_ | refine OpsN.y_ (Yl.sliceSLo Tryz.underlying9 rfl rfl rfl (by omega)) rfl ?_ | refine OpsN.y_ (Yl.sliceSLH Tryz.underlying9 rfl rfl rfl rfl rfl (by omega) (by omega)) rfl ?_ | refine OpsN.y_ (Yl.sliceHi rfl rfl rfl rfl rfl rfl (by omega)) rfl ?_ | refine OpsN.y_ (Yl.lenS Tryz.underlying9 rfl) rfl ?_)) | (refine CdN.is ?_; (first | refine CdN.seq ?_ | refine CdN.regionQq rfl rfl (by kernel_rfl) ?_ | refine CdN.regionLq rfl rfl ?_ | refine CdN.region ?_ | refine CdN.block ?_ | refine CdN.skip ?_ | refine CdN.ret ?_ | refine CdN.exit ?_ | refine CdN.condT rfl ?_ | refine CdN.condF rfl ?_)) | (refine FinN.is ?_; (first | refine FinN.thenN ?_ | refine FinN.blkN ?_ | refine FinN.thenR ?_ | refine FinN.blkR ?_ | refine FinN.thenX ?_ | refine FinN.blkX ?_ | refine FinN.blkY rfl ?_)))); exact hk_.out)) : g := hw ⟨h⟩
end

/-- the elements of a list, the last one first, with their places -/
def bwd (l : List Int) : List (Int × Int) := (List.range l.length).reverse.map fun i : Nat => ((i : Int), ix l i)
theorem bwd_len (l : List Int) : (bwd l).length = l.length := by simp [bwd]
theorem bwd_take {l : List Int} {k : Nat} (h : k < l.length) : (bwd l).take (k + 1) = (bwd l).take k ++ [(((l.length - 1 - k : Nat) : Int), ix l (l.length - 1 - k))] := by
  have hl : k < (bwd l).length := by rw [bwd_len]; exact h
  rw [List.take_succ_eq_append_getElem hl]
  congr 2
  simp [bwd, List.getElem_reverse]
/-- these blocks stay -/
def KD (K : Nat → Prop) (W W' : World) : Prop := W.heap.size ≤ W'.heap.size ∧ ∀ k, k < W.heap.size → K k → W'.heap[k]? = W.heap[k]?
theorem KD.trans {K : Nat → Prop} {X Y Z : World} (h : KD K X Y) (k : KD K Y Z) : KD K X Z := ⟨Nat.le_trans h.1 k.1, fun i hl hi => (k.2 i (Nat.lt_of_lt_of_le hl h.1) hi).trans (h.2 i hl hi)⟩
theorem KD.cell {K : Nat → Prop} {W W' : World} (h : KD K W W') {p : Addr} {v : Value} (hp : K p.block) (hc : W.cell? p = some v) : W'.cell? p = some v := by
  rw [World.cell?_of_block (w := W) (h.2 p.block (cell_lt hc) hp)]; exact hc
theorem KD.put {K : Nat → Prop} {W : World} {l : Nat} {o : Obj} (hK : ¬ K l) : KD K W (W.putObj l o) := ⟨by simp [World.putObj], fun k _ hk => World.putObj_heap_other (by rintro rfl; exact hK hk)⟩
def encB (x : Int × Int) : List Value := [.int .i64 x.1, .int .i64 x.2]
/-- a list that lies behind a variable -/
def RB (b1 : Nat) (p : Option Addr) (c : Nat) (l : List Int) (W : World) : Prop := W.cell? ⟨b1, 0, none⟩ = some (.slice p l.length c) ∧ ∀ i, i < l.length → ∃ b o, p = some ⟨b, o, none⟩ ∧ W.cell? ⟨b, o + i, none⟩ = some (.int .i64 (ix l i))
def KB (b1 : Nat) (p : Option Addr) (n : Nat) : Nat → Prop := fun k => k = b1 ∨ 0 < n ∧ ∃ a, p = some a ∧ a.block = k
theorem RB.kd {b1 : Nat} {p : Option Addr} {c : Nat} {l : List Int} {W W' : World} (h : RB b1 p c l W) (hk : KD (KB b1 p l.length) W W') : RB b1 p c l W' :=
  ⟨hk.cell (.inl rfl) h.1, fun i hi => by obtain ⟨b, o, e, hc⟩ := h.2 i hi; exact ⟨b, o, e, hk.cell (.inr ⟨by omega, _, e, rfl⟩) hc⟩⟩
theorem RB.ext {b1 : Nat} {p : Option Addr} {c : Nat} {l : List Int} {W W' : World} (h : RB b1 p c l W) (hk : Ext W W') : RB b1 p c l W' :=
  ⟨hk.cell h.1, fun i hi => by obtain ⟨b, o, e, hc⟩ := h.2 i hi; exact ⟨b, o, e, hk.cell hc⟩⟩
set_option maxHeartbeats 4000000 in
theorem bwd_seq (b1 : Nat) (p : Option Addr) (c : Nat) (l : List Int) (w0 : World) (h0 : RB b1 p c l w0) (hl : l.length ≤ 9223372036854775807) : SeqO 181 [.pointer (some ⟨b1, 0, none⟩)] encB (KD (KB b1 p l.length)) (bwd l) w0 := by
  intro ll J Jx W hW hJ hJx hY hJ0
  have hRW : RB b1 p c l W := h0.ext (Ext.ofBelow hW)
  refine enter (G := G) (l := [.func (.yield ll) #[] #[], .pointer (some ⟨b1, 0, none⟩)]) Tryz.func181 rfl Tryz.ntmps181 rfl ?_
  have hc1 := hRW.1
  refine wgy ?_
  refine Cd.loop (σ := Nat) (fun k => [(0, .func (.yield ll) #[] #[]), (1, .pointer (some ⟨b1, 0, none⟩)), (3, .int .i64 ((l.length : Int) - 1 - k))]) (fun k wr => k ≤ l.length ∧ J ((bwd l).take k) wr ∧ RB b1 p c l wr) (fun k => l.length - k) 0 wsub ⟨by omega, by rw [List.take_zero]; exact hJ0, hRW⟩ ?_
  rintro k wr ⟨hk, hJk, hR⟩
  by_cases hlt : k < l.length
  · obtain ⟨i, hi⟩ : ∃ i, i = l.length - 1 - k := ⟨_, rfl⟩
    have hil : i < l.length := by omega
    obtain ⟨b, o, rfl, hce⟩ := hR.2 i hil
    have hc2 := hR.1
    have e1 : (l.length : Int) - 1 - k = (i : Int) := by omega
    have hst := bwd_take hlt
    rw [← hi] at hst
    have hyk := hY ((bwd l).take k) ((i : Int), ix l i) wr hJk (by rw [← hst]; exact List.take_prefix _ _)
    rw [← hst] at hyk
    rw [e1]
    refine wgy ?_
    refine Cd.regionI 0 ?_
    refine wgi ?_
    refine OpsI.round (m := 0) (vs := encB ((i : Int), ix l i)) rfl rfl rfl hyk ?_
    rintro e w5 (⟨rfl, hJ5, hK5⟩ | ⟨rfl, hJx5, hK5⟩)
    · refine ⟨_, rfl, ?_⟩
      refine wgi ?_
      refine FinI.ofFin ?_
      refine wgy ?_
      exact Fin.next (k + 1) wsub ⟨by omega, hJ5, hR.kd hK5⟩ (by omega)
    · refine ⟨_, rfl, ?_⟩
      refine wgi ?_
      refine FinI.ofFin ?_
      refine wgy ?_
      exact Fin.ret0 rfl ⟨⟨_, rfl⟩, .inr ⟨_, List.take_prefix _ _, hJx5⟩⟩
  · obtain rfl : k = l.length := by omega
    rw [show (l.length : Int) - 1 - (l.length : Nat) = -1 from by omega]
    refine wgy ?_
    refine Fin.end0 rfl ⟨⟨_, rfl⟩, .inl ?_⟩
    rw [← bwd_len, List.take_length] at hJk; exact hJk
theorem slices_Backward (p : Option Addr) (n c : Nat) (w : World) : Calls G.P 157 #[.slice p n c] w fun e w' => e = .returned (.func (.func 181) #[] #[.pointer (some ⟨w.heap.size, 0, none⟩)]) ∧ New w w' [.slice p n c] 34 := by
  refine enter (G := G) Tryz.func157 rfl Tryz.ntmps157 rfl ?_
  refine wgx ?_
  refine Ops.e (Eff.box rfl rfl) rfl ?_
  rintro _ w1 ⟨rfl, hn1⟩
  refine wgx ?_
  exact Fin.ret1 rfl rfl ⟨rfl, hn1⟩
end Go.Proofs.YtgbgnipidakdhaaGreatDoor
