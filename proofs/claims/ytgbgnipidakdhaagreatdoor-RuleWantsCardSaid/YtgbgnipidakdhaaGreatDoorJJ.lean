/- The walk inside a fence: rounds of a range over a function, and functions that hold one. -/
import Derived.Test.YtgbgnipidakdhaaGreatDoorJE
import Derived.RangeFuncNested
import Derived.RangeFuncBound
import Derived.RangeFuncCalls
import Derived.RangeFuncLeaves
import Derived.RangeFuncFrom
namespace Go.Proofs.YtgbgnipidakdhaaGreatDoor
open Go.RowKit
def FW (ro : Option Nat) : Fence := { Fence.wide with round := ro }
theorem FW_calls {ro : Option Nat} {m : Nat} {f : FuncId} {args : Array Value} {w : World} {R : Ending → World → Prop} (h : Calls G.P f args w R) : CallsIn (FW ro) m G.P f args w R := by
  have h1 : CallsIn Fence.wide m G.P f args w R := callsIn_wide.2 h
  cases ro with
  | none => exact h1
  | some l => exact h1.inRound l
structure AgD (n : Nat) (D : List Deferred) (a : Act) (E : Env) : Prop where
  ag : Ag n { a with defers := [] } E
  df : a.defers = D
theorem AgD.of {n : Nat} {a : Act} {E : Env} (h : Ag n a E) : AgD n [] a E := ⟨⟨h.sz, rfl, h.eq⟩, h.df⟩
theorem AgD.toAg {n : Nat} {a : Act} {E : Env} (h : AgD n [] a E) : Ag n a E := ⟨h.ag.sz, h.df, h.ag.eq⟩
theorem evalD (a : Act) : ({ a with defers := [] } : Act).eval = a.eval := by funext x; cases x <;> rfl
theorem AgD.eval {n : Nat} {D : List Deferred} {a : Act} {E : Env} (h : AgD n D a E) {x : Operand} {v : Value} (hx : ev E x = some v) : a.eval x = v := by rw [← evalD]; exact h.ag.eval hx
theorem AgD.put {n : Nat} {D : List Deferred} {a : Act} {E : Env} (h : AgD n D a E) {d : Nat} (hd : d < n) (v : Value) : AgD n D (a.put (some d) v) ((d, v) :: E) := ⟨h.ag.put hd v, by simp [Act.put, h.df]⟩
theorem AgD.sub {n : Nat} {D : List Deferred} {a : Act} {E E' : Env} (h : AgD n D a E) (hs : Sub E E') : AgD n D a E' := ⟨h.ag.sub hs, h.df⟩
structure OpsI (ro : Option Nat) (m : Nat) (D : List Deferred) (ops : Array Oper) (Q : Exit → Act → World → Prop) (n : Nat) (l : List Oper) (E : Env) (w : World) : Prop where
  h : ∀ a, AgD n D a E → wpListIn (FW ro) m G.P ops Q l a w
structure CdI (ro : Option Nat) (m : Nat) (D : List Deferred) (Q : Exit → Act → World → Prop) (n : Nat) (c : Code) (E : Env) (w : World) : Prop where
  h : ∀ a, AgD n D a E → c.wpIn (FW ro) m G.P Q a w
structure FinI (D : List Deferred) (Q : Exit → Act → World → Prop) (n : Nat) (e : Exit) (E : Env) (w : World) : Prop where
  h : ∀ a, AgD n D a E → Q e a w
section
variable {ro : Option Nat} {m : Nat} {D : List Deferred} {Q : Exit → Act → World → Prop} {n : Nat} {E : Env} {w : World} {ops : Array Oper} {rest : List Oper} {op : Op} {d : Nat} {ty : TypeId} {pos : String} {aft : Array Edge} {v : Value} {K : Value → World → Prop}
theorem CdI.seq {x y : Code} (h : CdI ro m D (Exit.then (y.wpIn (FW ro) m G.P Q) Q) n x E w) : CdI ro m D Q n (.seq x y) E w := ⟨fun a ha => wpIn_seq (h.h a ha)⟩
theorem CdI.block {id : Nat} {c : Code} (h : CdI ro m D (Exit.inBlock id Q) n c E w) : CdI ro m D Q n (.block id c) E w := ⟨fun a ha => wpIn_block (h.h a ha)⟩
theorem CdI.skip (h : FinI D Q n .normal E w) : CdI ro m D Q n .skip E w := ⟨fun a ha => wpIn_skip (h.h a ha)⟩
theorem CdI.exit {id : Nat} (h : FinI D Q n (.exit id) E w) : CdI ro m D Q n (.exit id) E w := ⟨fun a ha => wpIn_exit (h.h a ha)⟩
theorem CdI.ret (h : FinI D Q n .ret E w) : CdI ro m D Q n .ret E w := ⟨fun a ha => wpIn_ret (h.h a ha)⟩
theorem CdI.region {id : Nat} {l : List Oper} (h : OpsI ro m D l.toArray Q n l E w) : CdI ro m D Q n (.region id l.toArray false) E w := ⟨fun a ha => wpIn_region_lit (h.h a ha)⟩
theorem CdI.condT {c : Operand} {x y : Code} (hc : ev E c = some (.bool true)) (h : CdI ro m D Q n x E w) : CdI ro m D Q n (.cond c x y) E w := ⟨fun a ha => wpIn_cond_true (ha.eval hc) (h.h a ha)⟩
theorem CdI.condF {c : Operand} {x y : Code} (hc : ev E c = some (.bool false)) (h : CdI ro m D Q n y E w) : CdI ro m D Q n (.cond c x y) E w := ⟨fun a ha => wpIn_cond_false (ha.eval hc) (h.h a ha)⟩
theorem FinI.thenN {y : Code} (h : CdI ro m D Q n y E w) : FinI D (Exit.then (y.wpIn (FW ro) m G.P Q) Q) n .normal E w := ⟨fun a ha => h.h a ha⟩
theorem FinI.thenK {K : Act → World → Prop} (h : ∀ a, AgD n D a E → K a w) : FinI D (Exit.then K Q) n .normal E w := ⟨fun a ha => h a ha⟩
theorem FinI.thenR {K : Act → World → Prop} (h : FinI D Q n .ret E w) : FinI D (Exit.then K Q) n .ret E w := ⟨fun a ha => h.h a ha⟩
theorem FinI.thenX {K : Act → World → Prop} {id : Nat} (h : FinI D Q n (.exit id) E w) : FinI D (Exit.then K Q) n (.exit id) E w := ⟨fun a ha => h.h a ha⟩
theorem FinI.blkN {id : Nat} (h : FinI D Q n .normal E w) : FinI D (Exit.inBlock id Q) n .normal E w := ⟨fun a ha => h.h a ha⟩
theorem FinI.blkR {id : Nat} (h : FinI D Q n .ret E w) : FinI D (Exit.inBlock id Q) n .ret E w := ⟨fun a ha => h.h a ha⟩
theorem FinI.blkX {id : Nat} (h : FinI D Q n .normal E w) : FinI D (Exit.inBlock id Q) n (.exit id) E w := ⟨fun a ha => by simp only [Exit.inBlock, if_true]; exact h.h a ha⟩
theorem FinI.blkY {id id' : Nat} (hne : Nat.beq id' id = false) (h : FinI D Q n (.exit id') E w) : FinI D (Exit.inBlock id Q) n (.exit id') E w := ⟨fun a ha => by
  have : id' ≠ id := fun e => by subst e; simp at hne
  simp only [Exit.inBlock, if_neg this]; exact h.h a ha⟩
theorem OpsI.nil (h : FinI D Q n .normal E w) : OpsI ro m D ops Q n [] E w := ⟨fun a ha => h.h a ha⟩
theorem wpI_cons {a : Act} {o : Oper} (hg : o.guard = none) (h : o.wpIn (FW ro) m G.P a w (wpListIn (FW ro) m G.P ops Q rest) Q) : wpListIn (FW ro) m G.P ops Q (o :: rest) a w := by
  have hw : Region.wanted o (yielded ops a.tmps) = true := by simp [Region.wanted, hg]
  show (if Region.wanted o (yielded ops a.tmps) then _ else _)
  rw [if_pos hw]; exact h
def nodef : Op → Bool
  | .defer _ => false
  | _ => true
theorem isQ_nodefer {op : Op} (h : isQ op = true) : ∀ c, op ≠ .defer c := by rintro c rfl; simp [isQ] at h
theorem OpsI.y (hy : Yl G n op E (fun w' => w' = w) v) (hd : (isQ op && Nat.blt d n) = true) (h : OpsI ro m D ops Q n rest ((d, v) :: E) w) : OpsI ro m D ops Q n (⟨some d, op, ty, pos, aft, none⟩ :: rest) E w := ⟨fun a ha => by
  rw [Bool.and_eq_true] at hd
  have hr := hy.h w rfl _ ha.ag (some d) ty pos aft none
  rw [evalD] at hr
  have hs : Oper.semAt (FW ro).round a.eval ⟨some d, op, ty, pos, aft, none⟩ = execOp a.eval ⟨some d, op, ty, pos, aft, none⟩ := Oper.semAt_eq _ _ _ (isQ_nodefer hd.1)
  refine wpI_cons rfl ⟨fun _ _ => trivial, ?_⟩
  rw [hs, hr]
  exact h.h _ (ha.put (by simpa using hd.2) v)⟩
theorem upon_eff {a : Act} {o : Oper} {next : Act → World → Prop} {r : Result Next} (h : effUp G.P (fun v w' => next (a.put o.dst v) w') r) : o.uponIn (FW ro) m G.P a next Q r := by
  cases r with
  | ok x w' =>
    cases x <;> simp only [effUp] at h
    case value v => exact h
    case skip => exact h
    case enter f args =>
      refine ⟨fun e => ?_, (FW_calls h).mono ?_⟩
      · cases e
      · rintro e w'' ⟨v, rfl, hv⟩; exact hv
  | halt x w' => exact h.elim
theorem OpsI.e (he : Eff G n op E w K) (hn : nodef op = true) (hd : Nat.blt d n = true) (h : ∀ v w', K v w' → OpsI ro m D ops Q n rest ((d, v) :: E) w') : OpsI ro m D ops Q n (⟨some d, op, ty, pos, aft, none⟩ :: rest) E w := ⟨fun a ha => by
  have hr := he.h _ ha.ag (some d) ty pos aft none
  rw [evalD] at hr
  have hs : Oper.semAt (FW ro).round a.eval ⟨some d, op, ty, pos, aft, none⟩ = execOp a.eval ⟨some d, op, ty, pos, aft, none⟩ := Oper.semAt_eq _ _ _ (by rintro c rfl; simp [nodef] at hn)
  refine wpI_cons rfl ⟨fun _ _ => trivial, ?_⟩
  rw [hs]
  exact upon_eff (effUp_mono hr (fun v w' hk => (h v w' hk).h _ (ha.put (by simpa using hd) v)))⟩
theorem OpsI.e0 (he : Eff G n op E w K) (hn : nodef op = true) (h : ∀ v w', K v w' → OpsI ro m D ops Q n rest E w') : OpsI ro m D ops Q n (⟨none, op, ty, pos, aft, none⟩ :: rest) E w := ⟨fun a ha => by
  have hr := he.h _ ha.ag none ty pos aft none
  rw [evalD] at hr
  have hs : Oper.semAt (FW ro).round a.eval ⟨none, op, ty, pos, aft, none⟩ = execOp a.eval ⟨none, op, ty, pos, aft, none⟩ := Oper.semAt_eq _ _ _ (by rintro c rfl; simp [nodef] at hn)
  refine wpI_cons rfl ⟨fun _ _ => trivial, ?_⟩
  rw [hs]
  exact upon_eff (effUp_mono hr (fun v w' hk => (h v w' hk).h a ha))⟩
theorem OpsI.round {l : Nat} {y : Operand} {args : List Operand} {tys : Array TypeId} {vs : List Value} {R : Ending → World → Prop} (hf : ev E y = some (.func (.yield l) #[] #[])) (ha : evs E args = some vs) (hd : Nat.blt d n = true)
    (hY : YieldAt (FW ro) (m - 1) G.P l vs.toArray w R) (h : ∀ e w', R e w' → ∃ v, e = .returned v ∧ OpsI ro m D ops Q n rest ((d, v) :: E) w') :
    OpsI ro m D ops Q n (⟨some d, .call ⟨.value y, args.toArray, tys⟩, ty, pos, aft, none⟩ :: rest) E w := ⟨fun a hag => by
  obtain ⟨fn, tmps, assign, body, hrun, hR⟩ := hY
  have e1 : args.map a.eval = vs := by rw [← evalD]; exact hag.ag.evals ha
  have hs : Oper.semAt (FW ro).round a.eval ⟨some d, .call ⟨.value y, args.toArray, tys⟩, ty, pos, aft, none⟩ = execOp a.eval ⟨some d, .call ⟨.value y, args.toArray, tys⟩, ty, pos, aft, none⟩ := Oper.semAt_eq _ _ _ (by rintro c e; cases e)
  refine wpI_cons rfl ⟨fun _ _ => trivial, ?_⟩
  have hx : (execOp a.eval ⟨some d, .call ⟨.value y, args.toArray, tys⟩, ty, pos, aft, none⟩).run G.P w = .ok (.round l fn tmps assign body) w := by
    simp [execOp, resolve, invoke, Deferred.ofValue, hag.eval hf, e1, hrun]
  rw [hs, hx]
  refine ⟨fun e => (by cases e), hR.mono ?_⟩
  rintro e w' hRe
  obtain ⟨v, rfl, hv⟩ := h e w' hRe
  exact hv.h _ (hag.put (by simpa using hd) v)⟩
theorem Cd.regionI {id : Nat} {l : List Oper} (m : Nat) (h : OpsI none m [] l.toArray Q n l E w) : Cd G Q n (.region id l.toArray false) E w := ⟨fun a ha => wpIn_wide.1 (wpIn_region_lit (h.h a (AgD.of ha)))⟩
def putsE (l : List (Nat × Value)) (E : Env) : Env := l.foldl (fun E pv => pv :: E) E
theorem ag_puts : ∀ (l : List (Nat × Value)) {t : Array Value} {E : Env}, Ag n ⟨t, []⟩ E → (∀ pv ∈ l, pv.1 < n) → Ag n ⟨l.foldl (fun t pv => t.setIfInBounds pv.1 pv.2) t, []⟩ (putsE l E)
  | [], _, _, h, _ => h
  | (p, v) :: r, t, E, h, hl => ag_puts r (t := t.setIfInBounds p v) (E := (p, v) :: E) (h.put (hl (p, v) (by simp)) v) (fun pv hp => hl pv (by simp [hp]))
theorem CdI.rangeFunc {α : Type} {g : Operand} {ps : List Nat} {assign body : Code} {gf : Nat} {lb : List Value} (hg : ev E g = some (.func (.func gf) #[] lb.toArray)) (hf : G.fb[gf]? = some true) (hm : 1 ≤ m)
    {encs : α → List Value} {Kp : World → World → Prop} {S Sp : List α → Prop} {N : Nat} (hseq : SeqStopsK (FW none) (m - 1) G.P gf lb.toArray (fun x => (encs x).toArray) Kp S Sp N w)
    (hKt : ∀ {A B C : World}, Kp A B → Kp B C → Kp A C) (hKb : ∀ (W : World) (l : Nat) (o o' : Obj), w.heap.size ≤ l → W.heap[l]? = some o → o.isCells = false → o.isWalk = false → Kp W (W.putObj l o')) (hKr : ∀ W, Kp W W) (hps : ∀ x, (encs x).length = ps.length) (hpn : (ps.all fun p => Nat.blt p n) = true)
    (I : List α → World → Prop) (Ix : Code → List α → World → Prop) (hI : OwnFrom w.heap.size I) (hIx : ∀ c, OwnFrom w.heap.size (Ix c)) (h0 : I [] w) (E1 : α → Env)
    (hassign : ∀ (l : Nat) (x : α) (W : World) (K : Act → World → Prop), (∀ a, AgD n [] a (E1 x) → K a W) → CdI (some l) (m - 1 - 1) [] (Exit.then K (fun _ _ _ => False)) n assign (putsE (ps.zip (encs x)) E) W)
    (hbody : ∀ (l : Nat) (pre : List α) (x : α) (W : World), I pre W → pre.length < N → CdI (some l) (m - 1 - 1) [] (ownPostG w.heap.size Kp I Ix (pre ++ [x]) W) n body (E1 x) W)
    (hdone : ∀ (Dn : Nat) (xs : List α) (W : World), w.heap.size ≤ Dn → S xs → I xs W → W.heap[Dn]? = some (.deferred (some [])) → FinI ({ target := .collected Dn, args := #[] } :: D) Q n .normal E W)
    (hstop : ∀ (Dn : Nat) (c : Code) (pre : List α) (W : World), w.heap.size ≤ Dn → Sp pre → Ix c pre W → W.heap[Dn]? = some (.deferred (some [])) → CdI none m ({ target := .collected Dn, args := #[] } :: D) Q n c E W) :
    CdI none m D Q n (.rangeFunc g ps.toArray assign body) E w := ⟨fun a ha => by
  refine wpIn_rangeFunc_ownH (F := FW none) rfl hm (ha.eval hg) trivial (G.fnOk gf hf) hseq hKt hKb (Below.refl _ _) (fun x => by simpa using hps x) I Ix hI hIx h0 (fun x a' _ => AgD n [] a' (E1 x)) (fun x a' _ W W' row h _ _ => h) ?_ ?_ ?_ ?_
  · intro l pre x W K hi hK
    refine (hassign l x W K (fun a' h' => hK a' W (KeepsFrom.refl _ _) (hKr W) hi h')).h _ ⟨?_, rfl⟩
    have e : (ps.toArray.zip (encs x).toArray).foldl (fun t (p, v) => t.setIfInBounds p v) a.tmps = (ps.zip (encs x)).foldl (fun t pv => t.setIfInBounds pv.1 pv.2) a.tmps := by
      rw [← Array.foldl_toList]; simp
    rw [e]
    refine ag_puts _ ⟨ha.ag.sz, rfl, ha.ag.eq⟩ (fun pv hp => ?_)
    have := List.all_eq_true.1 hpn pv.1 (List.of_mem_zip (show (pv.1, pv.2) ∈ _ from hp)).1
    simpa using this
  · intro l pre x a' W _ _ hi hax hN
    exact (hbody l pre x W hi hN).h a' hax
  · intro Dn xs W h1 h2 h3 h4
    exact (hdone Dn xs W h1 h2 h3 h4).h _ ⟨⟨ha.ag.sz, rfl, ha.ag.eq⟩, by simp [ha.df]⟩
  · intro Dn c pre W h1 h2 h3 h4
    exact (hstop Dn c pre W h1 h2 h3 h4).h _ ⟨⟨ha.ag.sz, rfl, ha.ag.eq⟩, by simp [ha.df]⟩⟩
theorem FinI.retM {fn : Func} {R : Ending → World → Prop} {e : Exit} {Dn : Nat} (he : e = .ret ∨ e = .normal) (hK : w.heap[Dn]? = some (.deferred (some [])))
    (hr : ∀ a, Ag n a E → (results fn a.tmps).run G.P (w.putObj Dn (.deferred none)) = .ok v (w.putObj Dn (.deferred none))) (hR : R (.returned v) (w.putObj Dn (.deferred none))) : FinI [{ target := .collected Dn, args := #[] }] (bodyPostM (FW none) m G.P fn R) n e E w := ⟨fun a ha => by
  have h1 := hr _ ha.ag
  have key : LeavesInM (FW none) m G.P fn a.tmps R a.defers .returning w := by
    rw [ha.df]
    exact ⟨by simp, .inl ⟨_, _, rfl, run_takeDeferred hK, ⟨v, h1, hR⟩⟩⟩
  rcases he with rfl | rfl <;> exact key⟩
theorem enterI {f : FuncId} {fn : Func} {c : Code} {l : List Value} {R : Ending → World → Prop} (m : Nat) (hf : G.P.funcs[f]? = some fn) (hb : fn.body = some c) (hn : fn.ntmps = n) (hl : Nat.ble l.length n = true)
    (h : CdI none m [] (bodyPostM (FW none) m G.P fn R) n c (argE 0 l) w) : Calls G.P f l.toArray w R := by
  refine callsIn_wide.1 (callsIn_of_wp_marks (F := Fence.wide) (n := m) hf hb trivial (h.h _ (AgD.of ?_)))
  have hl' : l.length ≤ n := Nat.le_of_ble_eq_true hl
  refine ⟨by simp [hn]; omega, rfl, fun t v ht => ?_⟩
  obtain ⟨_, h2⟩ := lk_argE l 0 t v ht
  rw [Nat.sub_zero] at h2
  obtain ⟨h3, h4⟩ := List.getElem?_eq_some_iff.1 h2
  refine ⟨by omega, ?_⟩
  have : t < (l.toArray ++ Array.replicate (fn.ntmps - l.toArray.size) undef).size := by simp; omega
  simp only [Array.getD, this, dite_true]
  rw [Array.getInternal_eq_getElem, Array.getElem_append_left (by simpa using h3)]
  simpa using h4
end
theorem FinI.ofFin {Q : Exit → Act → World → Prop} {n : Nat} {e : Exit} {E : Env} {w : World} (h : Fin Q n e E w) : FinI [] Q n e E w := ⟨fun a ha => h.h a ha.toAg⟩
def noVal : List Oper → Bool
  | [] => true
  | ⟨_, .call ⟨.value (.tmp _), _, _⟩, _, _, _, _⟩ :: _ => false
  | _ :: r => noVal r
theorem Cd.regionV {Q : Exit → Act → World → Prop} {n : Nat} {E : Env} {w : World} {id : Nat} {l : List Oper} (_ : noVal l = true) (h : Ops G l.toArray (.list Q w) n l E) : Cd G Q n (.region id l.toArray false) E w := Cd.region h
theorem wgy {g g' : Prop} (h : g') (hw : Hold g' → g := by (intro hk_; (repeat (first | (first | refine Ops.y (Yl.move rfl) rfl ?_ | refine Ops.y (Yl.assign rfl) rfl ?_ | (refine Ops.is ?_; (first | (refine Ops.isG ?_; (first | refine Ops.gs rfl rfl rfl ?_ | refine Ops.gu rfl rfl ?_ | refine Ops.yg rfl (Yl.move rfl) rfl ?_ | refine Ops.yg rfl (Yl.assign rfl) rfl ?_ | (refine Ops.isBin ?_; (first | (refine Ops.isBin (bo := .lss) ?_; (first | refine Ops.yg rfl (Yl.lssT rfl rfl (by omega)) rfl ?_ | refine Ops.yg rfl (Yl.lssF rfl rfl (by omega)) rfl ?_)) | (refine Ops.isBin (bo := .eql) ?_; (first | refine Ops.yg rfl (Yl.eqlT rfl rfl (by omega)) rfl ?_ | refine Ops.yg rfl (Yl.eqlF rfl rfl (by omega)) rfl ?_)) | (refine Ops.isBin (bo := .neq) ?_; (first | refine Ops.yg rfl (Yl.neqT rfl rfl (by omega)) rfl ?_ | refine Ops.yg rfl (Yl.neqF rfl rfl (by omega)) rfl ?_)) | (refine Ops.isBin (bo := .leq) ?_; (first | refine Ops.yg rfl (Yl.leqT rfl rfl (by omega)) rfl ?_ | refine Ops.yg rfl (Yl.leqF rfl rfl (by omega)) rfl ?_)) | (refine Ops.isBin (bo := .gtr) ?_; (first | refine Ops.yg rfl (Yl.gtrT rfl rfl (by omega)) rfl ?_ | refine Ops.yg rfl (Yl.gtrF rfl rfl (by omega)) rfl ?_)) | (refine Ops.isBin (bo := .geq) ?_; (first | refine Ops.yg rfl (Yl.geqT rfl rfl (by omega)) rfl ?_ | refine Ops.yg rfl (Yl.geqF rfl rfl (by omega)) rfl ?_)) | refine Ops.yg rfl (Yl.add rfl rfl (by omega)) rfl ?_ | refine Ops.yg rfl (Yl.sub rfl rfl (by omega)) rfl ?_ | refine Ops.yg rfl (Yl.shr1 rfl rfl) rfl ?_ | refine Ops.yg rfl (Yl.eqNil rfl rfl rfl rfl) rfl ?_ | refine Ops.yg rfl (Yl.neqb Tryz.underlying4 rfl rfl) rfl ?_ | refine Ops.yg rfl (Yl.eqlb Tryz.underlying4 rfl rfl) rfl ?_)) | (refine Ops.isField ?_; (first | refine Ops.yg rfl (Yl.field0 rfl rfl rfl) rfl ?_ | refine Ops.yg rfl (Yl.field rfl rfl rfl) rfl ?_)) | (refine Ops.isLoad ?_; (first | refine Ops.yg rfl (Yl.load rfl rfl rfl (by intro _ hw_; cases hw_; with_reducible assumption)) rfl ?_ | refine Ops.yg rfl (Yl.load rfl rfl rfl (ncell wraq)) rfl ?_ | refine Ops.yg rfl (Yl.load rfl rfl rfl (dcell wraq)) rfl ?_ | refine Ops.yg rfl (Yl.load rfl rfl rfl (scell wraq)) rfl ?_ | refine Ops.yg rfl (Yl.load rfl rfl rfl (ecell wraq)) rfl ?_ | refine Ops.yg rfl (Yl.load rfl rfl rfl wraq) rfl ?_)) | (refine Ops.isIdx ?_; (first | refine Ops.yg rfl (Yl.idx1 rfl rfl rfl rfl rfl rfl (by omega)) rfl ?_ | refine Ops.yg rfl (Yl.idx rfl rfl rfl rfl rfl rfl (by omega)) rfl ?_)) | refine Ops.yg rfl (Yl.len rfl rfl rfl) rfl ?_ | refine Ops.yg rfl (Yl.extract rfl rfl) rfl ?_ | refine Ops.yg rfl (Yl.pickT rfl rfl) rfl ?_ | refine Ops.yg rfl (Yl.pickF rfl rfl) rfl ?_ | refine Ops.yg rfl (Yl.nilCheck rfl) rfl ?_ | refine Ops.yg rfl (Yl.not rfl) rfl ?_ | refine Ops.yg rfl (Yl.convI rfl rfl rfl rfl rfl (by omega)) rfl ?_ | refine Ops.yg rfl (Yl.convU rfl rfl rfl rfl rfl (by omega)) rfl ?_ | refine Ops.yg rfl (Yl.makeFunc rfl rfl) rfl ?_)) | refine Ops.nil ?_ | refine Ops.nilT ?_ | refine Ops.nilM ?_ | (refine Ops.isBin ?_; (first | (refine Ops.isBin (bo := .lss) ?_; (first | refine Ops.y (Yl.lssT rfl rfl (by omega)) rfl ?_ | refine Ops.y (Yl.lssF rfl rfl (by omega)) rfl ?_)) | (refine Ops.isBin (bo := .eql) ?_; (first | refine Ops.y (Yl.eqlT rfl rfl (by omega)) rfl ?_ | refine Ops.y (Yl.eqlF rfl rfl (by omega)) rfl ?_)) | (refine Ops.isBin (bo := .neq) ?_; (first | refine Ops.y (Yl.neqT rfl rfl (by omega)) rfl ?_ | refine Ops.y (Yl.neqF rfl rfl (by omega)) rfl ?_)) | (refine Ops.isBin (bo := .leq) ?_; (first | refine Ops.y (Yl.leqT rfl rfl (by omega)) rfl ?_ | refine Ops.y (Yl.leqF rfl rfl (by omega)) rfl ?_)) | (refine Ops.isBin (bo := .gtr) ?_; (first | refine Ops.y (Yl.gtrT rfl rfl (by omega)) rfl ?_ | refine Ops.y (Yl.gtrF rfl rfl (by omega)) rfl ?_)) | (refine Ops.isBin (bo := .geq) ?_; (first | refine Ops.y (Yl.geqT rfl rfl (by omega)) rfl ?_ | refine Ops.y (Yl.geqF rfl rfl (by omega)) rfl ?_)) | refine Ops.y (Yl.add rfl rfl (by omega)) rfl ?_ | refine Ops.y (Yl.sub rfl rfl (by omega)) rfl ?_ | refine Ops.y (Yl.shr1 rfl rfl) rfl ?_ | refine Ops.y (Yl.eqNil rfl rfl rfl rfl) rfl ?_ | refine Ops.y (Yl.neqb Tryz.underlying4 rfl rfl) rfl ?_ | refine Ops.y (Yl.eqlb Tryz.underlying4 rfl rfl) rfl ?_)) | (refine Ops.isField ?_; (first | refine Ops.y (Yl.field0 rfl rfl rfl) rfl ?_ | refine Ops.y (Yl.field rfl rfl rfl) rfl ?_)) | (refine Ops.isLoad ?_; (first | refine Ops.y (Yl.load rfl rfl rfl (by intro _ hw_; cases hw_; with_reducible assumption)) rfl ?_ | refine Ops.y (Yl.load rfl rfl rfl (ncell wraq)) rfl ?_ | refine Ops.y (Yl.load rfl rfl rfl (dcell wraq)) rfl ?_ | refine Ops.y (Yl.load rfl rfl rfl (scell wraq)) rfl ?_ | refine Ops.y (Yl.load rfl rfl rfl (ecell wraq)) rfl ?_ | refine Ops.y (Yl.load rfl rfl rfl wraq) rfl ?_)) | (refine Ops.isIdx ?_; (first | refine Ops.y (Yl.idx1 rfl rfl rfl rfl rfl rfl (by omega)) rfl ?_ | refine Ops.y (Yl.idx rfl rfl rfl rfl rfl rfl (by omega)) rfl ?_)) | refine Ops.y (Yl.len rfl rfl rfl) rfl ?_ | refine Ops.y (Yl.extract rfl rfl) rfl ?_ | refine Ops.y (Yl.pickT rfl rfl) rfl ?_ | refine Ops.y (Yl.pickF rfl rfl) rfl ?_ | refine Ops.y (Yl.nilCheck rfl) rfl ?_ | refine Ops.y (Yl.not rfl) rfl ?_ | refine Ops.y (Yl.convI rfl rfl rfl rfl rfl (by omega)) rfl ?_ | refine Ops.y (Yl.convU rfl rfl rfl rfl rfl (by omega)) rfl ?_ | refine Ops.y (Yl.makeFunc rfl rfl) rfl ?_)) | (refine Cd.is ?_; (first | refine Cd.seq ?_ | refine Cd.regionV rfl ?_ | refine Cd.regionN (by kernel_rfl) ?_ | refine Cd.block ?_ | refine Cd.condT rfl ?_ | refine Cd.condF rfl ?_ | refine Cd.skip ?_ | refine Cd.scope ?_ | refine Cd.ret ?_ | refine Cd.exit ?_ | refine Cd.label ?_)) | (refine Fin.is ?_; (first | refine Fin.thenN ?_ | refine Fin.blkN ?_ | refine Fin.thenR ?_ | refine Fin.blkR ?_ | refine Fin.thenX ?_ | refine Fin.ngN ?_ | refine Fin.ngR ?_ | refine Fin.ngX ?_ | refine Fin.blkX ?_ | refine Fin.blkY rfl ?_))) | (refine Ops.is ?_; (first | (refine Ops.isG ?_; (first | (refine Ops.isBin ?_; (first | refine Ops.yg rfl (Yl.eqS rfl rfl) rfl ?_ | refine Ops.yg rfl (Yl.neqS rfl rfl) rfl ?_ | refine Ops.yg rfl (Yl.addS rfl rfl (by omega)) rfl ?_)) | refine Ops.yg rfl (Yl.buildP rfl rfl rfl rfl) rfl ?_ | refine Ops.yg rfl (Yl.sliceSHi Tryz.underlying9 rfl rfl rfl (by omega)) rfl ?_ | refine Ops.yg rfl (Yl.sliceSLo Tryz.underlying9 rfl rfl rfl (by omega)) rfl ?_ | refine Ops.yg rfl (Yl.sliceSLH Tryz.underlying9 rfl rfl rfl rfl rfl (by omega) (by omega)) rfl ?_ | refine Ops.yg rfl (Yl.sliceHi rfl rfl rfl rfl rfl rfl (by omega)) rfl ?_ | refine Ops.yg rfl (Yl.lenS Tryz.underlying9 rfl) rfl ?_)) | (refine Ops.isBin ?_; (first | refine Ops.y (Yl.eqS rfl rfl) rfl ?_ | refine Ops.y (Yl.neqS rfl rfl) rfl ?_ | refine Ops.y (Yl.addS rfl rfl (by omega)) rfl ?_)) | refine Ops.y (Yl.buildP rfl rfl rfl rfl) rfl ?_ | refine Ops.y (Yl.sliceSHi Tryz.underlying9 rfl rfl rfl (by omega)) rfl ?_ | refine Ops.y (Yl.sliceSLo Tryz.underlying9 rfl rfl rfl (by omega)) rfl ?_ | refine Ops.y (Yl.sliceSLH Tryz.underlying9 rfl rfl rfl rfl rfl (by omega) (by omega)) rfl ?_ | refine Ops.y (Yl.sliceHi rfl rfl rfl rfl rfl rfl (by omega)) rfl ?_ | refine Ops.y (Yl.lenS Tryz.underlying9 rfl) rfl ?_)))); exact hk_.out)) : g := hw ⟨h⟩
theorem wgi {g g' : Prop} (h : g') (hw : Hold g' → g := by (intro hk_; (repeat (first | refine OpsI.nil ?_ | refine OpsI.y (Yl.move rfl) rfl ?_ | refine OpsI.y (Yl.assign rfl) rfl ?_ | refine OpsI.y (Yl.lssT rfl rfl (by omega)) rfl ?_ | refine OpsI.y (Yl.lssF rfl rfl (by omega)) rfl ?_ | refine OpsI.y (Yl.eqlT rfl rfl (by omega)) rfl ?_ | refine OpsI.y (Yl.eqlF rfl rfl (by omega)) rfl ?_ | refine OpsI.y (Yl.neqT rfl rfl (by omega)) rfl ?_ | refine OpsI.y (Yl.neqF rfl rfl (by omega)) rfl ?_ | refine OpsI.y (Yl.leqT rfl rfl (by omega)) rfl ?_ | refine OpsI.y (Yl.leqF rfl rfl (by omega)) rfl ?_ | refine OpsI.y (Yl.gtrT rfl rfl (by omega)) rfl ?_ | refine OpsI.y (Yl.gtrF rfl rfl (by omega)) rfl ?_ | refine OpsI.y (Yl.geqT rfl rfl (by omega)) rfl ?_ | refine OpsI.y (Yl.geqF rfl rfl (by omega)) rfl ?_ | refine OpsI.y (Yl.add rfl rfl (by omega)) rfl ?_ | refine OpsI.y (Yl.sub rfl rfl (by omega)) rfl ?_ | refine OpsI.y (Yl.eqS rfl rfl) rfl ?_ | refine OpsI.y (Yl.neqS rfl rfl) rfl ?_ | refine OpsI.y (Yl.addS rfl rfl (by omega)) rfl ?_ | refine OpsI.y (Yl.field0 rfl rfl rfl) rfl ?_ | refine OpsI.y (Yl.field rfl rfl rfl) rfl ?_ | refine OpsI.y (Yl.load rfl rfl rfl (by intro _ hw_; cases hw_; with_reducible assumption)) rfl ?_ | refine OpsI.y (Yl.idx1 rfl rfl rfl rfl rfl rfl (by omega)) rfl ?_ | refine OpsI.y (Yl.idx rfl rfl rfl rfl rfl rfl (by omega)) rfl ?_ | refine OpsI.y (Yl.len rfl rfl rfl) rfl ?_ | refine OpsI.y (Yl.lenS Tryz.underlying9 rfl) rfl ?_ | refine OpsI.y (Yl.extract rfl rfl) rfl ?_ | refine OpsI.y (Yl.pickT rfl rfl) rfl ?_ | refine OpsI.y (Yl.pickF rfl rfl) rfl ?_ | refine OpsI.y (Yl.not rfl) rfl ?_ | refine OpsI.y (Yl.convI rfl rfl rfl rfl rfl (by omega)) rfl ?_ | refine CdI.seq ?_ | refine CdI.region ?_ | refine CdI.block ?_ | refine CdI.skip ?_ | refine CdI.ret ?_ | refine CdI.exit ?_ | refine CdI.condT rfl ?_ | refine CdI.condF rfl ?_ | refine FinI.thenN ?_ | refine FinI.blkN ?_ | refine FinI.thenR ?_ | refine FinI.blkR ?_ | refine FinI.thenX ?_ | refine FinI.blkX ?_ | refine FinI.blkY rfl ?_)); exact hk_.out)) : g := hw ⟨h⟩
end Go.Proofs.YtgbgnipidakdhaaGreatDoor
