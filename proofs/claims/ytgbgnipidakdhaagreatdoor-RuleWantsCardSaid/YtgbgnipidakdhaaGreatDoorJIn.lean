/- A range over a function whose iterator may itself hold such a range: the invariants abide the turns of its records. -/
import Derived.Test.YtgbgnipidakdhaaGreatDoorJJ
import Derived.Test.YtgbgnipidakdhaaGreatDoorJMv
namespace Go.Proofs.YtgbgnipidakdhaaGreatDoor
open Go.RowKit
def SeqO {α : Type} (g : Nat) (lb : List Value) (encs : α → List Value) (Kp : World → World → Prop) (full : List α) (w : World) : Prop :=
  ∀ (l : Nat) (J Jx : List α → World → Prop) (W : World), Below w.heap.size w W → OwnFrom W.heap.size J → OwnFrom W.heap.size Jx →
    (∀ pre x W1, J pre W1 → pre ++ [x] <+: full → YieldAt (FW none) 0 G.P l (encs x).toArray W1 fun e W' =>
      (e = .returned (.bool true) ∧ J (pre ++ [x]) W' ∧ Kp W1 W') ∨ (e = .returned (.bool false) ∧ Jx (pre ++ [x]) W' ∧ Kp W1 W')) →
    J [] W → Calls G.P g (Value.func (.yield l) #[] #[] :: lb).toArray W fun e W' => (∃ v, e = .returned v) ∧ (J full W' ∨ (∃ pre, pre <+: full ∧ Jx pre W'))
structure KeepL (ps : Array Tmp) (B : Nat) (W W' : World) : Prop where
  size : W.heap.size ≤ W'.heap.size
  same : ∀ (k : Nat) (o : Obj), B ≤ k → W.heap[k]? = some o → ((∃ d, o = .deferred d) ∨ ∃ r, o = .loop r ∧ r.params = ps) → W'.heap[k]? = some o
def PostX {α : Type} (ps : Array Tmp) (B : Nat) (Kp : World → World → Prop) (I : List α → World → Prop) (Ix : Code → List α → World → Prop) (xs : List α) (W : World) : Exit → Act → World → Prop
  | .normal, _, W' => KeepL ps B W W' ∧ Kp W W' ∧ I xs W'
  | .ret, _, W' => KeepL ps B W W' ∧ Kp W W' ∧ Ix .ret xs W'
  | .exit id, _, W' => KeepL ps B W W' ∧ Kp W W' ∧ Ix (.exit id) xs W'
  | _, _, _ => False
section
variable {m : Nat} {D : List Deferred} {Q : Exit → Act → World → Prop} {n : Nat} {E : Env} {w : World}
theorem CdI.rangeO {α : Type} {g : Operand} {ps : List Nat} {assign body : Code} {gf : Nat} {lb : List Value} (hg : ev E g = some (.func (.func gf) #[] lb.toArray)) (hf : G.fb[gf]? = some true)
    {encs : α → List Value} {Kp : World → World → Prop} {full : List α} (hseq : SeqO gf lb encs Kp full w)
    (hKt : ∀ {A B C : World}, Kp A B → Kp B C → Kp A C) (hKb : ∀ (W : World) (l : Nat) (r r' : Loop), w.heap.size ≤ l → W.heap[l]? = some (.loop r) → r.params = ps.toArray → Kp W (W.putObj l (.loop r'))) (hps : ∀ x, (encs x).length = ps.length) (hpn : (ps.all fun p => Nat.blt p n) = true)
    (I : List α → World → Prop) (Ix : Code → List α → World → Prop) (hI : OwnFrom w.heap.size I) (hIx : ∀ c, OwnFrom w.heap.size (Ix c)) (h0 : I [] w) (E1 : α → Env)
    (hassign : ∀ (l : Nat) (x : α) (W : World) (K : Act → World → Prop), (∀ a, AgD n [] a (E1 x) → K a W) → CdI (some l) 0 [] (Exit.then K (fun _ _ _ => False)) n assign (putsE (ps.zip (encs x)) E) W)
    (hbody : ∀ (l : Nat) (pre : List α) (x : α) (W : World), I pre W → pre ++ [x] <+: full → CdI (some l) 0 [] (PostX ps.toArray w.heap.size Kp I Ix (pre ++ [x]) W) n body (E1 x) W)
    (hdone : ∀ (Dn : Nat) (W : World), w.heap.size ≤ Dn → I full W → W.heap[Dn]? = some (.deferred (some [])) → FinI ({ target := .collected Dn, args := #[] } :: D) Q n .normal E W)
    (hstop : ∀ (Dn : Nat) (c : Code) (pre : List α) (W : World), w.heap.size ≤ Dn → pre <+: full → Ix c pre W → W.heap[Dn]? = some (.deferred (some [])) → CdI none m ({ target := .collected Dn, args := #[] } :: D) Q n c E W) :
    CdI none m D Q n (.rangeFunc g ps.toArray assign body) E w := ⟨fun a ha => by
  refine wpIn_rangeFunc ?_
  intro fn _
  rw [show (FW none).round = none from rfl]
  obtain ⟨lr, hlr⟩ : ∃ lr : LoopState → Option Code → Loop, lr = fun st pe => { state := st, pending := pe, fn, tmps := a.tmps, params := ps.toArray, assign, body, defers := w.heap.size } := ⟨_, rfl⟩
  have hp : ∀ st pe, (lr st pe).params = ps.toArray := fun st pe => by rw [hlr]
  obtain ⟨W1, hW1⟩ : ∃ W1, (w.alloc (.deferred (some []))).alloc (.loop (lr .ready none)) = W1 := ⟨_, rfl⟩
  have hs1 : W1.heap.size = w.heap.size + 2 := by rw [← hW1]; simp
  have hL1 : W1.heap[w.heap.size + 1]? = some (.loop (lr .ready none)) := by
    rw [← hW1]; have := heap_alloc_new (w.alloc (.deferred (some []))) (.loop (lr .ready none)); simpa using this
  have hK1 : W1.heap[w.heap.size]? = some (.deferred (some [])) := by
    rw [← hW1]; exact (Below.heap_alloc _ _ _ (by simp)).trans (heap_alloc_new w _)
  have hI1 : I [] W1 := by rw [← hW1]; exact hI.alloc _ (hI.alloc _ h0)
  have hb1 : Below w.heap.size w W1 := by
    rw [← hW1]; exact ((Below.refl _ w).alloc (Nat.le_refl _) _).alloc (by simp) _
  refine ⟨w.heap.size + 1, [{ target := .collected w.heap.size, args := #[] }], W1, { target := .fn (.func gf) lb.toArray, args := #[.func (.yield (w.heap.size + 1)) #[] #[]] }, W1, gf,
    (Value.func (.yield (w.heap.size + 1)) #[] #[] :: lb).toArray, W1, ?_, ?_, fun _ _ => trivial, ?_, fun e => (by cases e), ?_⟩
  · rw [← hW1, hlr]; exact run_enterLoop_outer _ _ _ _ _
  · simp only [resolve, ha.eval hg]
    simp [go_sem]
  · simp [invoke, go_sem, G.fnOk gf hf]
  refine callsIn_wide.2 ((hseq (w.heap.size + 1)
      (fun pre W => I pre W ∧ W.heap[w.heap.size + 1]? = some (.loop (lr .ready none)) ∧ W.heap[w.heap.size]? = some (.deferred (some [])))
      (fun pre W => ∃ c, Ix c pre W ∧ W.heap[w.heap.size + 1]? = some (.loop (lr .done (some c))) ∧ W.heap[w.heap.size]? = some (.deferred (some [])))
      W1 hb1 ?_ ?_ ?_ ⟨hI1, hL1, hK1⟩).mono ?_)
  · rintro s A B row ⟨h1, h2, h3⟩ hg' hr
    refine ⟨hI s A B row h1 hg' fun r e => ⟨by have := (hr r e).1; omega, (hr r e).2⟩, ?_, ?_⟩
    · rw [hg'.block _ (Array.getElem?_eq_some_iff.1 h2).1 (fun e => by have := (hr _ e.symm).1; omega)]; exact h2
    · rw [hg'.block _ (Array.getElem?_eq_some_iff.1 h3).1 (fun e => by have := (hr _ e.symm).1; omega)]; exact h3
  · rintro s A B row ⟨c, h1, h2, h3⟩ hg' hr
    refine ⟨c, hIx c s A B row h1 hg' fun r e => ⟨by have := (hr r e).1; omega, (hr r e).2⟩, ?_, ?_⟩
    · rw [hg'.block _ (Array.getElem?_eq_some_iff.1 h2).1 (fun e => by have := (hr _ e.symm).1; omega)]; exact h2
    · rw [hg'.block _ (Array.getElem?_eq_some_iff.1 h3).1 (fun e => by have := (hr _ e.symm).1; omega)]; exact h3
  · rintro pre x W ⟨hi, hl, hk⟩ hlen
    have hlt : w.heap.size + 1 < W.heap.size := (Array.getElem?_eq_some_iff.1 hl).1
    have hy := run_yield (P := G.P) (args := (encs x).toArray) hl (by rw [hp]; simpa using hps x)
    have e : (ps.toArray.zip (encs x).toArray).foldl (fun t (p, v) => t.setIfInBounds p v) a.tmps = (ps.zip (encs x)).foldl (fun t pv => t.setIfInBounds pv.1 pv.2) a.tmps := by
      rw [← Array.foldl_toList]; simp
    have hst : (lr .ready none).state = .ready := by rw [hlr]
    refine ⟨(lr .ready none).fn, _, (lr .ready none).assign, (lr .ready none).body, hy, roundIn_of_wpIn trivial ?_⟩
    have hnew : (lr .ready none).assign = assign ∧ (lr .ready none).body = body ∧ (lr .ready none).tmps = a.tmps := by rw [hlr]; exact ⟨rfl, rfl, rfl⟩
    rw [hnew.1, hnew.2.1, hnew.2.2, hp, e]
    refine (hassign (w.heap.size + 1) x W _ (fun a' ha' => ?_)).h _ ⟨ag_puts _ ⟨ha.ag.sz, rfl, ha.ag.eq⟩ (fun pv hpv => ?_), rfl⟩
    · refine ⟨_, run_beginRound hl hst, ?_⟩
      have hl2 : (W.putObj (w.heap.size + 1) (.loop { lr .ready none with state := .busy })).heap[w.heap.size + 1]? = some (.loop { lr .ready none with state := .busy }) := World.putObj_heap_same hlt
      have hk2 : (W.putObj (w.heap.size + 1) (.loop { lr .ready none with state := .busy })).heap[w.heap.size]? = some (.deferred (some [])) := (World.putObj_heap_other (by omega)).trans hk
      have hw2 : Kp W (W.putObj (w.heap.size + 1) (.loop { lr .ready none with state := .busy })) := hKb _ _ _ _ (by omega) hl (hp _ _)
      refine wpIn_mono ((hbody (w.heap.size + 1) pre x _ (hI.putObj _ hi (by omega) hl rfl) hlen).h a' ha') ?_
      have fin : ∀ (jump : Option Code) (W3 : World), KeepL ps.toArray w.heap.size (W.putObj (w.heap.size + 1) (.loop { lr .ready none with state := .busy })) W3 →
          (Instr.endRound (w.heap.size + 1) jump).run G.P W3 = .ok (.bool jump.isNone) (W3.putObj (w.heap.size + 1) (.loop (lr (if jump.isNone then .ready else .done) jump))) ∧
          W3.heap[w.heap.size + 1]? = some (.loop { lr .ready none with state := .busy }) ∧
          (W3.putObj (w.heap.size + 1) (.loop (lr (if jump.isNone then .ready else .done) jump))).heap[w.heap.size + 1]? = some (.loop (lr (if jump.isNone then .ready else .done) jump)) ∧
          (W3.putObj (w.heap.size + 1) (.loop (lr (if jump.isNone then .ready else .done) jump))).heap[w.heap.size]? = some (.deferred (some [])) := fun jump W3 hk3 => by
        have hl3 := hk3.same _ _ (by omega) hl2 (.inr ⟨_, rfl, hp _ _⟩)
        have hr3 := run_endRound (P := G.P) jump hl3
        refine ⟨?_, hl3, World.putObj_heap_same (Array.getElem?_eq_some_iff.1 hl3).1, (World.putObj_heap_other (by omega)).trans (hk3.same _ _ (Nat.le_refl _) hk2 (.inl ⟨_, rfl⟩))⟩
        rw [hlr] at hr3 ⊢; exact hr3
      rintro e3 a3 W3 hpx
      cases e3 with
      | normal =>
        obtain ⟨hk3, hkp3, hi3⟩ := hpx
        obtain ⟨hr, hl3, hl4, hk4⟩ := fin none W3 hk3
        exact ⟨_, _, hr, .inl ⟨rfl, ⟨hI.putObj _ hi3 (by omega) hl3 rfl, hl4, hk4⟩, hKt (hKt hw2 hkp3) (hKb _ _ _ _ (by omega) hl3 (hp _ _))⟩⟩
      | ret =>
        obtain ⟨hk3, hkp3, hi3⟩ := hpx
        obtain ⟨hr, hl3, hl4, hk4⟩ := fin (some .ret) W3 hk3
        exact ⟨_, _, hr, .inr ⟨rfl, ⟨.ret, (hIx _).putObj _ hi3 (by omega) hl3 rfl, hl4, hk4⟩, hKt (hKt hw2 hkp3) (hKb _ _ _ _ (by omega) hl3 (hp _ _))⟩⟩
      | exit id =>
        obtain ⟨hk3, hkp3, hi3⟩ := hpx
        obtain ⟨hr, hl3, hl4, hk4⟩ := fin (some (.exit id)) W3 hk3
        exact ⟨_, _, hr, .inr ⟨rfl, ⟨.exit id, (hIx _).putObj _ hi3 (by omega) hl3 rfl, hl4, hk4⟩, hKt (hKt hw2 hkp3) (hKb _ _ _ _ (by omega) hl3 (hp _ _))⟩⟩
      | goto t => exact hpx.elim
      | panic ch => exact hpx.elim
      | outgrown => exact hpx.elim
    · have := List.all_eq_true.1 hpn pv.1 (List.of_mem_zip (show (pv.1, pv.2) ∈ _ from hpv)).1
      simpa using this
  · rintro e W2 ⟨⟨v, rfl⟩, (⟨hi, hl, hk⟩ | ⟨pre, hSp, c, hi, hl, hk⟩)⟩
    · refine ⟨none, _, by have := run_endLoop (P := G.P) hl (by rw [hlr]; simp); rw [hlr] at this; exact this, ?_⟩
      exact (hdone _ _ (Nat.le_refl _) (hI.putObj _ hi (by omega) hl rfl) ((World.putObj_heap_other (by omega)).trans hk)).h _ ⟨⟨ha.ag.sz, rfl, ha.ag.eq⟩, by simp [ha.df]⟩
    · refine ⟨some c, _, by have := run_endLoop (P := G.P) hl (by rw [hlr]; simp); rw [hlr] at this; exact this, ?_⟩
      exact (hstop _ c pre _ (Nat.le_refl _) hSp ((hIx c).putObj _ hi (by omega) hl rfl) ((World.putObj_heap_other (by omega)).trans hk)).h _ ⟨⟨ha.ag.sz, rfl, ha.ag.eq⟩, by simp [ha.df]⟩⟩
end
set_option maxRecDepth 100000
structure OpsN (ro : Option Nat) (D : List Deferred) (ops : Array Oper) (Q : Exit → Act → World → Prop) (n : Nat) (l : List Oper) (E : Env) (M : List Res) (R : List (World → Prop)) : Prop where
  h : ∀ w, Ok M R w → OpsI ro 0 D ops Q n l E w
structure CdN (ro : Option Nat) (D : List Deferred) (Q : Exit → Act → World → Prop) (n : Nat) (c : Code) (E : Env) (M : List Res) (R : List (World → Prop)) : Prop where
  h : ∀ w, Ok M R w → CdI ro 0 D Q n c E w
structure FinN (D : List Deferred) (Q : Exit → Act → World → Prop) (n : Nat) (e : Exit) (E : Env) (M : List Res) (R : List (World → Prop)) : Prop where
  h : ∀ w, Ok M R w → FinI D Q n e E w
section
variable {ro : Option Nat} {D : List Deferred} {ops : Array Oper} {Q : Exit → Act → World → Prop} {n : Nat} {E : Env} {M M' : List Res} {R R' : List (World → Prop)} {rest l : List Oper} {op : Op} {d : Nat} {ty : TypeId} {pos : String} {aft : Array Edge} {v : Value} {x y : Operand} {t t2 : TypeId} {gd : Option (Nat × Bool)} {dd : Option Nat}
theorem CdN.seq {x y : Code} (h : CdN ro D (Exit.then (y.wpIn (FW ro) 0 G.P Q) Q) n x E M R) : CdN ro D Q n (.seq x y) E M R := ⟨fun w hw => CdI.seq (h.h w hw)⟩
theorem CdN.block {id : Nat} {c : Code} (h : CdN ro D (Exit.inBlock id Q) n c E M R) : CdN ro D Q n (.block id c) E M R := ⟨fun w hw => CdI.block (h.h w hw)⟩
theorem CdN.skip (h : FinN D Q n .normal E M R) : CdN ro D Q n .skip E M R := ⟨fun w hw => CdI.skip (h.h w hw)⟩
theorem CdN.exit {id : Nat} (h : FinN D Q n (.exit id) E M R) : CdN ro D Q n (.exit id) E M R := ⟨fun w hw => CdI.exit (h.h w hw)⟩
theorem CdN.ret (h : FinN D Q n .ret E M R) : CdN ro D Q n .ret E M R := ⟨fun w hw => CdI.ret (h.h w hw)⟩
theorem CdN.region {id : Nat} {l : List Oper} (h : OpsN ro D l.toArray Q n l E M R) : CdN ro D Q n (.region id l.toArray false) E M R := ⟨fun w hw => CdI.region (h.h w hw)⟩
theorem CdN.condT {c : Operand} {x y : Code} (hc : ev E c = some (.bool true)) (h : CdN ro D Q n x E M R) : CdN ro D Q n (.cond c x y) E M R := ⟨fun w hw => CdI.condT hc (h.h w hw)⟩
theorem CdN.condF {c : Operand} {x y : Code} (hc : ev E c = some (.bool false)) (h : CdN ro D Q n y E M R) : CdN ro D Q n (.cond c x y) E M R := ⟨fun w hw => CdI.condF hc (h.h w hw)⟩
theorem FinN.thenN {y : Code} (h : CdN ro D Q n y E M R) : FinN D (Exit.then (y.wpIn (FW ro) 0 G.P Q) Q) n .normal E M R := ⟨fun w hw => FinI.thenN (h.h w hw)⟩
theorem FinN.thenR {K : Act → World → Prop} (h : FinN D Q n .ret E M R) : FinN D (Exit.then K Q) n .ret E M R := ⟨fun w hw => FinI.thenR (h.h w hw)⟩
theorem FinN.thenX {K : Act → World → Prop} {id : Nat} (h : FinN D Q n (.exit id) E M R) : FinN D (Exit.then K Q) n (.exit id) E M R := ⟨fun w hw => FinI.thenX (h.h w hw)⟩
theorem FinN.blkN {id : Nat} (h : FinN D Q n .normal E M R) : FinN D (Exit.inBlock id Q) n .normal E M R := ⟨fun w hw => FinI.blkN (h.h w hw)⟩
theorem FinN.blkR {id : Nat} (h : FinN D Q n .ret E M R) : FinN D (Exit.inBlock id Q) n .ret E M R := ⟨fun w hw => FinI.blkR (h.h w hw)⟩
theorem FinN.blkX {id : Nat} (h : FinN D Q n .normal E M R) : FinN D (Exit.inBlock id Q) n (.exit id) E M R := ⟨fun w hw => FinI.blkX (h.h w hw)⟩
theorem FinN.blkY {id id' : Nat} (hne : Nat.beq id' id = false) (h : FinN D Q n (.exit id') E M R) : FinN D (Exit.inBlock id Q) n (.exit id') E M R := ⟨fun w hw => FinI.blkY hne (h.h w hw)⟩
theorem OpsN.nil (h : FinN D Q n .normal E M R) : OpsN ro D ops Q n [] E M R := ⟨fun w hw => OpsI.nil (h.h w hw)⟩
theorem OpsN.y_ (hy : Yl G n op E (Ok M R) v) (hd : (isQ op && Nat.blt d n) = true) (h : OpsN ro D ops Q n rest ((d, v) :: E) M R) : OpsN ro D ops Q n (⟨some d, op, ty, pos, aft, none⟩ :: rest) E M R :=
  ⟨fun w hw => OpsI.y (hy.mono (by rintro _ rfl; exact hw)) hd (h.h w hw)⟩
section
variable {β : Type} {φ : β → Prop} {vf : β → Value} {Mf : β → List Res} {Rf : β → List (World → Prop)}
theorem OpsN.he (he : HE n op E M R φ vf Mf Rf) (hn : nodef op = true) (hd : Nat.blt d n = true) (h : ∀ x, φ x → OpsN ro D ops Q n rest ((d, vf x) :: E) (Mf x) (Rf x)) : OpsN ro D ops Q n (⟨some d, op, ty, pos, aft, none⟩ :: rest) E M R :=
  ⟨fun w hw => OpsI.e (he.h w hw) hn hd fun v w' ⟨x, h1, h2, h3⟩ => by subst h2; exact (h x h1).h w' h3⟩
theorem OpsN.he0 (he : HE0 n op E M R φ Mf Rf) (hn : nodef op = true) (h : ∀ x, φ x → OpsN ro D ops Q n rest E (Mf x) (Rf x)) : OpsN ro D ops Q n (⟨none, op, ty, pos, aft, none⟩ :: rest) E M R :=
  ⟨fun w hw => OpsI.e0 (he.h w hw) hn fun _ w' ⟨x, h1, h3⟩ => (h x h1).h w' h3⟩
end
theorem OpsN.is (h : OpsN ro D ops Q n l E M R) : OpsN ro D ops Q n l E M R := h
theorem CdN.is {c : Code} (h : CdN ro D Q n c E M R) : CdN ro D Q n c E M R := h
theorem FinN.is {e : Exit} (h : FinN D Q n e E M R) : FinN D Q n e E M R := h
theorem OpsN.isBin {bo : BinOp} (h : OpsN ro D ops Q n (⟨dd, .binOp bo t x y t2, ty, pos, aft, gd⟩ :: rest) E M R) : OpsN ro D ops Q n (⟨dd, .binOp bo t x y t2, ty, pos, aft, gd⟩ :: rest) E M R := h
theorem OpsN.isIdx (h : OpsN ro D ops Q n (⟨dd, .indexAddr t x y, ty, pos, aft, gd⟩ :: rest) E M R) : OpsN ro D ops Q n (⟨dd, .indexAddr t x y, ty, pos, aft, gd⟩ :: rest) E M R := h
theorem OpsN.isField {f : Nat} (h : OpsN ro D ops Q n (⟨dd, .fieldAddr t x f, ty, pos, aft, gd⟩ :: rest) E M R) : OpsN ro D ops Q n (⟨dd, .fieldAddr t x f, ty, pos, aft, gd⟩ :: rest) E M R := h
theorem OpsN.isLoad (h : OpsN ro D ops Q n (⟨dd, .load t x, ty, pos, aft, gd⟩ :: rest) E M R) : OpsN ro D ops Q n (⟨dd, .load t x, ty, pos, aft, gd⟩ :: rest) E M R := h
theorem wgn {g g' : Prop} (h : g') (hw : Hold g' → g := by (intro hk_; (repeat (first | (refine OpsN.is ?_; (first | refine OpsN.nil ?_ | refine OpsN.y_ (Yl.move rfl) rfl ?_ | refine OpsN.y_ (Yl.assign rfl) rfl ?_ | (refine OpsN.isBin ?_; (first | (refine OpsN.isBin (bo := .lss) ?_; (first | refine OpsN.y_ (Yl.lssT rfl rfl (by omega)) rfl ?_ | refine OpsN.y_ (Yl.lssF rfl rfl (by omega)) rfl ?_)) | (refine OpsN.isBin (bo := .eql) ?_; (first | refine OpsN.y_ (Yl.eqlT rfl rfl (by omega)) rfl ?_ | refine OpsN.y_ (Yl.eqlF rfl rfl (by omega)) rfl ?_)) | (refine OpsN.isBin (bo := .neq) ?_; (first | refine OpsN.y_ (Yl.neqT rfl rfl (by omega)) rfl ?_ | refine OpsN.y_ (Yl.neqF rfl rfl (by omega)) rfl ?_)) | (refine OpsN.isBin (bo := .leq) ?_; (first | refine OpsN.y_ (Yl.leqT rfl rfl (by omega)) rfl ?_ | refine OpsN.y_ (Yl.leqF rfl rfl (by omega)) rfl ?_)) | (refine OpsN.isBin (bo := .gtr) ?_; (first | refine OpsN.y_ (Yl.gtrT rfl rfl (by omega)) rfl ?_ | refine OpsN.y_ (Yl.gtrF rfl rfl (by omega)) rfl ?_)) | (refine OpsN.isBin (bo := .geq) ?_; (first | refine OpsN.y_ (Yl.geqT rfl rfl (by omega)) rfl ?_ | refine OpsN.y_ (Yl.geqF rfl rfl (by omega)) rfl ?_)) | refine OpsN.y_ (Yl.add rfl rfl (by omega)) rfl ?_ | refine OpsN.y_ (Yl.sub rfl rfl (by omega)) rfl ?_ | refine OpsN.y_ (Yl.shr1 rfl rfl) rfl ?_ | refine OpsN.y_ (Yl.eqNil rfl rfl rfl rfl) rfl ?_ | refine OpsN.y_ (Yl.neqb Tryz.underlying4 rfl rfl) rfl ?_ | refine OpsN.y_ (Yl.eqlb Tryz.underlying4 rfl rfl) rfl ?_ | refine OpsN.y_ (Yl.eqS rfl rfl) rfl ?_ | refine OpsN.y_ (Yl.neqS rfl rfl) rfl ?_ | refine OpsN.y_ (Yl.addS rfl rfl (by omega)) rfl ?_ | refine OpsN.y_ (Yl.addw rfl rfl) rfl ?_ | refine OpsN.y_ (Yl.mulw rfl rfl) rfl ?_)) | (refine OpsN.isField ?_; (first | refine OpsN.y_ (Yl.fieldZ rfl rfl rfl) rfl ?_ | refine OpsN.y_ (Yl.field0 rfl rfl rfl) rfl ?_ | refine OpsN.y_ (Yl.field rfl rfl rfl) rfl ?_)) | (refine OpsN.isLoad ?_; (first | refine OpsN.y_ (Yl.loadH rfl rfl rfl (by intro w_; repeat (first | ((with_reducible apply Ld.blk); rfl) | (with_reducible exact Ld.cl) | ((with_reducible apply Ld.ent); with_reducible assumption) | (exact Ld.cs 0 rfl rfl) | (exact Ld.cs _ rfl rfl) | apply Ld.tailM | apply Ld.tailR))) rfl ?_ | refine OpsN.y_ (Yl.loadB rfl rfl rfl rfl (by repeat (first | with_reducible exact Up.head | apply Up.tail))) rfl ?_ | refine OpsN.y_ (Yl.loadP rfl rfl rfl rfl (by repeat (first | with_reducible exact Up.head | apply Up.tail)) (by repeat (first | exact SubT.zero | apply SubT.succ | apply SubC.here | apply SubC.drop))) rfl ?_ | refine OpsN.y_ (Yl.loadC rfl rfl rfl (by repeat (first | with_reducible exact List.mem_cons_self | apply List.mem_cons_of_mem)) rfl) rfl ?_)) | (refine OpsN.isIdx ?_; (first | refine OpsN.y_ (Yl.idx1 rfl rfl rfl rfl rfl rfl (by omega)) rfl ?_ | refine OpsN.y_ (Yl.idx rfl rfl rfl rfl rfl rfl (by omega)) rfl ?_)) | refine OpsN.y_ (Yl.len rfl rfl rfl) rfl ?_ | refine OpsN.y_ (Yl.extract rfl rfl) rfl ?_ | refine OpsN.y_ (Yl.pickT rfl rfl) rfl ?_ | refine OpsN.y_ (Yl.pickF rfl rfl) rfl ?_ | refine OpsN.y_ (Yl.nilCheck rfl) rfl ?_ | refine OpsN.y_ (Yl.not rfl) rfl ?_ | refine OpsN.y_ (Yl.convI rfl rfl rfl rfl rfl (by omega)) rfl ?_ | refine OpsN.y_ (Yl.convU rfl rfl rfl rfl rfl (by omega)) rfl ?_ | refine OpsN.y_ (Yl.makeFunc rfl rfl) rfl ?_ | refine OpsN.y_ (Yl.build0 rfl rfl) rfl ?_ | refine OpsN.y_ (Yl.buildC rfl rfl rfl (by repeat (first | exact Cells.nil | exact App.nil | (with_reducible apply Cells.agg) | apply Cells.one | apply App.cons)) (by rfl)) rfl ?_ | refine OpsN.y_ (Yl.buildF rfl rfl rfl (by repeat (first | exact fill0 | (apply fill1; rfl; rfl; rfl; (repeat (first | exact SetL.zero | apply SetL.succ)))))) rfl ?_ | refine OpsN.y_ (Yl.buildP rfl rfl rfl rfl) rfl ?_ | refine OpsN.y_ (Yl.sliceSHi Tryz.underlying9 rfl rfl rfl (by omega)) rfl ?_ | refine OpsN.y_ (Yl.sliceSLo Tryz.underlying9 rfl rfl rfl (by omega)) rfl ?_ | refine OpsN.y_ (Yl.sliceSLH Tryz.underlying9 rfl rfl rfl rfl rfl (by omega) (by omega)) rfl ?_ | refine OpsN.y_ (Yl.sliceHi rfl rfl rfl rfl rfl rfl (by omega)) rfl ?_ | refine OpsN.y_ (Yl.lenS Tryz.underlying9 rfl) rfl ?_)) | (refine CdN.is ?_; (first | refine CdN.seq ?_ | refine CdN.region ?_ | refine CdN.block ?_ | refine CdN.skip ?_ | refine CdN.ret ?_ | refine CdN.exit ?_ | refine CdN.condT rfl ?_ | refine CdN.condF rfl ?_)) | (refine FinN.is ?_; (first | refine FinN.thenN ?_ | refine FinN.blkN ?_ | refine FinN.thenR ?_ | refine FinN.blkR ?_ | refine FinN.thenX ?_ | refine FinN.blkX ?_ | refine FinN.blkY rfl ?_)))); exact hk_.out)) : g := hw ⟨h⟩
theorem CdN.ofH {c : Code} (h : CdH Q n c E M R) : CdN none [] Q n c E M R := ⟨fun w hw => ⟨fun _ ha => wpIn_wide.2 ((h.h w hw).h _ ha.toAg)⟩⟩
theorem FinH.thenI {y : Code} (h : CdN none [] Q n y E M R) : FinH (Exit.then (y.wpIn (FW none) 0 G.P Q) Q) n .normal E M R := ⟨fun w hw => ⟨fun _ ha => ((h.h w hw).h _ (AgD.of ha))⟩⟩
theorem CdN.sub {c : Code} {E' : Env} (hE : Sub E E') (hM : M'.Sublist M) (hR : ∀ p, p ∈ R' → p ∈ R) (h : CdN ro D Q n c E' M' R') : CdN ro D Q n c E M R := ⟨fun w hw => ⟨fun a ha => ((h.h w (hw.sub hM hR)).h a (ha.sub hE))⟩⟩
theorem CdN.at {c : Code} {w : World} (hw : Ok M R w) (h : CdN ro D Q n c E M R) : CdI ro 0 D Q n c E w := h.h w hw
theorem FinN.at {e : Exit} {w : World} (hw : Ok M R w) (h : FinN D Q n e E M R) : FinI D Q n e E w := h.h w hw
theorem OpsN.pure {φ : Prop} (hp : ∀ w, Ok M R w → φ) (h : φ → OpsN ro D ops Q n l E M R) : OpsN ro D ops Q n l E M R := ⟨fun w hw => (h (hp w hw)).h w hw⟩
theorem enterN {f : FuncId} {fn : Func} {c : Code} {l : List Value} {w : World} {Rp : Ending → World → Prop} (hf : G.P.funcs[f]? = some fn) (hb : fn.body = some c) (hn : fn.ntmps = n) (hl : Nat.ble l.length n = true) (hw : Ok M R w)
    (h : CdN none [] (bodyPostM (FW none) 0 G.P fn Rp) n c (argE 0 l) M R) : Calls G.P f l.toArray w Rp := enterI 0 hf hb hn hl (h.h w hw)
end
theorem Ok.grow {M : List Res} {w0 W W' : World} {row : Option Nat} {B : Nat} (h : Ok M [Ext w0] W) (hB : w0.heap.size ≤ B) (hg : W.grownBy W' row) (hr : ∀ r, row = some r → B ≤ r ∧ ∃ o : Obj, W.heap[r]? = some o ∧ o.isCells = false) (hM : ∀ (r : Nat) (o : Obj), B ≤ r → W.heap[r]? = some o → o.isCells = false → ¬ Mb M r) : Ok M [Ext w0] W' := by
  have hc := Chg.ofGrown hg
  have hx : Ext w0 W := h.get (by simp)
  have hx' : Ext w0 W' := Chg.trans' hx hc (fun k hk e => by have := (hr k e).1; omega)
  refine ⟨fun q hq => ?_, h.d, fun p hp w2 h2 => ?_⟩
  · obtain ⟨h1, h2⟩ := h.m q hq
    refine ⟨q.st h1 hc fun k _ hk e => ?_, fun k hk => Nat.lt_of_lt_of_le (h2 k hk) hc.size⟩
    obtain ⟨h3, o, h4, h5⟩ := hr k e
    exact hM k o h3 h4 h5 ⟨q, hq, hk⟩
  · rw [List.mem_singleton] at hp
    subst hp
    exact Chg.trans' hx' h2 (fun k hk hm => absurd (h.origin (S := fun _ => False) (by simp []) k hm hk) id)
end Go.Proofs.YtgbgnipidakdhaaGreatDoor
