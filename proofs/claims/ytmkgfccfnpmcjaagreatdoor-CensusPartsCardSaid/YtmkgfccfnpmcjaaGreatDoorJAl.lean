/- A range over a function whose iterator may itself hold such a range: the invariants abide the turns of its records. -/
import Derived.Test.YtmkgfccfnpmcjaaGreatDoorJJ
import Derived.Test.YtmkgfccfnpmcjaaGreatDoorJMv
import Derived.Test.YtmkgfccfnpmcjaaGreatDoorJH4
import Derived.Test.YtmkgfccfnpmcjaaGreatDoorJB3
namespace Go.Proofs.YtmkgfccfnpmcjaaGreatDoor
open Go.RowKit

/-- an iterator's contract: it gives the elements of a list -/
def SeqO {α : Type} (g : Nat) (lb : List Value) (encs : α → List Value) (Kp : World → World → Prop) (full : List α) (w : World) : Prop :=
  ∀ (l : Nat) (J Jx : List α → World → Prop) (W : World), Below w.heap.size w W → OwnFrom W.heap.size J → OwnFrom W.heap.size Jx →
    (∀ pre x W1, J pre W1 → pre ++ [x] <+: full → YieldAt (FW none) 0 G.P l (encs x).toArray W1 fun e W' =>
      (e = .returned (.bool true) ∧ J (pre ++ [x]) W' ∧ Kp W1 W') ∨ (e = .returned (.bool false) ∧ Jx (pre ++ [x]) W' ∧ Kp W1 W')) →
    J [] W → Calls G.P g (Value.func (.yield l) #[] #[] :: lb).toArray W fun e W' => (∃ v, e = .returned v) ∧ (J full W' ∨ (∃ pre, pre <+: full ∧ Jx pre W'))
/-- a round keeps the loop's own record and its mark -/
structure KeepL (ps : Array Tmp) (B : Nat) (W W' : World) : Prop where
  size : W.heap.size ≤ W'.heap.size
  same : ∀ (k : Nat) (o : Obj), B ≤ k → W.heap[k]? = some o → ((∃ d, o = .deferred d) ∨ ∃ r, o = .loop r ∧ r.params = ps) → W'.heap[k]? = some o
def PostX {α : Type} (ps : Array Tmp) (B : Nat) (Kp : World → World → Prop) (I : List α → World → Prop) (Ix : Code → List α → World → Prop) (xs : List α) (W : World) : Exit → Act → World → Prop
  | .normal, _, W' => KeepL ps B W W' ∧ Kp W W' ∧ I xs W'
  | .ret, _, W' => KeepL ps B W W' ∧ Kp W W' ∧ Ix .ret xs W'
  | .exit id, _, W' => KeepL ps B W W' ∧ Kp W W' ∧ Ix (.exit id) xs W'
  | _, _, _ => False
section
variable {m : Nat} {D : List Deferred} {Q : Exit → Act → World → Prop} {n : Nat} {E : Env} {w : World}
theorem CdI.rangeO {α : Type} {g : Operand} {ps : List Nat} {assign body : Code} {gf : Nat} {lb : List Value} (hg : ev E g = some (.func (.func gf) #[] lb.toArray)) (hf : G.fb[gf]? = some true)
    {encs : α → List Value} {Kp : World → World → Prop} {full : List α} (hseq : SeqO gf lb encs Kp full w)
    (hKt : ∀ {A B C : World}, Kp A B → Kp B C → Kp A C) (hKb : ∀ (W : World) (l : Nat) (r r' : Loop), w.heap.size ≤ l → W.heap[l]? = some (.loop r) → r.params = ps.toArray → Kp W (W.putObj l (.loop r'))) (hps : ∀ x, (encs x).length = ps.length) (hpn : (ps.all fun p => Nat.blt p n) = true)
    (I : List α → World → Prop) (Ix : Code → List α → World → Prop) (hI : OwnFrom w.heap.size I) (hIx : ∀ c, OwnFrom w.heap.size (Ix c)) (h0 : I [] w) (E1 : α → Env)
    (hassign : ∀ (l : Nat) (x : α) (W : World) (K : Act → World → Prop), (∀ a, AgD n [] a (E1 x) → K a W) → CdI (some l) 0 [] (Exit.then K (fun _ _ _ => False)) n assign (putsE (ps.zip (encs x)) E) W)
    (hbody : ∀ (l : Nat) (pre : List α) (x : α) (W : World), I pre W → pre ++ [x] <+: full → CdI (some l) 0 [] (PostX ps.toArray w.heap.size Kp I Ix (pre ++ [x]) W) n body (E1 x) W)
    (hdone : ∀ (Dn : Nat) (W : World), w.heap.size ≤ Dn → I full W → W.heap[Dn]? = some (.deferred (some [])) → FinI ({ target := .collected Dn, args := #[] } :: D) Q n .normal E W)
    (hstop : ∀ (Dn : Nat) (c : Code) (pre : List α) (W : World), w.heap.size ≤ Dn → pre <+: full → Ix c pre W → W.heap[Dn]? = some (.deferred (some [])) → CdI none m ({ target := .collected Dn, args := #[] } :: D) Q n c E W) :
    CdI none m D Q n (.rangeFunc g ps.toArray assign body) E w := ⟨fun a ha => by
  refine wpIn_rangeFunc ?_
  intro fn _
  rw [show (FW none).round = none from rfl]
  obtain ⟨lr, hlr⟩ : ∃ lr : LoopState → Option Code → Loop, lr = fun st pe => { state := st, pending := pe, fn, tmps := a.tmps, params := ps.toArray, assign, body, defers := w.heap.size } := ⟨_, rfl⟩
  have hp : ∀ st pe, (lr st pe).params = ps.toArray := fun st pe => by rw [hlr]
  obtain ⟨W1, hW1⟩ : ∃ W1, (w.alloc (.deferred (some []))).alloc (.loop (lr .ready none)) = W1 := ⟨_, rfl⟩
  have hs1 : W1.heap.size = w.heap.size + 2 := by rw [← hW1]; simp
  have hL1 : W1.heap[w.heap.size + 1]? = some (.loop (lr .ready none)) := by
    rw [← hW1]; have := heap_alloc_new (w.alloc (.deferred (some []))) (.loop (lr .ready none)); simpa using this
  have hK1 : W1.heap[w.heap.size]? = some (.deferred (some [])) := by
    rw [← hW1]; exact (Below.heap_alloc _ _ _ (by simp)).trans (heap_alloc_new w _)
  have hI1 : I [] W1 := by rw [← hW1]; exact hI.alloc _ (hI.alloc _ h0)
  have hb1 : Below w.heap.size w W1 := by
    rw [← hW1]; exact ((Below.refl _ w).alloc (Nat.le_refl _) _).alloc (by simp) _
  refine ⟨w.heap.size + 1, [{ target := .collected w.heap.size, args := #[] }], W1, { target := .fn (.func gf) lb.toArray, args := #[.func (.yield (w.heap.size + 1)) #[] #[]] }, W1, gf,
    (Value.func (.yield (w.heap.size + 1)) #[] #[] :: lb).toArray, W1, ?_, ?_, fun _ _ => trivial, ?_, fun e => (by cases e), ?_⟩
  · rw [← hW1, hlr]; exact run_enterLoop_outer _ _ _ _ _
  · simp only [resolve, ha.eval hg]
    simp [go_sem]
  · simp [invoke, go_sem, G.fnOk gf hf]
  refine callsIn_wide.2 ((hseq (w.heap.size + 1)
      (fun pre W => I pre W ∧ W.heap[w.heap.size + 1]? = some (.loop (lr .ready none)) ∧ W.heap[w.heap.size]? = some (.deferred (some [])))
      (fun pre W => ∃ c, Ix c pre W ∧ W.heap[w.heap.size + 1]? = some (.loop (lr .done (some c))) ∧ W.heap[w.heap.size]? = some (.deferred (some [])))
      W1 hb1 ?_ ?_ ?_ ⟨hI1, hL1, hK1⟩).mono ?_)
  · rintro s A B row ⟨h1, h2, h3⟩ hg' hr
    refine ⟨hI s A B row h1 hg' fun r e => ⟨by have := (hr r e).1; omega, (hr r e).2⟩, ?_, ?_⟩
    · rw [hg'.block _ (Array.getElem?_eq_some_iff.1 h2).1 (fun e => by have := (hr _ e.symm).1; omega)]; exact h2
    · rw [hg'.block _ (Array.getElem?_eq_some_iff.1 h3).1 (fun e => by have := (hr _ e.symm).1; omega)]; exact h3
  · rintro s A B row ⟨c, h1, h2, h3⟩ hg' hr
    refine ⟨c, hIx c s A B row h1 hg' fun r e => ⟨by have := (hr r e).1; omega, (hr r e).2⟩, ?_, ?_⟩
    · rw [hg'.block _ (Array.getElem?_eq_some_iff.1 h2).1 (fun e => by have := (hr _ e.symm).1; omega)]; exact h2
    · rw [hg'.block _ (Array.getElem?_eq_some_iff.1 h3).1 (fun e => by have := (hr _ e.symm).1; omega)]; exact h3
  · rintro pre x W ⟨hi, hl, hk⟩ hlen
    have hlt : w.heap.size + 1 < W.heap.size := (Array.getElem?_eq_some_iff.1 hl).1
    have hy := run_yield (P := G.P) (args := (encs x).toArray) hl (by rw [hp]; simpa using hps x)
    have e : (ps.toArray.zip (encs x).toArray).foldl (fun t (p, v) => t.setIfInBounds p v) a.tmps = (ps.zip (encs x)).foldl (fun t pv => t.setIfInBounds pv.1 pv.2) a.tmps := by
      rw [← Array.foldl_toList]; simp
    have hst : (lr .ready none).state = .ready := by rw [hlr]
    refine ⟨(lr .ready none).fn, _, (lr .ready none).assign, (lr .ready none).body, hy, roundIn_of_wpIn trivial ?_⟩
    have hnew : (lr .ready none).assign = assign ∧ (lr .ready none).body = body ∧ (lr .ready none).tmps = a.tmps := by rw [hlr]; exact ⟨rfl, rfl, rfl⟩
    rw [hnew.1, hnew.2.1, hnew.2.2, hp, e]
    refine (hassign (w.heap.size + 1) x W _ (fun a' ha' => ?_)).h _ ⟨ag_puts _ ⟨ha.ag.sz, rfl, ha.ag.eq⟩ (fun pv hpv => ?_), rfl⟩
    · refine ⟨_, run_beginRound hl hst, ?_⟩
      have hl2 : (W.putObj (w.heap.size + 1) (.loop { lr .ready none with state := .busy })).heap[w.heap.size + 1]? = some (.loop { lr .ready none with state := .busy }) := World.putObj_heap_same hlt
      have hk2 : (W.putObj (w.heap.size + 1) (.loop { lr .ready none with state := .busy })).heap[w.heap.size]? = some (.deferred (some [])) := (World.putObj_heap_other (by omega)).trans hk
      have hw2 : Kp W (W.putObj (w.heap.size + 1) (.loop { lr .ready none with state := .busy })) := hKb _ _ _ _ (by omega) hl (hp _ _)
      refine wpIn_mono ((hbody (w.heap.size + 1) pre x _ (hI.putObj _ hi (by omega) hl rfl) hlen).h a' ha') ?_
      have fin : ∀ (jump : Option Code) (W3 : World), KeepL ps.toArray w.heap.size (W.putObj (w.heap.size + 1) (.loop { lr .ready none with state := .busy })) W3 →
          (Instr.endRound (w.heap.size + 1) jump).run G.P W3 = .ok (.bool jump.isNone) (W3.putObj (w.heap.size + 1) (.loop (lr (if jump.isNone then .ready else .done) jump))) ∧
          W3.heap[w.heap.size + 1]? = some (.loop { lr .ready none with state := .busy }) ∧
          (W3.putObj (w.heap.size + 1) (.loop (lr (if jump.isNone then .ready else .done) jump))).heap[w.heap.size + 1]? = some (.loop (lr (if jump.isNone then .ready else .done) jump)) ∧
          (W3.putObj (w.heap.size + 1) (.loop (lr (if jump.isNone then .ready else .done) jump))).heap[w.heap.size]? = some (.deferred (some [])) := fun jump W3 hk3 => by
        have hl3 := hk3.same _ _ (by omega) hl2 (.inr ⟨_, rfl, hp _ _⟩)
        have hr3 := run_endRound (P := G.P) jump hl3
        refine ⟨?_, hl3, World.putObj_heap_same (Array.getElem?_eq_some_iff.1 hl3).1, (World.putObj_heap_other (by omega)).trans (hk3.same _ _ (Nat.le_refl _) hk2 (.inl ⟨_, rfl⟩))⟩
        rw [hlr] at hr3 ⊢; exact hr3
      rintro e3 a3 W3 hpx
      cases e3 with
      | normal =>
        obtain ⟨hk3, hkp3, hi3⟩ := hpx
        obtain ⟨hr, hl3, hl4, hk4⟩ := fin none W3 hk3
        exact ⟨_, _, hr, .inl ⟨rfl, ⟨hI.putObj _ hi3 (by omega) hl3 rfl, hl4, hk4⟩, hKt (hKt hw2 hkp3) (hKb _ _ _ _ (by omega) hl3 (hp _ _))⟩⟩
      | ret =>
        obtain ⟨hk3, hkp3, hi3⟩ := hpx
        obtain ⟨hr, hl3, hl4, hk4⟩ := fin (some .ret) W3 hk3
        exact ⟨_, _, hr, .inr ⟨rfl, ⟨.ret, (hIx _).putObj _ hi3 (by omega) hl3 rfl, hl4, hk4⟩, hKt (hKt hw2 hkp3) (hKb _ _ _ _ (by omega) hl3 (hp _ _))⟩⟩
      | exit id =>
        obtain ⟨hk3, hkp3, hi3⟩ := hpx
        obtain ⟨hr, hl3, hl4, hk4⟩ := fin (some (.exit id)) W3 hk3
        exact ⟨_, _, hr, .inr ⟨rfl, ⟨.exit id, (hIx _).putObj _ hi3 (by omega) hl3 rfl, hl4, hk4⟩, hKt (hKt hw2 hkp3) (hKb _ _ _ _ (by omega) hl3 (hp _ _))⟩⟩
      | goto t => exact hpx.elim
      | panic ch => exact hpx.elim
      | outgrown => exact hpx.elim
    · have := List.all_eq_true.1 hpn pv.1 (List.of_mem_zip (show (pv.1, pv.2) ∈ _ from hpv)).1
      simpa using this
  · rintro e W2 ⟨⟨v, rfl⟩, (⟨hi, hl, hk⟩ | ⟨pre, hSp, c, hi, hl, hk⟩)⟩
    · refine ⟨none, _, by have := run_endLoop (P := G.P) hl (by rw [hlr]; simp); rw [hlr] at this; exact this, ?_⟩
      exact (hdone _ _ (Nat.le_refl _) (hI.putObj _ hi (by omega) hl rfl) ((World.putObj_heap_other (by omega)).trans hk)).h _ ⟨⟨ha.ag.sz, rfl, ha.ag.eq⟩, by simp [ha.df]⟩
    · refine ⟨some c, _, by have := run_endLoop (P := G.P) hl (by rw [hlr]; simp); rw [hlr] at this; exact this, ?_⟩
      exact (hstop _ c pre _ (Nat.le_refl _) hSp ((hIx c).putObj _ hi (by omega) hl rfl) ((World.putObj_heap_other (by omega)).trans hk)).h _ ⟨⟨ha.ag.sz, rfl, ha.ag.eq⟩, by simp [ha.df]⟩⟩
end
end Go.Proofs.YtmkgfccfnpmcjaaGreatDoor
/- The symbolic heap inside a fence. -/
namespace Go.Proofs.YtmkgfccfnpmcjaaGreatDoor
open Go.RowKit
set_option maxRecDepth 100000

structure OpsN (ro : Option Nat) (D : List Deferred) (ops : Array Oper) (Q : Exit → Act → World → Prop) (n : Nat) (l : List Oper) (E : Env) (M : List Res) (R : List (World → Prop)) : Prop where
  h : ∀ w, Ok M R w → OpsI ro 0 D ops Q n l E w
structure CdN (ro : Option Nat) (D : List Deferred) (Q : Exit → Act → World → Prop) (n : Nat) (c : Code) (E : Env) (M : List Res) (R : List (World → Prop)) : Prop where
  h : ∀ w, Ok M R w → CdI ro 0 D Q n c E w
structure FinN (D : List Deferred) (Q : Exit → Act → World → Prop) (n : Nat) (e : Exit) (E : Env) (M : List Res) (R : List (World → Prop)) : Prop where
  h : ∀ w, Ok M R w → FinI D Q n e E w
section
variable {ro : Option Nat} {D : List Deferred} {ops : Array Oper} {Q : Exit → Act → World → Prop} {n : Nat} {E : Env} {M M' : List Res} {R R' : List (World → Prop)} {rest l : List Oper} {op : Op} {d : Nat} {ty : TypeId} {pos : String} {aft : Array Edge} {v : Value} {x y : Operand} {t t2 : TypeId} {gd : Option (Nat × Bool)} {dd : Option Nat}
theorem CdN.seq {x y : Code} (h : CdN ro D (Exit.then (y.wpIn (FW ro) 0 G.P Q) Q) n x E M R) : CdN ro D Q n (.seq x y) E M R := ⟨fun w hw => CdI.seq (h.h w hw)⟩
theorem CdN.block {id : Nat} {c : Code} (h : CdN ro D (Exit.inBlock id Q) n c E M R) : CdN ro D Q n (.block id c) E M R := ⟨fun w hw => CdI.block (h.h w hw)⟩
theorem CdN.skip (h : FinN D Q n .normal E M R) : CdN ro D Q n .skip E M R := ⟨fun w hw => CdI.skip (h.h w hw)⟩
theorem CdN.exit {id : Nat} (h : FinN D Q n (.exit id) E M R) : CdN ro D Q n (.exit id) E M R := ⟨fun w hw => CdI.exit (h.h w hw)⟩
theorem CdN.ret (h : FinN D Q n .ret E M R) : CdN ro D Q n .ret E M R := ⟨fun w hw => CdI.ret (h.h w hw)⟩
theorem CdN.region {id : Nat} {l : List Oper} (h : OpsN ro D l.toArray Q n l E M R) : CdN ro D Q n (.region id l.toArray false) E M R := ⟨fun w hw => CdI.region (h.h w hw)⟩
theorem CdN.condT {c : Operand} {x y : Code} (hc : ev E c = some (.bool true)) (h : CdN ro D Q n x E M R) : CdN ro D Q n (.cond c x y) E M R := ⟨fun w hw => CdI.condT hc (h.h w hw)⟩
theorem CdN.condF {c : Operand} {x y : Code} (hc : ev E c = some (.bool false)) (h : CdN ro D Q n y E M R) : CdN ro D Q n (.cond c x y) E M R := ⟨fun w hw => CdI.condF hc (h.h w hw)⟩
theorem FinN.thenN {y : Code} (h : CdN ro D Q n y E M R) : FinN D (Exit.then (y.wpIn (FW ro) 0 G.P Q) Q) n .normal E M R := ⟨fun w hw => FinI.thenN (h.h w hw)⟩
theorem FinN.thenR {K : Act → World → Prop} (h : FinN D Q n .ret E M R) : FinN D (Exit.then K Q) n .ret E M R := ⟨fun w hw => FinI.thenR (h.h w hw)⟩
theorem FinN.thenX {K : Act → World → Prop} {id : Nat} (h : FinN D Q n (.exit id) E M R) : FinN D (Exit.then K Q) n (.exit id) E M R := ⟨fun w hw => FinI.thenX (h.h w hw)⟩
theorem FinN.blkN {id : Nat} (h : FinN D Q n .normal E M R) : FinN D (Exit.inBlock id Q) n .normal E M R := ⟨fun w hw => FinI.blkN (h.h w hw)⟩
theorem FinN.blkR {id : Nat} (h : FinN D Q n .ret E M R) : FinN D (Exit.inBlock id Q) n .ret E M R := ⟨fun w hw => FinI.blkR (h.h w hw)⟩
theorem FinN.blkX {id : Nat} (h : FinN D Q n .normal E M R) : FinN D (Exit.inBlock id Q) n (.exit id) E M R := ⟨fun w hw => FinI.blkX (h.h w hw)⟩
theorem FinN.blkY {id id' : Nat} (hne : Nat.beq id' id = false) (h : FinN D Q n (.exit id') E M R) : FinN D (Exit.inBlock id Q) n (.exit id') E M R := ⟨fun w hw => FinI.blkY hne (h.h w hw)⟩
theorem OpsN.nil (h : FinN D Q n .normal E M R) : OpsN ro D ops Q n [] E M R := ⟨fun w hw => OpsI.nil (h.h w hw)⟩
theorem OpsN.y_ (hy : Yl G n op E (Ok M R) v) (hd : (isQ op && Nat.blt d n) = true) (h : OpsN ro D ops Q n rest ((d, v) :: E) M R) : OpsN ro D ops Q n (⟨some d, op, ty, pos, aft, none⟩ :: rest) E M R :=
  ⟨fun w hw => OpsI.y (hy.mono (by rintro _ rfl; exact hw)) hd (h.h w hw)⟩
section
variable {β : Type} {φ : β → Prop} {vf : β → Value} {Mf : β → List Res} {Rf : β → List (World → Prop)}
theorem OpsN.he (he : HE n op E M R φ vf Mf Rf) (hn : nodef op = true) (hd : Nat.blt d n = true) (h : ∀ x, φ x → OpsN ro D ops Q n rest ((d, vf x) :: E) (Mf x) (Rf x)) : OpsN ro D ops Q n (⟨some d, op, ty, pos, aft, none⟩ :: rest) E M R :=
  ⟨fun w hw => OpsI.e (he.h w hw) hn hd fun v w' ⟨x, h1, h2, h3⟩ => by subst h2; exact (h x h1).h w' h3⟩
theorem OpsN.he0 (he : HE0 n op E M R φ Mf Rf) (hn : nodef op = true) (h : ∀ x, φ x → OpsN ro D ops Q n rest E (Mf x) (Rf x)) : OpsN ro D ops Q n (⟨none, op, ty, pos, aft, none⟩ :: rest) E M R :=
  ⟨fun w hw => OpsI.e0 (he.h w hw) hn fun _ w' ⟨x, h1, h3⟩ => (h x h1).h w' h3⟩
end
theorem OpsN.is (h : OpsN ro D ops Q n l E M R) : OpsN ro D ops Q n l E M R := h
theorem CdN.is {c : Code} (h : CdN ro D Q n c E M R) : CdN ro D Q n c E M R := h
theorem FinN.is {e : Exit} (h : FinN D Q n e E M R) : FinN D Q n e E M R := h
theorem OpsN.isBin {bo : BinOp} (h : OpsN ro D ops Q n (⟨dd, .binOp bo t x y t2, ty, pos, aft, gd⟩ :: rest) E M R) : OpsN ro D ops Q n (⟨dd, .binOp bo t x y t2, ty, pos, aft, gd⟩ :: rest) E M R := h
theorem OpsN.isIdx (h : OpsN ro D ops Q n (⟨dd, .indexAddr t x y, ty, pos, aft, gd⟩ :: rest) E M R) : OpsN ro D ops Q n (⟨dd, .indexAddr t x y, ty, pos, aft, gd⟩ :: rest) E M R := h
theorem OpsN.isField {f : Nat} (h : OpsN ro D ops Q n (⟨dd, .fieldAddr t x f, ty, pos, aft, gd⟩ :: rest) E M R) : OpsN ro D ops Q n (⟨dd, .fieldAddr t x f, ty, pos, aft, gd⟩ :: rest) E M R := h
theorem OpsN.isLoad (h : OpsN ro D ops Q n (⟨dd, .load t x, ty, pos, aft, gd⟩ :: rest) E M R) : OpsN ro D ops Q n (⟨dd, .load t x, ty, pos, aft, gd⟩ :: rest) E M R := h
theorem wgn {g g' : Prop} (h : g') (hw : Hold g' → g := by (intro hk_; (repeat (first | (refine OpsN.is ?_; (first | refine OpsN.nil ?_ | refine OpsN.y_ (Yl.move rfl) rfl ?_ | refine OpsN.y_ (Yl.assign rfl) rfl ?_ | (refine OpsN.isBin ?_; (first | (refine OpsN.isBin (bo := .lss) ?_; (first | refine OpsN.y_ (Yl.lssT rfl rfl (by omega)) rfl ?_ | refine OpsN.y_ (Yl.lssF rfl rfl (by omega)) rfl ?_)) | (refine OpsN.isBin (bo := .eql) ?_; (first | refine OpsN.y_ (Yl.eqlT rfl rfl (by omega)) rfl ?_ | refine OpsN.y_ (Yl.eqlF rfl rfl (by omega)) rfl ?_)) | (refine OpsN.isBin (bo := .neq) ?_; (first | refine OpsN.y_ (Yl.neqT rfl rfl (by omega)) rfl ?_ | refine OpsN.y_ (Yl.neqF rfl rfl (by omega)) rfl ?_)) | (refine OpsN.isBin (bo := .leq) ?_; (first | refine OpsN.y_ (Yl.leqT rfl rfl (by omega)) rfl ?_ | refine OpsN.y_ (Yl.leqF rfl rfl (by omega)) rfl ?_)) | (refine OpsN.isBin (bo := .gtr) ?_; (first | refine OpsN.y_ (Yl.gtrT rfl rfl (by omega)) rfl ?_ | refine OpsN.y_ (Yl.gtrF rfl rfl (by omega)) rfl ?_)) | (refine OpsN.isBin (bo := .geq) ?_; (first | refine OpsN.y_ (Yl.geqT rfl rfl (by omega)) rfl ?_ | refine OpsN.y_ (Yl.geqF rfl rfl (by omega)) rfl ?_)) | refine OpsN.y_ (Yl.add rfl rfl (by omega)) rfl ?_ | refine OpsN.y_ (Yl.sub rfl rfl (by omega)) rfl ?_ | refine OpsN.y_ (Yl.shr1 rfl rfl) rfl ?_ | refine OpsN.y_ (Yl.eqNil rfl rfl rfl rfl) rfl ?_ | refine OpsN.y_ (Yl.neqb Tryz.underlying4 rfl rfl) rfl ?_ | refine OpsN.y_ (Yl.eqlb Tryz.underlying4 rfl rfl) rfl ?_ | refine OpsN.y_ (Yl.eqS rfl rfl) rfl ?_ | refine OpsN.y_ (Yl.neqS rfl rfl) rfl ?_ | refine OpsN.y_ (Yl.addS rfl rfl (by omega)) rfl ?_ | refine OpsN.y_ (Yl.addw rfl rfl) rfl ?_ | refine OpsN.y_ (Yl.mulw rfl rfl) rfl ?_)) | (refine OpsN.isField ?_; (first | refine OpsN.y_ (Yl.fieldZ rfl rfl rfl) rfl ?_ | refine OpsN.y_ (Yl.field0 rfl rfl rfl) rfl ?_ | refine OpsN.y_ (Yl.field rfl rfl rfl) rfl ?_)) | (refine OpsN.isLoad ?_; (first | refine OpsN.y_ (Yl.loadH rfl rfl rfl (by intro w_; repeat (first | ((with_reducible apply Ld.blk); rfl) | (with_reducible exact Ld.cl) | ((with_reducible apply Ld.ent); with_reducible assumption) | (exact Ld.cs 0 rfl rfl) | (exact Ld.cs _ rfl rfl) | apply Ld.tailM | apply Ld.tailR))) rfl ?_ | refine OpsN.y_ (Yl.loadB rfl rfl rfl rfl (by repeat (first | with_reducible exact Up.head | apply Up.tail))) rfl ?_ | refine OpsN.y_ (Yl.loadP rfl rfl rfl rfl (by repeat (first | with_reducible exact Up.head | apply Up.tail)) (by repeat (first | exact SubT.zero | apply SubT.succ | apply SubC.here | apply SubC.drop))) rfl ?_ | refine OpsN.y_ (Yl.loadC rfl rfl rfl (by repeat (first | with_reducible exact List.mem_cons_self | apply List.mem_cons_of_mem)) rfl) rfl ?_)) | (refine OpsN.isIdx ?_; (first | refine OpsN.y_ (Yl.idx1 rfl rfl rfl rfl rfl rfl (by omega)) rfl ?_ | refine OpsN.y_ (Yl.idx rfl rfl rfl rfl rfl rfl (by omega)) rfl ?_)) | refine OpsN.y_ (Yl.len rfl rfl rfl) rfl ?_ | refine OpsN.y_ (Yl.extract rfl rfl) rfl ?_ | refine OpsN.y_ (Yl.pickT rfl rfl) rfl ?_ | refine OpsN.y_ (Yl.pickF rfl rfl) rfl ?_ | refine OpsN.y_ (Yl.nilCheck rfl) rfl ?_ | refine OpsN.y_ (Yl.not rfl) rfl ?_ | refine OpsN.y_ (Yl.convI rfl rfl rfl rfl rfl (by omega)) rfl ?_ | refine OpsN.y_ (Yl.convU rfl rfl rfl rfl rfl (by omega)) rfl ?_ | refine OpsN.y_ (Yl.makeFunc rfl rfl) rfl ?_ | refine OpsN.y_ (Yl.build0 rfl rfl) rfl ?_ | refine OpsN.y_ (Yl.buildC rfl rfl rfl (by repeat (first | exact Cells.nil | exact App.nil | (with_reducible apply Cells.agg) | apply Cells.one | apply App.cons)) (by rfl)) rfl ?_ | refine OpsN.y_ (Yl.buildF rfl rfl rfl (by repeat (first | exact fill0 | (apply fill1; rfl; rfl; rfl; (repeat (first | exact SetL.zero | apply SetL.succ)))))) rfl ?_ | refine OpsN.y_ (Yl.buildP rfl rfl rfl rfl) rfl ?_ | refine OpsN.y_ (Yl.sliceSHi Tryz.underlying9 rfl rfl rfl (by omega)) rfl ?_ | refine OpsN.y_ (Yl.sliceSLo Tryz.underlying9 rfl rfl rfl (by omega)) rfl ?_ | refine OpsN.y_ (Yl.sliceSLH Tryz.underlying9 rfl rfl rfl rfl rfl (by omega) (by omega)) rfl ?_ | refine OpsN.y_ (Yl.sliceHi rfl rfl rfl rfl rfl rfl (by omega)) rfl ?_ | refine OpsN.y_ (Yl.lenS Tryz.underlying9 rfl) rfl ?_)) | (refine CdN.is ?_; (first | refine CdN.seq ?_ | refine CdN.region ?_ | refine CdN.block ?_ | refine CdN.skip ?_ | refine CdN.ret ?_ | refine CdN.exit ?_ | refine CdN.condT rfl ?_ | refine CdN.condF rfl ?_)) | (refine FinN.is ?_; (first | refine FinN.thenN ?_ | refine FinN.blkN ?_ | refine FinN.thenR ?_ | refine FinN.blkR ?_ | refine FinN.thenX ?_ | refine FinN.blkX ?_ | refine FinN.blkY rfl ?_)))); exact hk_.out)) : g := hw ⟨h⟩
/-- a piece that is walked plainly -/
theorem CdN.ofH {c : Code} (h : CdH Q n c E M R) : CdN none [] Q n c E M R := ⟨fun w hw => ⟨fun _ ha => wpIn_wide.2 ((h.h w hw).h _ ha.toAg)⟩⟩
theorem FinH.thenI {y : Code} (h : CdN none [] Q n y E M R) : FinH (Exit.then (y.wpIn (FW none) 0 G.P Q) Q) n .normal E M R := ⟨fun w hw => ⟨fun _ ha => ((h.h w hw).h _ (AgD.of ha))⟩⟩
theorem CdN.sub {c : Code} {E' : Env} (hE : Sub E E') (hM : M'.Sublist M) (hR : ∀ p, p ∈ R' → p ∈ R) (h : CdN ro D Q n c E' M' R') : CdN ro D Q n c E M R := ⟨fun w hw => ⟨fun a ha => ((h.h w (hw.sub hM hR)).h a (ha.sub hE))⟩⟩
theorem CdN.at {c : Code} {w : World} (hw : Ok M R w) (h : CdN ro D Q n c E M R) : CdI ro 0 D Q n c E w := h.h w hw
theorem FinN.at {e : Exit} {w : World} (hw : Ok M R w) (h : FinN D Q n e E M R) : FinI D Q n e E w := h.h w hw
theorem OpsN.pure {φ : Prop} (hp : ∀ w, Ok M R w → φ) (h : φ → OpsN ro D ops Q n l E M R) : OpsN ro D ops Q n l E M R := ⟨fun w hw => (h (hp w hw)).h w hw⟩
theorem enterN {f : FuncId} {fn : Func} {c : Code} {l : List Value} {w : World} {Rp : Ending → World → Prop} (hf : G.P.funcs[f]? = some fn) (hb : fn.body = some c) (hn : fn.ntmps = n) (hl : Nat.ble l.length n = true) (hw : Ok M R w)
    (h : CdN none [] (bodyPostM (FW none) 0 G.P fn Rp) n c (argE 0 l) M R) : Calls G.P f l.toArray w Rp := enterI 0 hf hb hn hl (h.h w hw)
end
theorem Obj.cells_of {w : World} {B T s n k : Nat} {v : Value} {cs : List Value} {o : Obj} (h : w.ownsRow B T s v n cs) (hk : v.ownBlock = some k) (ho : w.heap[k]? = some o) : o.isCells = true := by
  obtain ⟨-, ⟨rfl, -⟩ | ⟨g, cap, cur, rfl, -, hc, -⟩⟩ := h
  · cases hk
  · cases hk; rw [hc] at ho; cases ho; rfl
theorem Ok.grow {M : List Res} {w0 W W' : World} {row : Option Nat} {B : Nat} (h : Ok M [Ext w0] W) (hB : w0.heap.size ≤ B) (hg : W.grownBy W' row) (hr : ∀ r, row = some r → B ≤ r ∧ ∃ o : Obj, W.heap[r]? = some o ∧ o.isCells = false) (hM : ∀ (r : Nat) (o : Obj), B ≤ r → W.heap[r]? = some o → o.isCells = false → ¬ Mb M r) : Ok M [Ext w0] W' := by
  have hc := Chg.ofGrown hg
  have hx : Ext w0 W := h.get (by simp)
  have hx' : Ext w0 W' := Chg.trans' hx hc (fun k hk e => by have := (hr k e).1; omega)
  refine ⟨fun q hq => ?_, h.d, fun p hp w2 h2 => ?_⟩
  · obtain ⟨h1, h2⟩ := h.m q hq
    refine ⟨q.st h1 hc fun k _ hk e => ?_, fun k hk => Nat.lt_of_lt_of_le (h2 k hk) hc.size⟩
    obtain ⟨h3, o, h4, h5⟩ := hr k e
    exact hM k o h3 h4 h5 ⟨q, hq, hk⟩
  · rw [List.mem_singleton] at hp
    subst hp
    exact Chg.trans' hx' h2 (fun k hk hm => absurd (h.origin (S := fun _ => False) (by simp []) k hm hk) id)
end Go.Proofs.YtmkgfccfnpmcjaaGreatDoor
/- opcode.All: an iterator over an iterator. -/
namespace Go.Proofs.YtmkgfccfnpmcjaaGreatDoor
open Go.RowKit
set_option maxRecDepth 100000
abbrev TYf : Nat := 56
def encI (x : Int) : List Value := [.int .i64 x]
/-- the slots that opcode.All's own loop fills -/
def psA : Array Nat := #[4, 5]
/-- what a round over opcode.All must keep -/
structure KpL (B : Nat) (W W' : World) : Prop where
  o : KpO B W W'
  keep : ∀ (k : Nat) (o : Obj), B ≤ k → W.heap[k]? = some o → ((∃ d, o = .deferred d) ∨ ∃ r, o = .loop r ∧ r.params = psA) → W'.heap[k]? = some o
theorem KpL.trans {B : Nat} {X Y Z : World} (h : KpL B X Y) (k : KpL B Y Z) : KpL B X Z := ⟨h.o.trans k.o, fun i o hB hi ho => k.keep i o hB (h.keep i o hB hi ho) ho⟩
theorem KpL.put {B : Nat} {W : World} {l : Nat} {r r' : Loop} (hl : W.heap[l]? = some (.loop r)) (hr : r.params ≠ psA) : KpL B W (W.putObj l (.loop r')) := ⟨KpO.put hl rfl, fun k o _ hk ho => by
  have : k ≠ l := by
    rintro rfl
    rw [hl] at hk; cases hk
    rcases ho with ⟨d, e⟩ | ⟨r2, e, h⟩
    · cases e
    · cases e; exact hr h
  rw [World.putObj_heap_other this]; exact hk⟩
theorem Env0.grown {W W' : World} {row : Option Nat} {B : Nat} (h : Env0 W) (hg : W.grownBy W' row) (hr : ∀ r, row = some r → B ≤ r ∧ ∃ o : Obj, W.heap[r]? = some o ∧ o.isCells = false) : Env0 W' := by
  have key : ∀ {p : Addr} {v : Value}, W.cell? p = some v → W'.cell? p = some v := fun {p v} hc => by
    have hlt : p.block < W.heap.size := by
      unfold World.cell? at hc
      cases ho : W.heap[p.block]? with
      | none => simp [ho] at hc
      | some o => exact (Array.getElem?_eq_some_iff.1 ho).1
    have hne : some p.block ≠ row := by
      intro e
      obtain ⟨_, o, ho, hf⟩ := hr _ e.symm
      unfold World.cell? at hc
      rw [ho] at hc
      cases o <;> simp_all [Obj.isCells]
    rw [World.cell?_of_block (hg.block _ hlt hne)]; exact hc
  exact ⟨fun c hc => key (h.asc c hc), by obtain ⟨m, hm⟩ := h.mx; exact ⟨m, key hm⟩⟩
def opA : List Int := opX.map Prod.fst
theorem opA_all5 : opA = all5 := by unfold opA all5; rw [tables, List.map_map]; rfl
theorem run_ret0t {fn : Func} {n : Nat} {E : Env} {w : World} (hr : fn.results = #[]) : ∀ ac, Ag n ac E → (results fn ac.tmps).run G.P w = .ok (.tuple #[]) w := fun ac _ => by simp [results, hr]
theorem run_ret1t {fn : Func} {n : Nat} {E : Env} {w : World} {t : Nat} {v : Value} (hr : fn.results = #[.tmp t]) (hv : lk E t = some v) : ∀ ac, Ag n ac E → (results fn ac.tmps).run G.P w = .ok v w := fun ac hac => by
  have g1 : ac.tmps[t]?.getD undef = v := by have := (hac.eq t _ hv).2; simpa using this
  simp [results, hr, g1]
theorem named_seq (w0 : World) (h0 : Env0 w0) : SeqO 96 [] encO (KpO w0.heap.size) opX w0 := fun l J Jx W hW hJ _ hY hJ0 =>
  named1_gen w0 h0 l J Jx W hW (fun s A B h hg => hJ s A B none h hg (fun r e => by cases e)) (fun pre x W1 hj hp => (hY pre x W1 hj hp).mono fun _ _ h => h.imp id fun h => ⟨h.1, h.2.1⟩) hJ0
set_option maxHeartbeats 4000000 in
theorem all1_seq (w0 : World) (h0 : Env0 w0) : SeqO 55 [] encI (KpL w0.heap.size) opA w0 := by
  intro l J Jx W hW hJ hJx hY hJ0
  have hBW : w0.heap.size ≤ W.heap.size := hW.size
  have hEW : Env0 W := h0.ext (Ext.ofBelow hW)
  refine enterI (m := 0) (l := [.func (.yield l) #[] #[]]) Tryz.func55 rfl Tryz.ntmps55 rfl ?_
  refine wgi ?_
  refine OpsI.e (Eff.box rfl rfl) rfl rfl ?_
  rintro _ w1 ⟨rfl, hn1⟩
  refine wgi ?_
  refine OpsI.e (Eff.call rfl rfl (opcode_named w1) (fun e w' h => ⟨_, h.1⟩)) rfl rfl ?_
  rintro _ _ ⟨h, rfl⟩
  cases h
  refine wgi ?_
  have hs1 := hn1.size
  have hb1 : Blk w1 W.heap.size [.func (.yield l) #[] #[]] TYf := hn1.blk
  have hJ1 : J [] w1 := hJ [] W w1 none hJ0 hn1.ext.grown (fun r e => by cases e)
  have hE1 : Env0 w1 := hEW.ext hn1.ext
  generalize hgb : W.heap.size = b1 at *
  refine CdI.rangeO (encs := encO) (Kp := KpO w1.heap.size) (full := opX) rfl rfl (named_seq w1 hE1) (fun h k => h.trans k) (fun W l r r' _ hl _ => KpO.put hl rfl) (fun _ => rfl) rfl
    (fun (pre : List (Int × ByteArray)) W' => J (pre.map Prod.fst) W' ∧ Env0 W' ∧ Blk W' b1 [.func (.yield l) #[] #[]] TYf)
    (fun c (pre : List (Int × ByteArray)) W' => c = .ret ∧ Jx (pre.map Prod.fst) W')
    (fun (pre : List (Int × ByteArray)) A A' row ⟨h1, h2, h3⟩ hg hr => ⟨hJ _ A A' row h1 hg fun r e => ⟨by have := (hr r e).1; omega, (hr r e).2⟩, ?_, h3.grown (by omega) hg hr⟩)
    (fun c (pre : List (Int × ByteArray)) A A' row ⟨h1, h2⟩ hg hr => ⟨h1, hJx _ A A' row h2 hg fun r e => ⟨by have := (hr r e).1; omega, (hr r e).2⟩⟩)
    ⟨hJ1, hE1, hb1⟩ (fun x => [(1, .pointer (some ⟨b1, 0, none⟩)), (2, .int .i64 x.1)]) ?_ ?_ ?_ ?_
  · exact h2.grown hg hr
  · intro l' x W2 K hK
    refine wgi ?_
    exact FinI.thenK (fun a ha => hK a (ha.sub wsub))
  · rintro l' pre x W2 ⟨h1, h2, h3⟩ hN
    have c1 : W2.cell? ⟨b1, 0, none⟩ = some (.func (.yield l) #[] #[]) := h3.cell rfl
    refine wgi ?_
    refine OpsI.round (m := 0) (vs := encI x.1) rfl rfl rfl (yield_any (hY (pre.map Prod.fst) x.1 W2 h1 (by obtain ⟨r, hr⟩ := hN; exact ⟨r.map Prod.fst, by unfold opA; rw [← hr]; simp⟩))) ?_
    rintro e W3 (⟨rfl, hJ3, hK3⟩ | ⟨rfl, hJx3, hK3⟩)
    · refine ⟨_, rfl, ?_⟩
      refine wgi ?_
      refine ⟨fun a ha => ⟨⟨hK3.o.size, fun k o hk h ho => hK3.keep k o (by omega) h ho⟩, hK3.o.le (by omega), by rw [List.map_append]; exact hJ3, hK3.o.env h2, hK3.o.blk h3 (by omega) (.inr (.inr rfl))⟩⟩
    · refine ⟨_, rfl, ?_⟩
      refine wgi ?_
      refine ⟨fun a ha => ⟨⟨hK3.o.size, fun k o hk h ho => hK3.keep k o (by omega) h ho⟩, hK3.o.le (by omega), rfl, by rw [List.map_append]; exact hJx3⟩⟩
  · rintro Dn W2 hD ⟨h1, h2, h3⟩ hK
    refine wgi ?_
    refine FinI.retM (.inr rfl) hK (run_ret0t rfl) ⟨⟨_, rfl⟩, .inl (hJ.putObj _ h1 (by omega) hK rfl)⟩
  · rintro Dn c pre W2 hD ⟨r, hr⟩ ⟨rfl, h2⟩ hK
    refine wgi ?_
    refine FinI.retM (.inl rfl) hK (run_ret0t rfl) ⟨⟨_, rfl⟩, .inr ⟨pre.map Prod.fst, ⟨r.map Prod.fst, ?_⟩, hJx.putObj _ h2 (by omega) hK rfl⟩⟩
    unfold opA; rw [← hr, List.map_append]
theorem opcode_All (w : World) : Calls G.P 31 #[] w fun e w' => e = .returned (.func (.func 55) #[] #[]) ∧ w = w' := by
  refine enter (G := G) Tryz.func31 rfl Tryz.ntmps31 rfl ?_
  refine wgx ?_
  exact Fin.ret1 rfl rfl ⟨rfl, rfl⟩
end Go.Proofs.YtmkgfccfnpmcjaaGreatDoor
