/- The walk's own rules: a frame is known by a list of its slots; a rule for each operation and each form of code. Nothing of a single program stands here but its name. -/
import Derived.Test.YtgbgnipidakdhaaGreatDoorProg
import Derived.WalkKit
import Derived.KernelRfl
import Derived.Deep.Quiet
import Derived.StillTail
import Derived.Test.YtgbgnipidakdhaaGreatDoorJM
namespace Go.Proofs.YtgbgnipidakdhaaGreatDoor
open Go.RowKit
abbrev Env := List (Nat × Value)
def lk : Env → Nat → Option Value
  | [], _ => none
  | (t, v) :: r, n => bif Nat.beq t n then some v else lk r n
def ev (E : Env) : Operand → Option Value
  | .tmp t => lk E t
  | .const v => some v
  | .global g => some (.pointer (some ⟨g, 0, none⟩))
  | .func f => some (.func (.func f) #[] #[])
def evs (E : Env) : List Operand → Option (List Value)
  | [] => some []
  | x :: r => match ev E x, evs E r with
    | some v, some vs => some (v :: vs)
    | _, _ => none
structure Ag (n : Nat) (a : Act) (E : Env) : Prop where
  sz : a.tmps.size = n
  df : a.defers = []
  eq : ∀ t v, lk E t = some v → t < n ∧ a.tmps.getD t undef = v
theorem lk_cons (t : Nat) (v : Value) (E : Env) (n : Nat) : lk ((t, v) :: E) n = if t = n then some v else lk E n := by
  simp only [lk]
  by_cases h : t = n
  · subst h; simp
  · rw [if_neg h]
    have : Nat.beq t n = false := by
      rw [Bool.eq_false_iff]; intro e; exact h (Nat.eq_of_beq_eq_true e)
    rw [this]; rfl
theorem Ag.eval {n : Nat} {a : Act} {E : Env} (h : Ag n a E) {x : Operand} {v : Value} (hx : ev E x = some v) : a.eval x = v := by
  cases x with
  | tmp t => exact (h.eq t v hx).2
  | const u => simp only [ev, Option.some.injEq] at hx; exact hx
  | global g => simp only [ev, Option.some.injEq] at hx; exact hx
  | func f => simp only [ev, Option.some.injEq] at hx; exact hx
theorem Ag.evals {n : Nat} {a : Act} {E : Env} (h : Ag n a E) : ∀ {xs : List Operand} {vs : List Value}, evs E xs = some vs → xs.map a.eval = vs
  | [], vs, hx => by simp [evs] at hx; simp [hx]
  | x :: r, vs, hx => by
    simp only [evs] at hx
    cases h1 : ev E x with
    | none => simp [h1] at hx
    | some v =>
      cases h2 : evs E r with
      | none => simp [h1, h2] at hx
      | some us =>
        simp only [h1, h2, Option.some.injEq] at hx
        subst hx
        simp [h.eval h1, h.evals h2]
theorem Ag.put {n : Nat} {a : Act} {E : Env} (h : Ag n a E) {d : Nat} (hd : d < n) (v : Value) : Ag n (a.put (some d) v) ((d, v) :: E) := by
  refine ⟨by simp [Act.put, h.sz], by simp [Act.put, h.df], fun t u ht => ?_⟩
  rw [lk_cons] at ht
  by_cases e : d = t
  · subst e
    rw [if_pos rfl] at ht
    cases ht
    refine ⟨hd, ?_⟩
    have hs : d < a.tmps.size := by rw [h.sz]; exact hd
    simp [Act.put, Array.getD, hs]
  · rw [if_neg e] at ht
    obtain ⟨h1, h2⟩ := h.eq t u ht
    refine ⟨h1, ?_⟩
    rw [← h2]
    have ht' : t < a.tmps.size := by rw [h.sz]; exact h1
    simp [Act.put, Array.getD, ht', e]
structure Sub (E E' : Env) : Prop where
  h : ∀ t v, lk E' t = some v → lk E t = some v
theorem Sub.nil (E : Env) : Sub E [] := ⟨fun _ _ h => by cases h⟩
theorem Sub.cons {E r : Env} {t : Nat} {v u : Value} (h1 : lk E t = some u) (h2 : u = v) (h : Sub E r) : Sub E ((t, v) :: r) := ⟨fun s x hs => by
  rw [lk_cons] at hs
  by_cases e : t = s
  · subst e; rw [if_pos rfl] at hs; cases hs; rw [h1, h2]
  · rw [if_neg e] at hs; exact h.h s x hs⟩
theorem Ag.sub {n : Nat} {a : Act} {E E' : Env} (h : Ag n a E) (hs : Sub E E') : Ag n a E' := ⟨h.sz, h.df, fun t v ht => h.eq t v (hs.h t v ht)⟩
structure TI where
  size : Nat
  bytes : Nat
  agg : Bool
  elem : Option Nat
  offs : List Nat
  zero : Value
  ik : Option IntKind
structure TyOk (P : Program) (t : Nat) (i : TI) : Prop where
  info : (P.info? t).map (fun j => (j.zero, j.size, j.bytes)) = some (some i.zero, i.size, i.bytes)
  size : ∀ w, (sizeOf t).run P w = .ok i.size w
  zeroV : ∀ w, (zeroValue t).run P w = .ok i.zero w
  agg : ∀ w, (isAgg t).run P w = .ok i.agg w
  elem : ∀ e, i.elem = some e → P.underlying t = some (.slice e)
  intk : ∀ k, i.ik = some k → P.underlying t = some (.int k)
  offs : ∀ f o, i.offs[f]? = some o → ∀ w a, (Instr.fieldAt t (.pointer (some a)) f).run P w = .ok (.pointer (some (a.add o))) w
def fchk (P : Program) (f : Nat) : Bool :=
  match P.funcs[f]? with
  | some fn => fn.body.isSome && !(fn.name == "runtime.NumGoroutine")
  | none => false
theorem fchk_ok {P : Program} {f : Nat} (h : fchk P f = true) (vs : Array Value) (w : World) : (callFunc f vs).run P w = .ok (.enter f vs) w := by
  unfold fchk at h
  cases hf : P.funcs[f]? with
  | none => simp [hf] at h
  | some fn =>
    simp only [hf, Bool.and_eq_true, Bool.not_eq_true'] at h
    obtain ⟨h1, h2⟩ := h
    have h3 : fn.body ≠ none := by intro e; simp [e] at h1
    have h4 : fn.name ≠ "runtime.NumGoroutine" := by intro e; simp [e] at h2
    simp [callFunc, program, Sem.run, hf, h3, h4]
def fbs (P : Program) : List Bool → Nat → Bool
  | [], _ => true
  | b :: r, i => (!b || fchk P i) && fbs P r (i + 1)
theorem fbs_ok {P : Program} : ∀ (l : List Bool) (i : Nat), fbs P l i = true → ∀ f, l[f]? = some true → fchk P (i + f) = true
  | [], _, _, _, h => by simp at h
  | b :: r, i, h, f, hf => by
    simp only [fbs, Bool.and_eq_true] at h
    cases f with
    | zero => simp at hf; subst hf; simpa using h.1
    | succ f =>
      have := fbs_ok r (i + 1) h.2 f (by simpa using hf)
      rwa [show i + (f + 1) = i + 1 + f by omega]
def AllTy (P : Program) : List (Option TI) → Nat → Prop
  | [], _ => True
  | none :: r, k => AllTy P r (k + 1)
  | some i :: r, k => TyOk P k i ∧ AllTy P r (k + 1)
theorem AllTy.get {P : Program} : ∀ (l : List (Option TI)) (k : Nat), AllTy P l k → ∀ t i, (l[t]?).bind id = some i → TyOk P (k + t) i
  | [], _, _, t, i, h => by simp at h
  | none :: r, k, ha, t, i, h => by
    cases t with
    | zero => simp at h
    | succ t =>
      have := AllTy.get r (k + 1) ha t i (by simpa using h)
      rwa [show k + (t + 1) = k + 1 + t by omega]
  | some j :: r, k, ha, t, i, h => by
    cases t with
    | zero => simp at h; subst h; exact ha.1
    | succ t =>
      have := AllTy.get r (k + 1) ha.2 t i (by simpa using h)
      rwa [show k + (t + 1) = k + 1 + t by omega]
structure Prg where
  P : Program
  tb : List (Option TI)
  fb : List Bool
  tyOk : ∀ t i, (tb[t]?).bind id = some i → TyOk P t i
  fnOk : ∀ f, fb[f]? = some true → ∀ vs w, (callFunc f vs).run P w = .ok (.enter f vs) w
  mixed : P.follows .mixedOrders = true
def Prg.ty (G : Prg) (t : Nat) : Option TI := (G.tb[t]?).bind id
inductive Mode where
  | list (Q : Exit → Act → World → Prop) (w : World)
  | still (K : Act → Prop) (w : World)
  | quiet (K : Act → Prop) (C : World → Prop)
  | mix (sk : Bool) (Q : Exit → Act → World → Prop) (C : World → Prop) (w : World)
def Mode.run (G : Prg) (ops : Array Oper) : Mode → List Oper → Act → Prop
  | .list Q w => fun l a => wpList G.P ops Q l a w
  | .still K w => fun l a => wpStill G.P ops w K l a
  | .quiet K C => fun l a => wpQuiet G.P ops C K l a
  | .mix sk Q C w => fun l a => wpMix G.P ops C sk (Q .normal) l a w
def Mode.C : Mode → World → Prop
  | .list _ w => fun w' => w' = w
  | .still _ w => fun w' => w' = w
  | .quiet _ C => C
  | .mix _ _ C _ => C
structure Ops (G : Prg) (ops : Array Oper) (M : Mode) (n : Nat) (l : List Oper) (E : Env) : Prop where
  h : ∀ a, Ag n a E → M.run G ops l a
structure Cd (G : Prg) (Q : Exit → Act → World → Prop) (n : Nat) (c : Code) (E : Env) (w : World) : Prop where
  h : ∀ a, Ag n a E → c.wp G.P Q a w
structure Fin (Q : Exit → Act → World → Prop) (n : Nat) (e : Exit) (E : Env) (w : World) : Prop where
  h : ∀ a, Ag n a E → Q e a w
section code
variable {G : Prg} {Q : Exit → Act → World → Prop} {n : Nat} {E : Env} {w : World}
theorem Cd.seq {x y : Code} (h : Cd G (Exit.then (y.wp G.P Q) Q) n x E w) : Cd G Q n (.seq x y) E w := ⟨fun a ha => wp_seq (h.h a ha)⟩
theorem Cd.block {id : Nat} {c : Code} (h : Cd G (Exit.inBlock id Q) n c E w) : Cd G Q n (.block id c) E w := ⟨fun a ha => wp_block (h.h a ha)⟩
theorem Cd.skip (h : Fin Q n .normal E w) : Cd G Q n .skip E w := ⟨fun a ha => wp_skip (h.h a ha)⟩
theorem Cd.label {l : Nat} (h : Fin Q n .normal E w) : Cd G Q n (.label l) E w := ⟨fun a ha => wp_label (h.h a ha)⟩
theorem Cd.exit {id : Nat} (h : Fin Q n (.exit id) E w) : Cd G Q n (.exit id) E w := ⟨fun a ha => wp_exit (h.h a ha)⟩
theorem Cd.ret (h : Fin Q n .ret E w) : Cd G Q n .ret E w := ⟨fun a ha => wp_ret (h.h a ha)⟩
theorem Cd.region {id : Nat} {l : List Oper} (h : Ops G l.toArray (.list Q w) n l E) : Cd G Q n (.region id l.toArray false) E w := ⟨fun a ha => wp_region_lit (h.h a ha)⟩
theorem Cd.condT {c : Operand} {x y : Code} (hc : ev E c = some (.bool true)) (h : Cd G Q n x E w) : Cd G Q n (.cond c x y) E w := ⟨fun a ha => wp_cond_true (ha.eval hc) (h.h a ha)⟩
theorem Cd.condF {c : Operand} {x y : Code} (hc : ev E c = some (.bool false)) (h : Cd G Q n y E w) : Cd G Q n (.cond c x y) E w := ⟨fun a ha => wp_cond_false (ha.eval hc) (h.h a ha)⟩
theorem Cd.regionQ {id : Nat} {l : List Oper} (hB : Region.lexB .any l.toArray = true)
    (h : Ops G l.toArray (.quiet (fun a' => ∀ w', (∃ k, w' = w.drewN k) → Q .normal a' w') (fun w' => ∃ k, w' = w.drewN k)) n l E) : Cd G Q n (.region id l.toArray true) E w :=
  ⟨fun a ha => wp_region_quiet_lit G.mixed hB (h.h a ha)⟩
theorem Cd.regionC {id : Nat} {l : List Oper} (C : World → Prop) (hB : Region.lexB .any l.toArray = true) (hC : C w.drew)
    (h : Ops G l.toArray (.quiet (fun a' => ∀ w', C w' → Q .normal a' w') C) n l E) : Cd G Q n (.region id l.toArray true) E w :=
  ⟨fun a ha => wp_region_quiet G.mixed hB hC (by have := h.h a ha; simp only [Mode.run] at this; simpa using this)⟩
theorem Cd.regionS {id : Nat} {l : List Oper} (ord : List Nat) (z : Nat) (C : World → Prop) (hB : mixSB l ord z = true) (hC : C w.drew)
    (h : Ops G l.toArray (.mix true Q C w.drew) n (pick l (ord ++ [z])) E) : Cd G Q n (.region id l.toArray true) E w :=
  ⟨fun a ha => wp_region_mixS ord z G.mixed hB hC (h.h a ha)⟩
theorem Ops.nilM {ops : Array Oper} {sk : Bool} {C : World → Prop} (h : Fin Q n .normal E w) : Ops G ops (.mix sk Q C w) n [] E := ⟨fun a ha => h.h a ha⟩
theorem Ops.nil {ops : Array Oper} (h : Fin Q n .normal E w) : Ops G ops (.list Q w) n [] E := ⟨fun a ha => h.h a ha⟩
theorem Ops.nilT {ops : Array Oper} {l : List Oper} (h : Ops G ops (.list Q w) n l E) : Ops G ops (.still (fun a' => wpList G.P ops Q l a' w) w) n [] E := ⟨fun a ha => h.h a ha⟩
theorem Fin.thenN {y : Code} (h : Cd G Q n y E w) : Fin (Exit.then (y.wp G.P Q) Q) n .normal E w := ⟨fun a ha => h.h a ha⟩
theorem Fin.thenR {K : Act → World → Prop} (h : Fin Q n .ret E w) : Fin (Exit.then K Q) n .ret E w := ⟨fun a ha => h.h a ha⟩
theorem Fin.thenX {K : Act → World → Prop} {id : Nat} (h : Fin Q n (.exit id) E w) : Fin (Exit.then K Q) n (.exit id) E w := ⟨fun a ha => h.h a ha⟩
theorem Fin.blkN {id : Nat} (h : Fin Q n .normal E w) : Fin (Exit.inBlock id Q) n .normal E w := ⟨fun a ha => h.h a ha⟩
theorem Fin.blkR {id : Nat} (h : Fin Q n .ret E w) : Fin (Exit.inBlock id Q) n .ret E w := ⟨fun a ha => h.h a ha⟩
theorem Fin.blkX {id : Nat} (h : Fin Q n .normal E w) : Fin (Exit.inBlock id Q) n (.exit id) E w := ⟨fun a ha => by simp only [Exit.inBlock, if_true]; exact h.h a ha⟩
theorem Fin.blkY {id id' : Nat} (hne : Nat.beq id' id = false) (h : Fin Q n (.exit id') E w) : Fin (Exit.inBlock id Q) n (.exit id') E w := ⟨fun a ha => by
  have : id' ≠ id := fun e => by subst e; simp at hne
  simp only [Exit.inBlock, if_neg this]; exact h.h a ha⟩
theorem Fin.sub {e : Exit} {E' : Env} (hs : Sub E E') (h : Fin Q n e E' w) : Fin Q n e E w := ⟨fun a ha => h.h a (ha.sub hs)⟩
theorem Cd.sub {c : Code} {E' : Env} (hs : Sub E E') (h : Cd G Q n c E' w) : Cd G Q n c E w := ⟨fun a ha => h.h a (ha.sub hs)⟩
theorem Ops.sub {ops : Array Oper} {M : Mode} {l : List Oper} {E' : Env} (hs : Sub E E') (h : Ops G ops M n l E') : Ops G ops M n l E := ⟨fun a ha => h.h a (ha.sub hs)⟩
theorem wp_loop_ghost {P : Program} {c : Code} (I : Nat → Act → World → Prop) {a : Act} (h0 : ∃ m, I m a w)
    (round : ∀ m a w, I m a w → c.wp P (Exit.then (fun a' w' => ∃ m', m' < m ∧ I m' a' w') Q) a w) : (Code.loop c).wp P Q a w := by
  intro b k cs
  have key : ∀ m a w, I m a w → ∃ e a' w', Q e a' w' ∧ Arrives P (lone (b.at a (.code c :: .inLoop c :: k)) cs w) b k cs e a' w' := by
    intro m
    induction m using Nat.strongRecOn with
    | _ m ih =>
      intro a w hI
      obtain ⟨e, a₁, w₁, hq, harr⟩ := round m a w hI b (.inLoop c :: k) cs
      cases e with
      | normal =>
        obtain ⟨m', hlt, hI₁⟩ := hq
        obtain ⟨e₂, a₂, w₂, hq₂, harr₂⟩ := ih m' hlt a₁ w₁ hI₁
        exact ⟨e₂, a₂, w₂, hq₂, .of_steps (Steps.trans harr (.one step_inLoop)) harr₂⟩
      | exit id => exact ⟨_, a₁, w₁, hq, .pass (x := .inLoop c) rfl (fun _ _ => .inl (by simp)) harr⟩
      | goto l => exact ⟨_, a₁, w₁, hq, .pass (x := .inLoop c) rfl (fun _ _ => .inl (by simp)) harr⟩
      | ret => exact ⟨_, a₁, w₁, hq, .pass (x := .inLoop c) rfl (fun _ _ => .inl (by simp)) harr⟩
      | panic ch => exact ⟨_, a₁, w₁, hq, .pass (x := .inLoop c) rfl (fun _ _ => .inl (by simp)) harr⟩
      | outgrown => exact ⟨_, a₁, w₁, hq, .pass (x := .inLoop c) rfl (fun _ _ => .inl (by simp)) harr⟩
  obtain ⟨m, hm⟩ := h0
  obtain ⟨e, a', w', hq, harr⟩ := key m a w hm
  exact ⟨e, a', w', hq, .of_steps (.one step_loop) harr⟩
def LoopNext {σ : Type} (n : Nat) (Ei : σ → Env) (Wi : σ → World → Prop) (μ : σ → Nat) (s : σ) : Act → World → Prop :=
  fun a w => ∃ s', μ s' < μ s ∧ Ag n a (Ei s') ∧ Wi s' w
theorem Cd.loop {σ : Type} {c : Code} (Ei : σ → Env) (Wi : σ → World → Prop) (μ : σ → Nat) (s0 : σ) (hE : Sub E (Ei s0)) (hW : Wi s0 w)
    (round : ∀ s w, Wi s w → Cd G (Exit.then (LoopNext n Ei Wi μ s) Q) n c (Ei s) w) : Cd G Q n (.loop c) E w := ⟨fun a ha => by
  refine wp_loop_ghost (fun m a w => ∃ s, μ s = m ∧ Ag n a (Ei s) ∧ Wi s w) ⟨_, s0, rfl, ha.sub hE, hW⟩ ?_
  rintro m a w ⟨s, rfl, hs, hw⟩
  refine Code.wp_mono ?_ ((round s w hw).h a hs)
  intro e a' w' q
  cases e with
  | normal =>
    obtain ⟨s', h1, h2, h3⟩ := q
    exact ⟨μ s', h1, s', rfl, h2, h3⟩
  | _ => exact q⟩
theorem Fin.next {σ : Type} {Ei : σ → Env} {Wi : σ → World → Prop} {μ : σ → Nat} {s : σ} (s' : σ) (hE : Sub E (Ei s')) (hW : Wi s' w) (hμ : μ s' < μ s) :
    Fin (Exit.then (LoopNext n Ei Wi μ s) Q) n .normal E w := ⟨fun _ ha => ⟨s', hμ, ha.sub hE, hW⟩⟩
end code
def argE : Nat → List Value → Env
  | _, [] => []
  | i, v :: r => (i, v) :: argE (i + 1) r
theorem lk_argE : ∀ (l : List Value) (i t : Nat) (v : Value), lk (argE i l) t = some v → i ≤ t ∧ l[t - i]? = some v
  | [], _, _, _, h => by cases h
  | u :: r, i, t, v, h => by
    rw [argE, lk_cons] at h
    by_cases e : i = t
    · subst e; rw [if_pos rfl] at h; simp [← h]
    · rw [if_neg e] at h
      obtain ⟨h1, h2⟩ := lk_argE r (i + 1) t v h
      refine ⟨by omega, ?_⟩
      have : t - i = (t - (i + 1)) + 1 := by omega
      rw [this]; simpa using h2
theorem enter {G : Prg} {f : FuncId} {fn : Func} {c : Code} {n : Nat} {l : List Value} {w : World} {R : Ending → World → Prop} (hf : G.P.funcs[f]? = some fn) (hb : fn.body = some c) (hn : fn.ntmps = n) (hl : Nat.ble l.length n = true)
    (h : Cd G (bodyPost G.P fn R) n c (argE 0 l) w) : Calls G.P f l.toArray w R := by
  refine calls_of_wp hf hb (h.h _ ?_)
  have hl' : l.length ≤ n := Nat.le_of_ble_eq_true hl
  refine ⟨by simp [hn]; omega, rfl, fun t v ht => ?_⟩
  obtain ⟨_, h2⟩ := lk_argE l 0 t v ht
  rw [Nat.sub_zero] at h2
  obtain ⟨h3, h4⟩ := List.getElem?_eq_some_iff.1 h2
  refine ⟨by omega, ?_⟩
  have : t < (l.toArray ++ Array.replicate (fn.ntmps - l.toArray.size) undef).size := by simp; omega
  simp only [Array.getD, this, dite_true]
  rw [Array.getInternal_eq_getElem, Array.getElem_append_left (by simpa using h3)]
  simpa using h4
section ends
variable {P : Program} {fn : Func} {R : Ending → World → Prop} {n : Nat} {E : Env} {w : World}
theorem Fin.ofRun {e : Exit} {v : Value} (he : e = .ret ∨ e = .normal) (hr : ∀ a, Ag n a E → (results fn a.tmps).run P w = .ok v w) (hR : R (.returned v) w) : Fin (bodyPost P fn R) n e E w := ⟨fun a ha => by
  rcases he with rfl | rfl
  · exact ⟨ha.df, v, hr a ha, hR⟩
  · exact ⟨ha.df, v, hr a ha, hR⟩⟩
theorem Fin.ret0 (hr : fn.results = #[]) (hR : R (.returned (.tuple #[])) w) : Fin (bodyPost P fn R) n .ret E w :=
  Fin.ofRun (.inl rfl) (fun a _ => results_none hr a.tmps P w) hR
theorem Fin.end0 (hr : fn.results = #[]) (hR : R (.returned (.tuple #[])) w) : Fin (bodyPost P fn R) n .normal E w :=
  Fin.ofRun (.inr rfl) (fun a _ => results_none hr a.tmps P w) hR
theorem Fin.ret1 {t : Nat} {v : Value} (hr : fn.results = #[.tmp t]) (hv : lk E t = some v) (hR : R (.returned v) w) : Fin (bodyPost P fn R) n .ret E w :=
  Fin.ofRun (.inl rfl) (fun a ha => by rw [results_tmp hr, (ha.eq t v hv).2]) hR
theorem Fin.ret2 {t u : Nat} {v x : Value} (hr : fn.results = #[.tmp t, .tmp u]) (hv : lk E t = some v) (hx : lk E u = some x) (hR : R (.returned (.tuple #[v, x])) w) : Fin (bodyPost P fn R) n .ret E w :=
  Fin.ofRun (.inl rfl) (fun a ha => by rw [results_tmp2 hr, (ha.eq t v hv).2, (ha.eq u x hx).2]) hR
end ends
structure Yl (G : Prg) (n : Nat) (op : Op) (E : Env) (C : World → Prop) (v : Value) : Prop where
  h : ∀ w, C w → ∀ a, Ag n a E → ∀ d ty pos aft gd, (execOp a.eval ⟨d, op, ty, pos, aft, gd⟩).run G.P w = .ok (.value v) w
def gdv (ops : Array Oper) (E : Env) (j : Nat) : Option Bool :=
  match ((ops[j]?).bind (·.dst)).bind (lk E) with
  | some (.bool b) => some b
  | _ => none
def gdu (ops : Array Oper) (E : Env) (j : Nat) : Bool :=
  match ((ops[j]?).bind (·.dst)).bind (lk E) with
  | some (.bool _) => false
  | some _ => true
  | none => false
section
variable {G : Prg} {ops : Array Oper} {M : Mode} {n : Nat} {E : Env} {rest : List Oper} {op : Op} {ty : TypeId} {pos : String} {aft : Array Edge} {v : Value} {d : Nat}
theorem yielded_of {a : Act} (ha : Ag n a E) {j : Nat} {b : Bool} (h : gdv ops E j = some b) : yielded ops a.tmps j = some b := by
  unfold gdv at h
  unfold yielded
  cases h1 : (ops[j]?).bind (·.dst) with
  | none => simp [h1] at h
  | some t =>
    simp only [h1, Option.bind_some] at h ⊢
    cases h2 : lk E t with
    | none => simp [h2] at h
    | some u =>
      obtain ⟨h3, h4⟩ := ha.eq t u h2
      have ht : t < a.tmps.size := by rw [ha.sz]; exact h3
      have : a.tmps[t]? = some u := by
        rw [Array.getElem?_eq_getElem ht]; simp [Array.getD, ht] at h4; rw [h4]
      rw [this]
      cases u <;> simp_all
theorem yielded_none {a : Act} (ha : Ag n a E) {j : Nat} (h : gdu ops E j = true) : yielded ops a.tmps j = none := by
  unfold gdu at h
  unfold yielded
  cases h1 : (ops[j]?).bind (·.dst) with
  | none => simp [h1] at h
  | some t =>
    simp only [h1, Option.bind_some] at h ⊢
    cases h2 : lk E t with
    | none => simp [h2] at h
    | some u =>
      obtain ⟨h3, h4⟩ := ha.eq t u h2
      have ht : t < a.tmps.size := by rw [ha.sz]; exact h3
      have : a.tmps[t]? = some u := by
        rw [Array.getElem?_eq_getElem ht]; simp [Array.getD, ht] at h4; rw [h4]
      rw [this]
      cases u <;> simp_all
theorem run_y {a : Act} {o : Oper} (hq : isQ o.op = true) (hg : Region.wanted o (yielded ops a.tmps) = true) (hr : ∀ w, M.C w → (execOp a.eval o).run G.P w = .ok (.value v) w) (hn : M.run G ops rest (a.put o.dst v)) : M.run G ops (o :: rest) a := by
  cases M with
  | list Q w =>
    simp only [Mode.run, wpList, hg, if_true] at *
    refine .inl ?_
    unfold Oper.wp
    rw [hr w rfl]
    exact hn
  | still K w =>
    simp only [Mode.run, wpStill, hg, if_true] at *
    unfold Oper.still
    rw [hr w rfl]
    exact ⟨rfl, hn⟩
  | quiet K C =>
    simp only [Mode.run, wpQuiet, hg, if_true] at *
    refine ⟨v, fun w hw => ?_, hn⟩
    unfold Oper.quietAt
    rw [hr w hw]
    exact ⟨rfl, rfl⟩
  | mix sk Q C w =>
    simp only [Mode.run, wpMix, hg, hq, if_true] at *
    exact ⟨v, hr, hn⟩
theorem run_skip {a : Act} {o : Oper} (hg : Region.wanted o (yielded ops a.tmps) = false) (hn : M.run G ops rest (a.put o.dst undef)) : M.run G ops (o :: rest) a := by
  cases M with
  | list Q w => simp only [Mode.run, wpList, hg] at *; exact hn
  | still K w => simp only [Mode.run, wpStill, hg] at *; exact hn
  | quiet K C => simp only [Mode.run, wpQuiet, hg] at *; exact hn
  | mix sk Q C w => simp only [Mode.run, wpMix, hg] at *; exact hn
theorem Ops.y (hy : Yl G n op E M.C v) (hd : (isQ op && Nat.blt d n) = true) (h : Ops G ops M n rest ((d, v) :: E)) : Ops G ops M n (⟨some d, op, ty, pos, aft, none⟩ :: rest) E :=
  ⟨fun a ha => run_y (by simp only [Bool.and_eq_true] at hd; exact hd.1) (by simp [Region.wanted]) (fun w hw => hy.h w hw a ha _ _ _ _ _) (h.h _ (ha.put (by simp only [Bool.and_eq_true] at hd; simpa using hd.2) v))⟩
theorem Ops.yg {j : Nat} {b : Bool} (hg : gdv ops E j = some b) (hy : Yl G n op E M.C v) (hd : (isQ op && Nat.blt d n) = true) (h : Ops G ops M n rest ((d, v) :: E)) : Ops G ops M n (⟨some d, op, ty, pos, aft, some (j, b)⟩ :: rest) E :=
  ⟨fun a ha => run_y (by simp only [Bool.and_eq_true] at hd; exact hd.1) (by simp [Region.wanted, yielded_of ha hg]) (fun w hw => hy.h w hw a ha _ _ _ _ _) (h.h _ (ha.put (by simp only [Bool.and_eq_true] at hd; simpa using hd.2) v))⟩
theorem Ops.gs {j : Nat} {b b' : Bool} (hg : gdv ops E j = some b') (hb : b' = !b) (hd : Nat.blt d n = true) (h : Ops G ops M n rest ((d, undef) :: E)) : Ops G ops M n (⟨some d, op, ty, pos, aft, some (j, b)⟩ :: rest) E :=
  ⟨fun a ha => run_skip (by subst hb; cases b <;> simp [Region.wanted, yielded_of ha hg]) (h.h _ (ha.put (by simpa using hd) undef))⟩
theorem Ops.gu {j : Nat} {b : Bool} (hg : gdu ops E j = true) (hd : Nat.blt d n = true) (h : Ops G ops M n rest ((d, undef) :: E)) : Ops G ops M n (⟨some d, op, ty, pos, aft, some (j, b)⟩ :: rest) E :=
  ⟨fun a ha => run_skip (by simp [Region.wanted, yielded_none ha hg]) (h.h _ (ha.put (by simpa using hd) undef))⟩
end
section
variable {G : Prg} {n : Nat} {E : Env} {C : World → Prop} {v u : Value} {x y z : Operand} {t t2 : TypeId} {p q : Int} {k : IntKind}
theorem Yl.move (hx : ev E x = some v) : Yl G n (.move x) E C v := ⟨fun w _ a ha d ty pos aft gd => by simp [execOp, ha.eval hx]⟩
theorem Yl.assign (hx : ev E x = some v) : Yl G n (.assign x) E C v := ⟨fun w _ a ha d ty pos aft gd => by simp [execOp, ha.eval hx]⟩
theorem Yl.pickT (hc : ev E x = some (.bool true)) (hx : ev E y = some v) : Yl G n (.pick x y z) E C v := ⟨fun w _ a ha d ty pos aft gd => by simp [execOp, ha.eval hx, ha.eval hc, asBool]⟩
theorem Yl.pickF (hc : ev E x = some (.bool false)) (hx : ev E z = some v) : Yl G n (.pick x y z) E C v := ⟨fun w _ a ha d ty pos aft gd => by simp [execOp, ha.eval hx, ha.eval hc, asBool]⟩
theorem Yl.bin {bo : BinOp} (hx : ev E x = some (.int k p)) (hy : ev E y = some (.int k q)) (hr : ∀ w, (binOp bo t (.int k p) (.int k q)).run G.P w = .ok v w) : Yl G n (.binOp bo t x y t2) E C v :=
  ⟨fun w _ a ha d ty pos aft gd => by
    have hg : ∀ b c : Operand, (eqGuard bo t b c (.int k p) (.int k q)).run G.P w = .ok () w := by
      intro b c; unfold eqGuard; split <;> simp
    simp [execOp, ha.eval hx, ha.eval hy, hg, hr]⟩
theorem Yl.lssT (hx : ev E x = some (.int k p)) (hy : ev E y = some (.int k q)) (h : p < q) : Yl G n (.binOp .lss t x y t2) E C (.bool true) := Yl.bin hx hy (fun w => by simp [binOp, Op.intCmp, h])
theorem Yl.lssF (hx : ev E x = some (.int k p)) (hy : ev E y = some (.int k q)) (h : q ≤ p) : Yl G n (.binOp .lss t x y t2) E C (.bool false) := Yl.bin hx hy (fun w => by simp [binOp, Op.intCmp, Int.not_lt.2 h])
theorem Yl.leqT (hx : ev E x = some (.int k p)) (hy : ev E y = some (.int k q)) (h : p ≤ q) : Yl G n (.binOp .leq t x y t2) E C (.bool true) := Yl.bin hx hy (fun w => by simp [binOp, Op.intCmp, h])
theorem Yl.leqF (hx : ev E x = some (.int k p)) (hy : ev E y = some (.int k q)) (h : q < p) : Yl G n (.binOp .leq t x y t2) E C (.bool false) := Yl.bin hx hy (fun w => by simp [binOp, Op.intCmp, Int.not_le.2 h])
theorem Yl.gtrT (hx : ev E x = some (.int k p)) (hy : ev E y = some (.int k q)) (h : q < p) : Yl G n (.binOp .gtr t x y t2) E C (.bool true) := Yl.bin hx hy (fun w => by simp [binOp, Op.intCmp, h])
theorem Yl.gtrF (hx : ev E x = some (.int k p)) (hy : ev E y = some (.int k q)) (h : p ≤ q) : Yl G n (.binOp .gtr t x y t2) E C (.bool false) := Yl.bin hx hy (fun w => by simp [binOp, Op.intCmp, Int.not_lt.2 h])
theorem Yl.geqT (hx : ev E x = some (.int k p)) (hy : ev E y = some (.int k q)) (h : q ≤ p) : Yl G n (.binOp .geq t x y t2) E C (.bool true) := Yl.bin hx hy (fun w => by simp [binOp, Op.intCmp, h])
theorem Yl.geqF (hx : ev E x = some (.int k p)) (hy : ev E y = some (.int k q)) (h : p < q) : Yl G n (.binOp .geq t x y t2) E C (.bool false) := Yl.bin hx hy (fun w => by simp [binOp, Op.intCmp, Int.not_le.2 h])
theorem Yl.eqlT (hx : ev E x = some (.int k p)) (hy : ev E y = some (.int k q)) (h : p = q) : Yl G n (.binOp .eql t x y t2) E C (.bool true) := Yl.bin hx hy (fun w => by simp [binOp, Op.intCmp, h])
theorem Yl.eqlF (hx : ev E x = some (.int k p)) (hy : ev E y = some (.int k q)) (h : p ≠ q) : Yl G n (.binOp .eql t x y t2) E C (.bool false) := Yl.bin hx hy (fun w => by simp [binOp, Op.intCmp, h])
theorem Yl.neqT (hx : ev E x = some (.int k p)) (hy : ev E y = some (.int k q)) (h : p ≠ q) : Yl G n (.binOp .neq t x y t2) E C (.bool true) := Yl.bin hx hy (fun w => by simp [binOp, Op.intCmp, h])
theorem Yl.neqF (hx : ev E x = some (.int k p)) (hy : ev E y = some (.int k q)) (h : p = q) : Yl G n (.binOp .neq t x y t2) E C (.bool false) := Yl.bin hx hy (fun w => by simp [binOp, Op.intCmp, h])
theorem Yl.add (hx : ev E x = some (.int .i64 p)) (hy : ev E y = some (.int .i64 q)) (h : -9223372036854775808 ≤ p + q ∧ p + q ≤ 9223372036854775807) : Yl G n (.binOp .add t x y t2) E C (.int .i64 (p + q)) :=
  Yl.bin hx hy (fun w => by simp only [binOp, Op.intArith, ne_eq, not_true_eq_false, if_false, IntWalk.i64_in _ h]; rfl)
theorem Yl.sub (hx : ev E x = some (.int .i64 p)) (hy : ev E y = some (.int .i64 q)) (h : -9223372036854775808 ≤ p - q ∧ p - q ≤ 9223372036854775807) : Yl G n (.binOp .sub t x y t2) E C (.int .i64 (p - q)) :=
  Yl.bin hx hy (fun w => by simp only [binOp, Op.intArith, ne_eq, not_true_eq_false, if_false, IntWalk.i64_in _ h]; rfl)
theorem Yl.eqbB {a b : Bool} (hx : ev E x = some (.bool a)) (hy : ev E y = some (.bool b)) (ht : ∀ w, (Op.equal t (.bool a) (.bool b)).run G.P w = .ok (a == b) w) : Yl G n (.binOp .eql t x y t2) E C (.bool (a == b)) :=
  ⟨fun w _ ac ha d ty pos aft gd => by simp [execOp, ha.eval hx, ha.eval hy, eqGuard, binOp, ht]⟩
theorem Yl.neqbB {a b : Bool} (hx : ev E x = some (.bool a)) (hy : ev E y = some (.bool b)) (ht : ∀ w, (Op.equal t (.bool a) (.bool b)).run G.P w = .ok (a == b) w) : Yl G n (.binOp .neq t x y t2) E C (.bool (a != b)) :=
  ⟨fun w _ ac ha d ty pos aft gd => by simp [execOp, ha.eval hx, ha.eval hy, eqGuard, binOp, ht, bne]⟩
theorem Yl.not {b : Bool} (hx : ev E x = some (.bool b)) : Yl G n (.unOp .not t x) E C (.bool (!b)) := ⟨fun w _ a ha d ty pos aft gd => by simp [execOp, ha.eval hx, Op.unary]⟩
theorem Yl.extract {vs : Array Value} {i : Nat} (hx : ev E x = some (.tuple vs)) (hi : vs[i]? = some v) : Yl G n (.extract x i) E C v := ⟨fun w _ a ha d ty pos aft gd => by simp [execOp, ha.eval hx, Instr.extract, hi]⟩
theorem Yl.nilCheck {ad : Addr} (hx : ev E x = some (.pointer (some ad))) : Yl G n (.nilCheck x) E C (.pointer (some ad)) := ⟨fun w _ a ha d ty pos aft gd => by simp [execOp, ha.eval hx]⟩
theorem Yl.makeFunc {fn : Fn} {first cap : List Operand} {fs cs : List Value} (h1 : evs E first = some fs) (h2 : evs E cap = some cs) : Yl G n (.makeFunc fn first.toArray cap.toArray) E C (.func fn fs.toArray cs.toArray) :=
  ⟨fun w _ a ha d ty pos aft gd => by
    have e1 := ha.evals h1
    have e2 := ha.evals h2
    simp [execOp, Instr.makeFunc, e1, e2]⟩
theorem Yl.len {ti : TI} {e : Nat} {po : Option Addr} {l c : Nat} (ht : G.ty t = some ti) (he : ti.elem = some e) (hx : ev E x = some (.slice po l c)) : Yl G n (.call ⟨.builtin .len, #[x], #[t]⟩) E C (.int .i64 l) :=
  ⟨fun w _ a ha d ty pos aft gd => by
    have := (G.tyOk t ti ht).elem e he
    simp [execOp, resolve, invoke, builtin, Builtin.len_, ha.eval hx, run_underlying this, goInt]⟩
theorem Yl.field {ti : TI} {f o bk of_ : Nat} (ht : G.ty t = some ti) (ho : ti.offs[f]? = some o) (hx : ev E x = some (.pointer (some ⟨bk, of_, none⟩))) : Yl G n (.fieldAddr t x f) E C (.pointer (some ⟨bk, of_ + o, none⟩)) :=
  ⟨fun w _ a ha d ty pos aft gd => by
    have := (G.tyOk t ti ht).offs f o ho w ⟨bk, of_, none⟩
    have e : (⟨bk, of_, none⟩ : Addr).add o = ⟨bk, of_ + o, none⟩ := by unfold Addr.add; split <;> simp_all
    simp [execOp, ha.eval hx, this, e]⟩
theorem Yl.field0 {ti : TI} {f bk of_ : Nat} (ht : G.ty t = some ti) (ho : ti.offs[f]? = some 0) (hx : ev E x = some (.pointer (some ⟨bk, of_, none⟩))) : Yl G n (.fieldAddr t x f) E C (.pointer (some ⟨bk, of_, none⟩)) := Yl.field ht ho hx
theorem Yl.idx {ti : TI} {e bk of_ l c i s bt : Nat} {ag : Bool} {el : Option Nat} {os : List Nat} {zr : Value} {ik : Option IntKind} (ht : G.ty t = some ti) (he : ti.elem = some e) (hte : G.ty e = some ⟨s, bt, ag, el, os, zr, ik⟩) (hx : ev E x = some (.slice (some ⟨bk, of_, none⟩) l c)) (hi : ev E y = some (.int k p)) (hp : p = (i : Int)) (hl : i < l) :
    Yl G n (.indexAddr t x y) E C (.pointer (some ⟨bk, of_ + i * s, none⟩)) :=
  ⟨fun w _ a ha d ty pos aft gd => by
    have h1 := (G.tyOk t ti ht).elem e he
    have h2 : (sizeOf e).run G.P w = .ok s w := (G.tyOk e _ hte).size w
    subst hp
    have e1 : (⟨bk, of_, none⟩ : Addr).add (i * s) = ⟨bk, of_ + i * s, none⟩ := by
      unfold Addr.add; split
      · rename_i h; rw [h]; rfl
      · rfl
    simp [execOp, ha.eval hx, ha.eval hi, Instr.indexAt, asIntOf, run_underlying h1, hl, h2, e1]⟩
theorem Yl.idx1 {ti : TI} {e bk of_ l c i bt : Nat} {ag : Bool} {el : Option Nat} {os : List Nat} {zr : Value} {ik : Option IntKind} (ht : G.ty t = some ti) (he : ti.elem = some e) (hte : G.ty e = some ⟨1, bt, ag, el, os, zr, ik⟩) (hx : ev E x = some (.slice (some ⟨bk, of_, none⟩) l c)) (hi : ev E y = some (.int k p)) (hp : p = (i : Int)) (hl : i < l) :
    Yl G n (.indexAddr t x y) E C (.pointer (some ⟨bk, of_ + i, none⟩)) := by
  have := Yl.idx (G := G) (n := n) (E := E) (C := C) ht he hte hx hi hp hl
  rwa [Nat.mul_one] at this
theorem Yl.conv {ti td : TI} {k1 k2 : IntKind} {p' : Int} (hs : G.ty t = some ti) (hs' : ti.ik = some k1) (hd : G.ty t2 = some td) (hd' : td.ik = some k2) (hx : ev E x = some (.int k p)) (hr : k2.wrap p = p') : Yl G n (.convert t t2 x) E C (.int k2 p') :=
  ⟨fun w _ a ha d ty pos aft gd => by
    have h1 := (G.tyOk t ti hs).intk k1 hs'
    have h2 := (G.tyOk t2 td hd).intk k2 hd'
    simp [execOp, ha.eval hx, convert, run_underlying h1, run_underlying h2, Conv.intToInt, hr]⟩
theorem Yl.convI {ti td : TI} {k1 : IntKind} (hs : G.ty t = some ti) (hs' : ti.ik = some k1) (hd : G.ty t2 = some td) (hd' : td.ik = some .i64) (hx : ev E x = some (.int k p)) (h : -9223372036854775808 ≤ p ∧ p ≤ 9223372036854775807) : Yl G n (.convert t t2 x) E C (.int .i64 p) := Yl.conv hs hs' hd hd' hx (IntWalk.i64_in _ h)
theorem Yl.convU {ti td : TI} {k1 : IntKind} (hs : G.ty t = some ti) (hs' : ti.ik = some k1) (hd : G.ty t2 = some td) (hd' : td.ik = some .u64) (hx : ev E x = some (.int k p)) (h : 0 ≤ p ∧ p ≤ 18446744073709551615) : Yl G n (.convert t t2 x) E C (.int .u64 p) := Yl.conv hs hs' hd hd' hx (IntWalk.u64_in _ h)
theorem Yl.shr1 {yk : IntKind} (hx : ev E x = some (.int k p)) (hy : ev E y = some (.int yk 1)) : Yl G n (.binOp .shr t x y t2) E C (.int k (p / 2)) :=
  ⟨fun w _ a ha d ty pos aft gd => by
    have hb : min 1 k.bits = 1 := by cases k <;> rfl
    have hf : p.fdiv 2 = p / 2 := Int.fdiv_eq_ediv_of_nonneg p (by omega)
    simp [execOp, ha.eval hx, ha.eval hy, eqGuard, binOp, Op.shift, hb, hf]⟩
theorem Yl.eqNil {ti : TI} {e : Nat} {po : Option Addr} {l c : Nat} (ht : G.ty t = some ti) (he : ti.elem = some e) (hx : ev E x = some (.slice po l c)) (hy : ev E y = some (.slice none 0 0)) : Yl G n (.binOp .eql t x y t2) E C (.bool po.isNone) :=
  ⟨fun w _ a ha d ty pos aft gd => by
    have h1 := (G.tyOk t ti ht).elem e he
    have h2 : ∀ m, (Op.equalIn (m + 1) t (.slice po l c) (.slice none 0 0)).run G.P w = .ok po.isNone w := by
      intro m; cases po <;> simp [Op.equalIn, run_underlying h1]
    have h3 : (Op.equal t (.slice po l c) (.slice none 0 0)).run G.P w = .ok po.isNone w := h2 9999
    simp [execOp, ha.eval hx, ha.eval hy, eqGuard, binOp, h3]⟩
theorem Yl.load {ti : TI} {ad : Addr} (ht : G.ty t = some ti) (ha : ti.agg = false) (hx : ev E x = some (.pointer (some ad))) (hc : ∀ w, C w → w.cell? ad = some v) : Yl G n (.load t x) E C v :=
  ⟨fun w hw a ha' d ty pos aft gd => by
    have := (G.tyOk t ti ht).agg w
    rw [ha] at this
    simp [execOp, ha'.eval hx, Instr.loadAt, Instr.sureAddr, loadVar, this, hc w hw]⟩
theorem run_loadCells {P : Program} {w : World} {bk : Nat} : ∀ (cs : List Value) (i o : Nat) (acc : Array Value), (∀ j, j < cs.length → w.cell? ⟨bk, o + i + j, none⟩ = cs[j]?) → (loadCellsFrom ⟨bk, o, none⟩ i cs.length acc).run P w = .ok (acc ++ cs.toArray) w
  | [], i, o, acc, _ => by simp [loadCellsFrom]
  | c :: r, i, o, acc, h => by
    have h0 := h 0 (by simp)
    have e : (⟨bk, o, none⟩ : Addr).add i = ⟨bk, o + i, none⟩ := by
      unfold Addr.add; split
      · rename_i h; rw [h]; rfl
      · rfl
    have ih := run_loadCells (P := P) (w := w) (bk := bk) r (i + 1) o (acc.push c) (fun j hj => by
      have := h (j + 1) (by simp; omega)
      have e2 : o + (i + 1) + j = o + i + (j + 1) := by omega
      rw [e2, this]; simp)
    simp only [List.length_cons, loadCellsFrom, e]
    simp only [Nat.add_zero, List.getElem?_cons_zero] at h0
    simp [h0, ih]
theorem Yl.loadA {ti : TI} {bk of_ s : Nat} {cs : List Value} (ht : G.ty t = some ti) (ha : ti.agg = true) (hs : ti.size = s) (hx : ev E x = some (.pointer (some ⟨bk, of_, none⟩))) (hl : cs.length = s) (hc : ∀ w, C w → ∀ j, j < s → w.cell? ⟨bk, of_ + j, none⟩ = cs[j]?) : Yl G n (.load t x) E C (.agg cs.toArray) :=
  ⟨fun w hw a ha' d ty pos aft gd => by
    have h1 := (G.tyOk t ti ht).agg w
    have h2 := (G.tyOk t ti ht).size w
    rw [ha] at h1
    subst hl
    have h3 := run_loadCells (P := G.P) (w := w) (bk := bk) cs 0 of_ #[] (fun j hj => by simpa using hc w hw j hj)
    simp [execOp, ha'.eval hx, Instr.loadAt, Instr.sureAddr, loadVar, h1, h2, hs, loadCells, h3]⟩
end
/-! which kind of operation stands next -/
section
variable {G : Prg} {ops : Array Oper} {M : Mode} {n : Nat} {E : Env} {rest l : List Oper} {op : Op} {ty : TypeId} {pos : String} {aft : Array Edge} {d : Option Nat} {gd : Option (Nat × Bool)} {x y : Operand} {t t2 : TypeId} {w : World} {Q : Exit → Act → World → Prop}
theorem Ops.is (h : Ops G ops M n l E) : Ops G ops M n l E := h
theorem Cd.is {c : Code} (h : Cd G Q n c E w) : Cd G Q n c E w := h
theorem Fin.is {e : Exit} (h : Fin Q n e E w) : Fin Q n e E w := h
theorem Ops.isG {jb : Nat × Bool} (h : Ops G ops M n (⟨d, op, ty, pos, aft, some jb⟩ :: rest) E) : Ops G ops M n (⟨d, op, ty, pos, aft, some jb⟩ :: rest) E := h
theorem Ops.isBin {bo : BinOp} (h : Ops G ops M n (⟨d, .binOp bo t x y t2, ty, pos, aft, gd⟩ :: rest) E) : Ops G ops M n (⟨d, .binOp bo t x y t2, ty, pos, aft, gd⟩ :: rest) E := h
theorem Ops.isIdx (h : Ops G ops M n (⟨d, .indexAddr t x y, ty, pos, aft, gd⟩ :: rest) E) : Ops G ops M n (⟨d, .indexAddr t x y, ty, pos, aft, gd⟩ :: rest) E := h
theorem Ops.isField {f : Nat} (h : Ops G ops M n (⟨d, .fieldAddr t x f, ty, pos, aft, gd⟩ :: rest) E) : Ops G ops M n (⟨d, .fieldAddr t x f, ty, pos, aft, gd⟩ :: rest) E := h
theorem Ops.isLoad (h : Ops G ops M n (⟨d, .load t x, ty, pos, aft, gd⟩ :: rest) E) : Ops G ops M n (⟨d, .load t x, ty, pos, aft, gd⟩ :: rest) E := h
end
end Go.Proofs.YtgbgnipidakdhaaGreatDoor
