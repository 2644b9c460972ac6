/- The walk's own rules: a frame is known by a list of its slots; a rule for each operation and each form of code. Nothing of a single program stands here but its name. -/
import Derived.Test.YtgbgnipidakdhaaGreatDoorProg
import Derived.WalkKit
import Derived.KernelRfl
import Derived.Deep.Quiet
import Derived.StillTail
import Derived.Test.YtgbgnipidakdhaaGreatDoorJM
namespace Go.Proofs.YtgbgnipidakdhaaGreatDoor
open Go.RowKit

/-- the slots that are known -/
abbrev Env := List (Nat × Value)

def lk : Env → Nat → Option Value
  | [], _ => none
  | (t, v) :: r, n => bif Nat.beq t n then some v else lk r n

def ev (E : Env) : Operand → Option Value
  | .tmp t => lk E t
  | .const v => some v
  | .global g => some (.pointer (some ⟨g, 0, none⟩))
  | .func f => some (.func (.func f) #[] #[])

def evs (E : Env) : List Operand → Option (List Value)
  | [] => some []
  | x :: r => match ev E x, evs E r with
    | some v, some vs => some (v :: vs)
    | _, _ => none

/-- the frame a agrees with what is known -/
structure Ag (n : Nat) (a : Act) (E : Env) : Prop where
  sz : a.tmps.size = n
  df : a.defers = []
  eq : ∀ t v, lk E t = some v → t < n ∧ a.tmps.getD t undef = v

theorem lk_cons (t : Nat) (v : Value) (E : Env) (n : Nat) : lk ((t, v) :: E) n = if t = n then some v else lk E n := by
  simp only [lk]
  by_cases h : t = n
  · subst h; simp
  · rw [if_neg h]
    have : Nat.beq t n = false := by
      rw [Bool.eq_false_iff]; intro e; exact h (Nat.eq_of_beq_eq_true e)
    rw [this]; rfl

theorem Ag.eval {n : Nat} {a : Act} {E : Env} (h : Ag n a E) {x : Operand} {v : Value} (hx : ev E x = some v) : a.eval x = v := by
  cases x with
  | tmp t => exact (h.eq t v hx).2
  | const u => simp only [ev, Option.some.injEq] at hx; exact hx
  | global g => simp only [ev, Option.some.injEq] at hx; exact hx
  | func f => simp only [ev, Option.some.injEq] at hx; exact hx

theorem Ag.evals {n : Nat} {a : Act} {E : Env} (h : Ag n a E) : ∀ {xs : List Operand} {vs : List Value}, evs E xs = some vs → xs.map a.eval = vs
  | [], vs, hx => by simp [evs] at hx; simp [hx]
  | x :: r, vs, hx => by
    simp only [evs] at hx
    cases h1 : ev E x with
    | none => simp [h1] at hx
    | some v =>
      cases h2 : evs E r with
      | none => simp [h1, h2] at hx
      | some us =>
        simp only [h1, h2, Option.some.injEq] at hx
        subst hx
        simp [h.eval h1, h.evals h2]

theorem Ag.put {n : Nat} {a : Act} {E : Env} (h : Ag n a E) {d : Nat} (hd : d < n) (v : Value) : Ag n (a.put (some d) v) ((d, v) :: E) := by
  refine ⟨by simp [Act.put, h.sz], by simp [Act.put, h.df], fun t u ht => ?_⟩
  rw [lk_cons] at ht
  by_cases e : d = t
  · subst e
    rw [if_pos rfl] at ht
    cases ht
    refine ⟨hd, ?_⟩
    have hs : d < a.tmps.size := by rw [h.sz]; exact hd
    simp [Act.put, Array.getD, hs]
  · rw [if_neg e] at ht
    obtain ⟨h1, h2⟩ := h.eq t u ht
    refine ⟨h1, ?_⟩
    rw [← h2]
    have ht' : t < a.tmps.size := by rw [h.sz]; exact h1
    simp [Act.put, Array.getD, ht', e]

/-- what E' knows, E knows -/
structure Sub (E E' : Env) : Prop where
  h : ∀ t v, lk E' t = some v → lk E t = some v

theorem Sub.nil (E : Env) : Sub E [] := ⟨fun _ _ h => by cases h⟩
theorem Sub.cons {E r : Env} {t : Nat} {v u : Value} (h1 : lk E t = some u) (h2 : u = v) (h : Sub E r) : Sub E ((t, v) :: r) := ⟨fun s x hs => by
  rw [lk_cons] at hs
  by_cases e : t = s
  · subst e; rw [if_pos rfl] at hs; cases hs; rw [h1, h2]
  · rw [if_neg e] at hs; exact h.h s x hs⟩
theorem Ag.sub {n : Nat} {a : Act} {E E' : Env} (h : Ag n a E) (hs : Sub E E') : Ag n a E' := ⟨h.sz, h.df, fun t v ht => h.eq t v (hs.h t v ht)⟩

/-- a type's row -/
structure TI where
  size : Nat
  bytes : Nat
  agg : Bool
  elem : Option Nat
  offs : List Nat
  zero : Value
  ik : Option IntKind

structure TyOk (P : Program) (t : Nat) (i : TI) : Prop where
  info : (P.info? t).map (fun j => (j.zero, j.size, j.bytes)) = some (some i.zero, i.size, i.bytes)
  size : ∀ w, (sizeOf t).run P w = .ok i.size w
  zeroV : ∀ w, (zeroValue t).run P w = .ok i.zero w
  agg : ∀ w, (isAgg t).run P w = .ok i.agg w
  elem : ∀ e, i.elem = some e → P.underlying t = some (.slice e)
  intk : ∀ k, i.ik = some k → P.underlying t = some (.int k)
  offs : ∀ f o, i.offs[f]? = some o → ∀ w a, (Instr.fieldAt t (.pointer (some a)) f).run P w = .ok (.pointer (some (a.add o))) w

/-- function f has a body -/
def fchk (P : Program) (f : Nat) : Bool :=
  match P.funcs[f]? with
  | some fn => fn.body.isSome && !(fn.name == "runtime.NumGoroutine")
  | none => false
theorem fchk_ok {P : Program} {f : Nat} (h : fchk P f = true) (vs : Array Value) (w : World) : (callFunc f vs).run P w = .ok (.enter f vs) w := by
  unfold fchk at h
  cases hf : P.funcs[f]? with
  | none => simp [hf] at h
  | some fn =>
    simp only [hf, Bool.and_eq_true, Bool.not_eq_true'] at h
    obtain ⟨h1, h2⟩ := h
    have h3 : fn.body ≠ none := by intro e; simp [e] at h1
    have h4 : fn.name ≠ "runtime.NumGoroutine" := by intro e; simp [e] at h2
    simp [callFunc, program, Sem.run, hf, h3, h4]
def fbs (P : Program) : List Bool → Nat → Bool
  | [], _ => true
  | b :: r, i => (!b || fchk P i) && fbs P r (i + 1)
theorem fbs_ok {P : Program} : ∀ (l : List Bool) (i : Nat), fbs P l i = true → ∀ f, l[f]? = some true → fchk P (i + f) = true
  | [], _, _, _, h => by simp at h
  | b :: r, i, h, f, hf => by
    simp only [fbs, Bool.and_eq_true] at h
    cases f with
    | zero => simp at hf; subst hf; simpa using h.1
    | succ f =>
      have := fbs_ok r (i + 1) h.2 f (by simpa using hf)
      rwa [show i + (f + 1) = i + 1 + f by omega]
def AllTy (P : Program) : List (Option TI) → Nat → Prop
  | [], _ => True
  | none :: r, k => AllTy P r (k + 1)
  | some i :: r, k => TyOk P k i ∧ AllTy P r (k + 1)
theorem AllTy.get {P : Program} : ∀ (l : List (Option TI)) (k : Nat), AllTy P l k → ∀ t i, (l[t]?).bind id = some i → TyOk P (k + t) i
  | [], _, _, t, i, h => by simp at h
  | none :: r, k, ha, t, i, h => by
    cases t with
    | zero => simp at h
    | succ t =>
      have := AllTy.get r (k + 1) ha t i (by simpa using h)
      rwa [show k + (t + 1) = k + 1 + t by omega]
  | some j :: r, k, ha, t, i, h => by
    cases t with
    | zero => simp at h; subst h; exact ha.1
    | succ t =>
      have := AllTy.get r (k + 1) ha.2 t i (by simpa using h)
      rwa [show k + (t + 1) = k + 1 + t by omega]

/-- a program and what is known of its types and functions -/
structure Prg where
  P : Program
  tb : List (Option TI)
  fb : List Bool
  tyOk : ∀ t i, (tb[t]?).bind id = some i → TyOk P t i
  fnOk : ∀ f, fb[f]? = some true → ∀ vs w, (callFunc f vs).run P w = .ok (.enter f vs) w
  mixed : P.follows .mixedOrders = true

def Prg.ty (G : Prg) (t : Nat) : Option TI := (G.tb[t]?).bind id

/-- how the operations of a region are gone through: one by one in the world w; in whatever order, in the one world w; in whatever order, in the worlds of a class -/
inductive Mode where
  | list (Q : Exit → Act → World → Prop) (w : World)
  | still (K : Act → Prop) (w : World)
  | quiet (K : Act → Prop) (C : World → Prop)
  | mix (sk : Bool) (Q : Exit → Act → World → Prop) (C : World → Prop) (w : World)

def Mode.run (G : Prg) (ops : Array Oper) : Mode → List Oper → Act → Prop
  | .list Q w => fun l a => wpList G.P ops Q l a w
  | .still K w => fun l a => wpStill G.P ops w K l a
  | .quiet K C => fun l a => wpQuiet G.P ops C K l a
  | .mix sk Q C w => fun l a => wpMix G.P ops C sk (Q .normal) l a w

def Mode.C : Mode → World → Prop
  | .list _ w => fun w' => w' = w
  | .still _ w => fun w' => w' = w
  | .quiet _ C => C
  | .mix _ _ C _ => C

/-- the operations l of a region, from a frame that agrees with E -/
structure Ops (G : Prg) (ops : Array Oper) (M : Mode) (n : Nat) (l : List Oper) (E : Env) : Prop where
  h : ∀ a, Ag n a E → M.run G ops l a
structure Cd (G : Prg) (Q : Exit → Act → World → Prop) (n : Nat) (c : Code) (E : Env) (w : World) : Prop where
  h : ∀ a, Ag n a E → c.wp G.P Q a w
structure Fin (Q : Exit → Act → World → Prop) (n : Nat) (e : Exit) (E : Env) (w : World) : Prop where
  h : ∀ a, Ag n a E → Q e a w

section code
variable {G : Prg} {Q : Exit → Act → World → Prop} {n : Nat} {E : Env} {w : World}

theorem Cd.seq {x y : Code} (h : Cd G (Exit.then (y.wp G.P Q) Q) n x E w) : Cd G Q n (.seq x y) E w := ⟨fun a ha => wp_seq (h.h a ha)⟩
theorem Cd.block {id : Nat} {c : Code} (h : Cd G (Exit.inBlock id Q) n c E w) : Cd G Q n (.block id c) E w := ⟨fun a ha => wp_block (h.h a ha)⟩
theorem Cd.skip (h : Fin Q n .normal E w) : Cd G Q n .skip E w := ⟨fun a ha => wp_skip (h.h a ha)⟩
theorem Cd.label {l : Nat} (h : Fin Q n .normal E w) : Cd G Q n (.label l) E w := ⟨fun a ha => wp_label (h.h a ha)⟩
theorem Cd.exit {id : Nat} (h : Fin Q n (.exit id) E w) : Cd G Q n (.exit id) E w := ⟨fun a ha => wp_exit (h.h a ha)⟩
theorem Cd.ret (h : Fin Q n .ret E w) : Cd G Q n .ret E w := ⟨fun a ha => wp_ret (h.h a ha)⟩
theorem Cd.region {id : Nat} {l : List Oper} (h : Ops G l.toArray (.list Q w) n l E) : Cd G Q n (.region id l.toArray false) E w := ⟨fun a ha => wp_region_lit (h.h a ha)⟩
theorem Cd.condT {c : Operand} {x y : Code} (hc : ev E c = some (.bool true)) (h : Cd G Q n x E w) : Cd G Q n (.cond c x y) E w := ⟨fun a ha => wp_cond_true (ha.eval hc) (h.h a ha)⟩
theorem Cd.condF {c : Operand} {x y : Code} (hc : ev E c = some (.bool false)) (h : Cd G Q n y E w) : Cd G Q n (.cond c x y) E w := ⟨fun a ha => wp_cond_false (ha.eval hc) (h.h a ha)⟩

/-- a region that draws its order and leaves the world alone but for the draws -/
theorem Cd.regionQ {id : Nat} {l : List Oper} (hB : Region.lexB .any l.toArray = true)
    (h : Ops G l.toArray (.quiet (fun a' => ∀ w', (∃ k, w' = w.drewN k) → Q .normal a' w') (fun w' => ∃ k, w' = w.drewN k)) n l E) : Cd G Q n (.region id l.toArray true) E w :=
  ⟨fun a ha => wp_region_quiet_lit G.mixed hB (h.h a ha)⟩
/-- a region that draws its order; each operation gives one value in every world of the class -/
theorem Cd.regionC {id : Nat} {l : List Oper} (C : World → Prop) (hB : Region.lexB .any l.toArray = true) (hC : C w.drew)
    (h : Ops G l.toArray (.quiet (fun a' => ∀ w', C w' → Q .normal a' w') C) n l E) : Cd G Q n (.region id l.toArray true) E w :=
  ⟨fun a ha => wp_region_quiet G.mixed hB hC (by have := h.h a ha; simp only [Mode.run] at this; simpa using this)⟩
/-- the same, where the last operation z waits for all others: the class need not hold behind it -/
theorem Cd.regionS {id : Nat} {l : List Oper} (ord : List Nat) (z : Nat) (C : World → Prop) (hB : mixSB l ord z = true) (hC : C w.drew)
    (h : Ops G l.toArray (.mix true Q C w.drew) n (pick l (ord ++ [z])) E) : Cd G Q n (.region id l.toArray true) E w :=
  ⟨fun a ha => wp_region_mixS ord z G.mixed hB hC (h.h a ha)⟩
theorem Ops.nilM {ops : Array Oper} {sk : Bool} {C : World → Prop} (h : Fin Q n .normal E w) : Ops G ops (.mix sk Q C w) n [] E := ⟨fun a ha => h.h a ha⟩
theorem Ops.nil {ops : Array Oper} (h : Fin Q n .normal E w) : Ops G ops (.list Q w) n [] E := ⟨fun a ha => h.h a ha⟩
theorem Ops.nilT {ops : Array Oper} {l : List Oper} (h : Ops G ops (.list Q w) n l E) : Ops G ops (.still (fun a' => wpList G.P ops Q l a' w) w) n [] E := ⟨fun a ha => h.h a ha⟩
theorem Fin.thenN {y : Code} (h : Cd G Q n y E w) : Fin (Exit.then (y.wp G.P Q) Q) n .normal E w := ⟨fun a ha => h.h a ha⟩
theorem Fin.thenR {K : Act → World → Prop} (h : Fin Q n .ret E w) : Fin (Exit.then K Q) n .ret E w := ⟨fun a ha => h.h a ha⟩
theorem Fin.thenX {K : Act → World → Prop} {id : Nat} (h : Fin Q n (.exit id) E w) : Fin (Exit.then K Q) n (.exit id) E w := ⟨fun a ha => h.h a ha⟩
theorem Fin.blkN {id : Nat} (h : Fin Q n .normal E w) : Fin (Exit.inBlock id Q) n .normal E w := ⟨fun a ha => h.h a ha⟩
theorem Fin.blkR {id : Nat} (h : Fin Q n .ret E w) : Fin (Exit.inBlock id Q) n .ret E w := ⟨fun a ha => h.h a ha⟩
theorem Fin.blkX {id : Nat} (h : Fin Q n .normal E w) : Fin (Exit.inBlock id Q) n (.exit id) E w := ⟨fun a ha => by simp only [Exit.inBlock, if_true]; exact h.h a ha⟩
theorem Fin.blkY {id id' : Nat} (hne : Nat.beq id' id = false) (h : Fin Q n (.exit id') E w) : Fin (Exit.inBlock id Q) n (.exit id') E w := ⟨fun a ha => by
  have : id' ≠ id := fun e => by subst e; simp at hne
  simp only [Exit.inBlock, if_neg this]; exact h.h a ha⟩
theorem Fin.sub {e : Exit} {E' : Env} (hs : Sub E E') (h : Fin Q n e E' w) : Fin Q n e E w := ⟨fun a ha => h.h a (ha.sub hs)⟩
theorem Cd.sub {c : Code} {E' : Env} (hs : Sub E E') (h : Cd G Q n c E' w) : Cd G Q n c E w := ⟨fun a ha => h.h a (ha.sub hs)⟩
theorem Ops.sub {ops : Array Oper} {M : Mode} {l : List Oper} {E' : Env} (hs : Sub E E') (h : Ops G ops M n l E') : Ops G ops M n l E := ⟨fun a ha => h.h a (ha.sub hs)⟩

/-- a loop whose measure is a ghost -/
theorem wp_loop_ghost {P : Program} {c : Code} (I : Nat → Act → World → Prop) {a : Act} (h0 : ∃ m, I m a w)
    (round : ∀ m a w, I m a w → c.wp P (Exit.then (fun a' w' => ∃ m', m' < m ∧ I m' a' w') Q) a w) : (Code.loop c).wp P Q a w := by
  intro b k cs
  have key : ∀ m a w, I m a w → ∃ e a' w', Q e a' w' ∧ Arrives P (lone (b.at a (.code c :: .inLoop c :: k)) cs w) b k cs e a' w' := by
    intro m
    induction m using Nat.strongRecOn with
    | _ m ih =>
      intro a w hI
      obtain ⟨e, a₁, w₁, hq, harr⟩ := round m a w hI b (.inLoop c :: k) cs
      cases e with
      | normal =>
        obtain ⟨m', hlt, hI₁⟩ := hq
        obtain ⟨e₂, a₂, w₂, hq₂, harr₂⟩ := ih m' hlt a₁ w₁ hI₁
        exact ⟨e₂, a₂, w₂, hq₂, .of_steps (Steps.trans harr (.one step_inLoop)) harr₂⟩
      | exit id => exact ⟨_, a₁, w₁, hq, .pass (x := .inLoop c) rfl (fun _ _ => .inl (by simp)) harr⟩
      | goto l => exact ⟨_, a₁, w₁, hq, .pass (x := .inLoop c) rfl (fun _ _ => .inl (by simp)) harr⟩
      | ret => exact ⟨_, a₁, w₁, hq, .pass (x := .inLoop c) rfl (fun _ _ => .inl (by simp)) harr⟩
      | panic ch => exact ⟨_, a₁, w₁, hq, .pass (x := .inLoop c) rfl (fun _ _ => .inl (by simp)) harr⟩
      | outgrown => exact ⟨_, a₁, w₁, hq, .pass (x := .inLoop c) rfl (fun _ _ => .inl (by simp)) harr⟩
  obtain ⟨m, hm⟩ := h0
  obtain ⟨e, a', w', hq, harr⟩ := key m a w hm
  exact ⟨e, a', w', hq, .of_steps (.one step_loop) harr⟩

/-- what a round must leave: the state s' of the loop, lower in measure -/
def LoopNext {σ : Type} (n : Nat) (Ei : σ → Env) (Wi : σ → World → Prop) (μ : σ → Nat) (s : σ) : Act → World → Prop :=
  fun a w => ∃ s', μ s' < μ s ∧ Ag n a (Ei s') ∧ Wi s' w

theorem Cd.loop {σ : Type} {c : Code} (Ei : σ → Env) (Wi : σ → World → Prop) (μ : σ → Nat) (s0 : σ) (hE : Sub E (Ei s0)) (hW : Wi s0 w)
    (round : ∀ s w, Wi s w → Cd G (Exit.then (LoopNext n Ei Wi μ s) Q) n c (Ei s) w) : Cd G Q n (.loop c) E w := ⟨fun a ha => by
  refine wp_loop_ghost (fun m a w => ∃ s, μ s = m ∧ Ag n a (Ei s) ∧ Wi s w) ⟨_, s0, rfl, ha.sub hE, hW⟩ ?_
  rintro m a w ⟨s, rfl, hs, hw⟩
  refine Code.wp_mono ?_ ((round s w hw).h a hs)
  intro e a' w' q
  cases e with
  | normal =>
    obtain ⟨s', h1, h2, h3⟩ := q
    exact ⟨μ s', h1, s', rfl, h2, h3⟩
  | _ => exact q⟩

theorem Fin.next {σ : Type} {Ei : σ → Env} {Wi : σ → World → Prop} {μ : σ → Nat} {s : σ} (s' : σ) (hE : Sub E (Ei s')) (hW : Wi s' w) (hμ : μ s' < μ s) :
    Fin (Exit.then (LoopNext n Ei Wi μ s) Q) n .normal E w := ⟨fun _ ha => ⟨s', hμ, ha.sub hE, hW⟩⟩

end code

/-- the first frame of a call -/
def argE : Nat → List Value → Env
  | _, [] => []
  | i, v :: r => (i, v) :: argE (i + 1) r

theorem lk_argE : ∀ (l : List Value) (i t : Nat) (v : Value), lk (argE i l) t = some v → i ≤ t ∧ l[t - i]? = some v
  | [], _, _, _, h => by cases h
  | u :: r, i, t, v, h => by
    rw [argE, lk_cons] at h
    by_cases e : i = t
    · subst e; rw [if_pos rfl] at h; simp [← h]
    · rw [if_neg e] at h
      obtain ⟨h1, h2⟩ := lk_argE r (i + 1) t v h
      refine ⟨by omega, ?_⟩
      have : t - i = (t - (i + 1)) + 1 := by omega
      rw [this]; simpa using h2

theorem enter {G : Prg} {f : FuncId} {fn : Func} {c : Code} {n : Nat} {l : List Value} {w : World} {R : Ending → World → Prop} (hf : G.P.funcs[f]? = some fn) (hb : fn.body = some c) (hn : fn.ntmps = n) (hl : Nat.ble l.length n = true)
    (h : Cd G (bodyPost G.P fn R) n c (argE 0 l) w) : Calls G.P f l.toArray w R := by
  refine calls_of_wp hf hb (h.h _ ?_)
  have hl' : l.length ≤ n := Nat.le_of_ble_eq_true hl
  refine ⟨by simp [hn]; omega, rfl, fun t v ht => ?_⟩
  obtain ⟨_, h2⟩ := lk_argE l 0 t v ht
  rw [Nat.sub_zero] at h2
  obtain ⟨h3, h4⟩ := List.getElem?_eq_some_iff.1 h2
  refine ⟨by omega, ?_⟩
  have : t < (l.toArray ++ Array.replicate (fn.ntmps - l.toArray.size) undef).size := by simp; omega
  simp only [Array.getD, this, dite_true]
  rw [Array.getInternal_eq_getElem, Array.getElem_append_left (by simpa using h3)]
  simpa using h4

section ends
variable {P : Program} {fn : Func} {R : Ending → World → Prop} {n : Nat} {E : Env} {w : World}

theorem Fin.ofRun {e : Exit} {v : Value} (he : e = .ret ∨ e = .normal) (hr : ∀ a, Ag n a E → (results fn a.tmps).run P w = .ok v w) (hR : R (.returned v) w) : Fin (bodyPost P fn R) n e E w := ⟨fun a ha => by
  rcases he with rfl | rfl
  · exact ⟨ha.df, v, hr a ha, hR⟩
  · exact ⟨ha.df, v, hr a ha, hR⟩⟩
theorem Fin.ret0 (hr : fn.results = #[]) (hR : R (.returned (.tuple #[])) w) : Fin (bodyPost P fn R) n .ret E w :=
  Fin.ofRun (.inl rfl) (fun a _ => results_none hr a.tmps P w) hR
theorem Fin.end0 (hr : fn.results = #[]) (hR : R (.returned (.tuple #[])) w) : Fin (bodyPost P fn R) n .normal E w :=
  Fin.ofRun (.inr rfl) (fun a _ => results_none hr a.tmps P w) hR
theorem Fin.ret1 {t : Nat} {v : Value} (hr : fn.results = #[.tmp t]) (hv : lk E t = some v) (hR : R (.returned v) w) : Fin (bodyPost P fn R) n .ret E w :=
  Fin.ofRun (.inl rfl) (fun a ha => by rw [results_tmp hr, (ha.eq t v hv).2]) hR
theorem Fin.ret2 {t u : Nat} {v x : Value} (hr : fn.results = #[.tmp t, .tmp u]) (hv : lk E t = some v) (hx : lk E u = some x) (hR : R (.returned (.tuple #[v, x])) w) : Fin (bodyPost P fn R) n .ret E w :=
  Fin.ofRun (.inl rfl) (fun a ha => by rw [results_tmp2 hr, (ha.eq t v hv).2, (ha.eq u x hx).2]) hR
end ends

end Go.Proofs.YtgbgnipidakdhaaGreatDoor
