/- The walk's own rules for the operations that make or write memory, and for calls. -/
import Derived.Test.YtgbgnipidakdhaaGreatDoorJY
import Derived.WalkSmall
import Derived.Lib.Hide
namespace Go.Proofs.YtgbgnipidakdhaaGreatDoor
open Go.RowKit
theorem vint {k : IntKind} {a b : Int} (h : a = b) : Value.int k a = Value.int k b := by rw [h]
structure Chg (S : Nat → Prop) (w w' : World) : Prop where
  os : w'.os = w.os
  tape : w'.tape = w.tape
  output : w'.output = w.output
  size : w.heap.size ≤ w'.heap.size
  block : ∀ k, k < w.heap.size → ¬ S k → w'.heap[k]? = w.heap[k]?
abbrev Ext (w w' : World) : Prop := Chg (fun _ => False) w w'
theorem Chg.refl (S : Nat → Prop) (w : World) : Chg S w w := ⟨rfl, rfl, rfl, Nat.le_refl _, fun _ _ _ => rfl⟩
theorem Chg.trans {S : Nat → Prop} {a b c : World} (h : Chg S a b) (k : Chg S b c) : Chg S a c :=
  ⟨k.os.trans h.os, k.tape.trans h.tape, k.output.trans h.output, Nat.le_trans h.size k.size,
    fun i hi hs => (k.block i (Nat.lt_of_lt_of_le hi h.size) hs).trans (h.block i hi hs)⟩
theorem Chg.trans' {S T : Nat → Prop} {a b c : World} (h : Chg S a b) (k : Chg T b c) (hT : ∀ i, i < a.heap.size → T i → S i) : Chg S a c :=
  ⟨k.os.trans h.os, k.tape.trans h.tape, k.output.trans h.output, Nat.le_trans h.size k.size,
    fun i hi hs => (k.block i (Nat.lt_of_lt_of_le hi h.size) (fun ht => hs (hT i hi ht))).trans (h.block i hi hs)⟩
theorem Chg.mono {S T : Nat → Prop} {w w' : World} (h : Chg S w w') (hST : ∀ k, k < w.heap.size → S k → T k) : Chg T w w' :=
  ⟨h.os, h.tape, h.output, h.size, fun k hk hs => h.block k hk (fun hk' => hs (hST k hk hk'))⟩
theorem Ext.any {S : Nat → Prop} {w w' : World} (h : Ext w w') : Chg S w w' := h.mono (fun _ _ hk => hk.elim)
theorem Chg.drew {S : Nat → Prop} {a w : World} (h : Chg S a w) : Chg S a w.drew := ⟨h.os, h.tape, h.output, h.size, h.block⟩
theorem Chg.drewN {S : Nat → Prop} {a w : World} (h : Chg S a w) (n : Nat) : Chg S a (w.drewN n) := ⟨h.os, h.tape, h.output, h.size, h.block⟩
theorem Chg.alloc {S : Nat → Prop} {a w : World} (h : Chg S a w) (o : Obj) : Chg S a (w.alloc o) :=
  h.trans ⟨rfl, rfl, rfl, by simp, fun k hk _ => Below.heap_alloc _ _ _ hk⟩
theorem Chg.setCell {S : Nat → Prop} {a w : World} (h : Chg S a w) {p : Addr} (hp : p.block < a.heap.size → S p.block) (u : Value) : Chg S a (w.setCell p u) :=
  h.trans' (T := fun k => k = p.block) ⟨rfl, rfl, rfl, by simp [World.setCell], fun k _ hs => Below.heap_setCell _ _ _ _ hs⟩ (fun i hi e => by subst e; exact hp hi)
theorem Chg.ofGrown {w w' : World} {row : Option Nat} (hg : w.grownBy w' row) : Chg (fun k => row = some k) w w' :=
  ⟨hg.os, hg.tape, hg.output, hg.size, fun k hk hs => hg.block k hk (fun e => hs e.symm)⟩
theorem Chg.below {S : Nat → Prop} {B : Nat} {w w' : World} (h : Chg S w w') (hB : B ≤ w.heap.size) (hS : ∀ k, k < B → ¬ S k) : Below B w w' :=
  ⟨h.os, h.tape, h.output, h.size, fun k hk => h.block k (by omega) (hS k hk)⟩
theorem Ext.ofBelow {w w' : World} (h : Below w.heap.size w w') : Ext w w' :=
  ⟨h.os, h.tape, h.output, h.size, fun k hk _ => h.block k hk⟩
theorem Ext.below {w w' : World} (h : Ext w w') : Below w.heap.size w w' := Chg.below h (Nat.le_refl _) (fun _ _ h => h)
theorem cell_lt {w : World} {p : Addr} {v : Value} (hc : w.cell? p = some v) : p.block < w.heap.size := by
  by_cases hlt : p.block < w.heap.size
  · exact hlt
  · simp [World.cell?, Array.getElem?_eq_none (Nat.le_of_not_lt hlt)] at hc
theorem Chg.cell {S : Nat → Prop} {w w' : World} (h : Chg S w w') {p : Addr} {v : Value} (hp : ¬ S p.block) (hc : w.cell? p = some v) : w'.cell? p = some v := by
  rw [World.cell?_of_block (w := w) (h.block p.block (cell_lt hc) hp)]; exact hc
theorem Ext.cell {w w' : World} (h : Ext w w') {p : Addr} {v : Value} (hc : w.cell? p = some v) : w'.cell? p = some v := Chg.cell h id hc
theorem scell {w : World} {p : Addr} {v : Value} (h : w.cell? p = some v) : ∀ w', w' = w.drew → w'.cell? p = some v := by rintro _ rfl; exact h
theorem ncell {w : World} {p : Addr} {v : Value} {q : Nat} (h : w.cell? p = some v) : ∀ w', w' = w.drewN q → w'.cell? p = some v := by rintro _ rfl; exact h
theorem dcell {w : World} {p : Addr} {v : Value} (h : w.cell? p = some v) : ∀ w', (∃ k, w' = w.drewN k) → w'.cell? p = some v := by rintro _ ⟨k, rfl⟩; exact h
theorem ecell {w : World} {p : Addr} {v : Value} (h : w.cell? p = some v) : ∀ w', Ext w w' → w'.cell? p = some v := fun _ hw => hw.cell h
theorem drewN_drew (w : World) (a : Nat) : (w.drewN a).drew = w.drewN (a + 1) := by simp only [World.drewN, World.drew, Nat.add_assoc]
theorem Ext.drewN (w : World) (q : Nat) : Ext w (w.drewN q) := (Chg.refl _ w).drewN q
theorem Cd.regionN {G : Prg} {Q : Exit → Act → World → Prop} {n : Nat} {E : Env} {w : World} {q : Nat} {id : Nat} {l : List Oper} (hB : Region.lexB .any l.toArray = true)
    (h : Ops G l.toArray (.quiet (fun a' => ∀ w', (∃ k, w' = w.drewN k) → Q .normal a' w') (fun w' => ∃ k, w' = w.drewN k)) n l E) : Cd G Q n (.region id l.toArray true) E (w.drewN q) :=
  Cd.regionC (fun w' => ∃ k, w' = w.drewN k) hB ⟨q + 1, drewN_drew w q⟩ h
def Blk (w : World) (b : Nat) (cs : List Value) (T : TypeId) : Prop := w.heap[b]? = some (.cells cs.toArray T (0, 0))
theorem Blk.lt {w : World} {b : Nat} {cs : List Value} {T : TypeId} (h : Blk w b cs T) : b < w.heap.size := by
  by_cases hlt : b < w.heap.size
  · exact hlt
  · simp [Blk, Array.getElem?_eq_none (Nat.le_of_not_lt hlt)] at h
theorem Blk.cell {w : World} {b : Nat} {cs : List Value} {T : TypeId} (h : Blk w b cs T) {j : Nat} {v : Value} (hj : cs[j]? = some v) : w.cell? ⟨b, j, none⟩ = some v := by
  unfold Blk at h; simp [World.cell?, h, hj]
theorem Blk.free {w : World} {b : Nat} {cs : List Value} {T : TypeId} (h : Blk w b cs T) (j : Nat) : w.frozen? ⟨b, j, none⟩ = false := by
  unfold Blk at h; simp [World.frozen?, h]
theorem Blk.chg {S : Nat → Prop} {w w' : World} {b : Nat} {cs : List Value} {T : TypeId} (h : Blk w b cs T) (hc : Chg S w w') (hb : ¬ S b) : Blk w' b cs T := by
  unfold Blk at *; rw [hc.block b (Blk.lt h) hb]; exact h
theorem Blk.set {w : World} {b : Nat} {cs : List Value} {T : TypeId} (h : Blk w b cs T) (j : Nat) (v : Value) : Blk (w.setCell ⟨b, j, none⟩ v) b (cs.set j v) T := by
  unfold Blk at *
  simp [World.setCell, Array.getElem?_modify, h]
structure New (w w' : World) (cs : List Value) (T : TypeId) : Prop where
  ext : Ext w w'
  size : w'.heap.size = w.heap.size + 1
  blk : Blk w' w.heap.size cs T
theorem New.alloc (w : World) (cs : List Value) (T : TypeId) : New w (w.alloc (.cells cs.toArray T)) cs T :=
  ⟨(Chg.refl _ _).alloc _, by simp, heap_alloc_new w _⟩
section
variable {G : Prg} {ops : Array Oper} {Q : Exit → Act → World → Prop} {C : World → Prop} {n : Nat} {E : Env} {w : World} {rest : List Oper} {op : Op} {ty : TypeId} {pos : String} {aft : Array Edge} {v : Value} {d : Nat} {x y z : Operand} {t : TypeId} {K : Value → World → Prop}
structure Eff (G : Prg) (n : Nat) (op : Op) (E : Env) (w : World) (K : Value → World → Prop) : Prop where
  h : ∀ a, Ag n a E → ∀ d ty pos aft gd, effUp G.P K ((execOp a.eval ⟨d, op, ty, pos, aft, gd⟩).run G.P w)
theorem run_eL {a : Act} {o : Oper} (hg : Region.wanted o (yielded ops a.tmps) = true) (h : effUp G.P (fun v w' => wpList G.P ops Q rest (a.put o.dst v) w') ((execOp a.eval o).run G.P w)) : wpList G.P ops Q (o :: rest) a w := by
  unfold wpList
  simp only [hg, if_true]
  refine .inl ?_
  unfold Oper.wp
  generalize (execOp a.eval o).run G.P w = r at *
  cases r with
  | ok k w' =>
    cases k <;> simp only [effUp] at h <;> simp only [Oper.upon]
    case value v => exact h
    case skip => exact h
    case enter f args =>
      refine h.mono fun e w'' ⟨v, e1, h1⟩ => ?_
      subst e1
      exact h1
  | halt x w' => exact h.elim
theorem Ops.e (he : Eff G n op E w K) (hd : Nat.blt d n = true) (h : ∀ v w', K v w' → Ops G ops (.list Q w') n rest ((d, v) :: E)) : Ops G ops (.list Q w) n (⟨some d, op, ty, pos, aft, none⟩ :: rest) E :=
  ⟨fun a ha => run_eL (by simp [Region.wanted]) (effUp_mono (he.h a ha _ _ _ _ _) fun v w' hk => (h v w' hk).h _ (ha.put (by simpa using hd) v))⟩
theorem Ops.e0 (he : Eff G n op E w K) (h : ∀ v w', K v w' → Ops G ops (.list Q w') n rest E) : Ops G ops (.list Q w) n (⟨none, op, ty, pos, aft, none⟩ :: rest) E :=
  ⟨fun a ha => run_eL (by simp [Region.wanted]) (effUp_mono (he.h a ha _ _ _ _ _) fun v w' hk => (h v w' hk).h _ ha)⟩
theorem Ops.eg {j : Nat} {b : Bool} (hg : gdv ops E j = some b) (he : Eff G n op E w K) (hd : Nat.blt d n = true) (h : ∀ v w', K v w' → Ops G ops (.list Q w') n rest ((d, v) :: E)) : Ops G ops (.list Q w) n (⟨some d, op, ty, pos, aft, some (j, b)⟩ :: rest) E :=
  ⟨fun a ha => run_eL (by simp [Region.wanted, yielded_of ha hg]) (effUp_mono (he.h a ha _ _ _ _ _) fun v w' hk => (h v w' hk).h _ (ha.put (by simpa using hd) v))⟩
theorem Ops.m {sk : Bool} (he : Eff G n op E w K) (hd : (!isQ op && Nat.blt d n) = true) (h : ∀ v w', K v w' → C w' ∧ Ops G ops (.mix sk Q C w') n rest ((d, v) :: E)) : Ops G ops (.mix sk Q C w) n (⟨some d, op, ty, pos, aft, none⟩ :: rest) E :=
  ⟨fun a ha => by
    simp only [Bool.and_eq_true, Bool.not_eq_true'] at hd
    simp only [Mode.run, wpMix, Region.wanted, hd.1, if_true]
    exact effUp_mono (he.h a ha _ _ _ _ _) fun v w' hk => ⟨.inr (h v w' hk).1, (h v w' hk).2.h _ (ha.put (by simpa using hd.2) v)⟩⟩
theorem Ops.mz0 (he : Eff G n op E w K) (hd : isQ op = false) (h : ∀ v w', K v w' → Ops G ops (.mix true Q C w') n [] E) : Ops G ops (.mix true Q C w) n [⟨none, op, ty, pos, aft, none⟩] E :=
  ⟨fun a ha => by
    simp only [Mode.run, wpMix, Region.wanted, hd, if_true]
    exact effUp_mono (he.h a ha _ _ _ _ _) fun v w' hk => ⟨.inl (by simp), (h v w' hk).h _ ha⟩⟩
theorem Eff.of {w' : World} (hr : ∀ a, Ag n a E → ∀ d ty pos aft gd, (execOp a.eval ⟨d, op, ty, pos, aft, gd⟩).run G.P w = .ok (.value v) w') (hk : K v w') : Eff G n op E w K := ⟨fun a ha d ty pos aft gd => by rw [hr a ha]; exact hk⟩
theorem Eff.ofS {w' : World} (hr : ∀ a, Ag n a E → ∀ d ty pos aft gd, (execOp a.eval ⟨d, op, ty, pos, aft, gd⟩).run G.P w = .ok .skip w') (hk : K undef w') : Eff G n op E w K := ⟨fun a ha d ty pos aft gd => by rw [hr a ha]; exact hk⟩
theorem Eff.mono {K' : Value → World → Prop} (h : Eff G n op E w K) (hk : ∀ v w, K v w → K' v w) : Eff G n op E w K' := ⟨fun a ha d ty pos aft gd => effUp_mono (h.h a ha d ty pos aft gd) hk⟩
theorem Eff.alloc {ti : TI} (ht : G.ty t = some ti) : Eff G n (.alloc t) E w (fun v w' => v = .pointer (some ⟨w.heap.size, 0, none⟩) ∧ New w w' ti.zero.cells.toList t) := by
  refine Eff.of (w' := w.alloc (.cells ti.zero.cells t)) (v := .pointer (some ⟨w.heap.size, 0, none⟩)) (fun a _ d ty pos aft gd => ?_) ⟨rfl, ?_⟩
  · have := (G.tyOk t ti ht).zeroV w
    simp [execOp, Instr.alloc, this, newVar, newRow]
  · have := New.alloc w ti.zero.cells.toList t
    simpa using this
theorem Eff.box {cs : List Value} (hx : ev E x = some v) (hcs : v.cells = cs.toArray) : Eff G n (.box t x) E w (fun v w' => v = .pointer (some ⟨w.heap.size, 0, none⟩) ∧ New w w' cs t) := by
  refine Eff.of (w' := w.alloc (.cells cs.toArray t)) (v := .pointer (some ⟨w.heap.size, 0, none⟩)) (fun a ha d ty pos aft gd => ?_) ⟨rfl, New.alloc w cs t⟩
  simp [execOp, Instr.box, ha.eval hx, newVar, newRow, hcs]
theorem zip_parts (f : Operand → Value) (parts : List (Nat × Operand)) : (parts.map fun (i, x) => (i, f x)) = (parts.map (·.1)).zip ((parts.map (·.2)).map f) := by
  induction parts with
  | nil => rfl
  | cons p r ih => simp [ih]
theorem Eff.buildSlice {e len : Nat} {parts : List (Nat × Operand)} {vs cs : List Value} (hv : evs E (parts.map (·.2)) = some vs)
    (hr : (Instr.buildSlice t len ((parts.map (·.1)).zip vs).toArray).run G.P w = .ok (.slice (some ⟨w.heap.size, 0, none⟩) len len) (w.alloc (.cells cs.toArray e))) :
    Eff G n (.buildSlice t len parts.toArray) E w (fun v w' => v = .slice (some ⟨w.heap.size, 0, none⟩) len len ∧ New w w' cs e) := by
  refine Eff.of (w' := w.alloc (.cells cs.toArray e)) (v := .slice (some ⟨w.heap.size, 0, none⟩) len len) (fun a ha d ty pos aft gd => ?_) ⟨rfl, New.alloc w cs e⟩
  have e1 : (parts.map fun (i, x) => (i, a.eval x)) = (parts.map (·.1)).zip vs := by
    rw [← ha.evals hv]
    exact zip_parts a.eval parts
  simp only [execOp, List.map_toArray, e1]
  simp [hr]
theorem Yl.build {parts : List (Nat × Operand)} {vs : List Value} (hv : evs E (parts.map (·.2)) = some vs) (hr : ∀ w, (Instr.build t ((parts.map (·.1)).zip vs).toArray).run G.P w = .ok v w) :
    Yl G n (.build t parts.toArray) E C v := ⟨fun w _ a ha d ty pos aft gd => by
  have e1 : (parts.map fun (i, x) => (i, a.eval x)) = (parts.map (·.1)).zip vs := by
    rw [← ha.evals hv]
    exact zip_parts a.eval parts
  simp only [execOp, List.map_toArray, e1]
  simp [hr]⟩
theorem Eff.store {ti : TI} {ad : Addr} {old : Value} (ht : G.ty t = some ti) (hs : ti.size = 1) (hx : ev E x = some (.pointer (some ad))) (hy : ev E y = some v) (hv : v.oneCell' = true) (hc : w.cell? ad = some old) (hf : w.frozen? ad = false) :
    Eff G n (.store t x y) E w (fun _ w' => w' = w.setCell ad v) := by
  refine Eff.ofS (w' := w.setCell ad v) (fun a ha d ty pos aft gd => ?_) rfl
  have h1 := (G.tyOk t ti ht).size w
  rw [hs] at h1
  have e1 : v.cells = #[v] := by cases v <;> simp_all [Value.cells, Value.oneCell']
  have e2 : ad.add 0 = ad := by simp [Addr.add]
  have h2 := run_store G.P w ad v .plain hv
  rw [hc] at h2
  simp only [hf] at h2
  simp [execOp, ha.eval hx, ha.eval hy, Instr.storeAt, Instr.sureAddr, storeVar, h1, e1, storeCells, e2, h2]
theorem Eff.storeW {ti : TI} {b j T : Nat} {cs : List Value} (ht : G.ty t = some ti) (hs : ti.size = 1) (hx : ev E x = some (.pointer (some ⟨b, j, none⟩))) (hy : ev E y = some v) (hv : v.oneCell' = true) (hb : Blk w b cs T) (hj : j < cs.length) :
    Eff G n (.store t x y) E w (fun _ w' => Blk w' b (cs.set j v) T ∧ Chg (fun k => k = b) w w' ∧ w'.heap.size = w.heap.size) :=
  (Eff.store ht hs hx hy hv (hb.cell (List.getElem?_eq_getElem hj)) (hb.free j)).mono fun _ w' e => by
    subst e
    exact ⟨hb.set j v, Chg.setCell (S := fun k => k = b) (p := ⟨b, j, none⟩) (Chg.refl _ w) (fun _ => rfl) v, by simp [World.setCell]⟩
theorem Eff.storeB {ti : TI} {b T : Nat} {old cs : List Value} (ht : G.ty t = some ti) (hx : ev E x = some (.pointer (some ⟨b, 0, none⟩))) (hy : ev E y = some v) (hcs : v.cells = cs.toArray) (hs : ti.size = cs.length) (hv : ∀ u ∈ cs, u.oneCell' = true)
    (hb : Blk w b old T) (hl : old.length = cs.length) : Eff G n (.store t x y) E w (fun _ w' => Blk w' b cs T ∧ Chg (fun k => k = b) w w' ∧ w'.heap.size = w.heap.size) := by
  have h3 := run_storeCells_at (P := G.P) b 0 T cs 0 old.toArray w hb (by simp; omega) hv
  have e3 : (old.toArray.toList.take (0 + 0) ++ cs ++ old.toArray.toList.drop (0 + 0 + cs.length)).toArray = cs.toArray := by simp [hl]
  rw [e3] at h3
  have hset : ∀ k, k ≠ b → (w.setRow b cs.toArray).heap[k]? = w.heap[k]? := fun k hk => by
    simp only [World.setRow, Array.getElem?_modify]
    rw [if_neg (fun e => hk e.symm)]
  refine Eff.ofS (w' := w.setRow b cs.toArray) (fun a ha d ty pos aft gd => ?_) ⟨setRow_heap w b _ _ T _ hb, ⟨rfl, rfl, rfl, by simp [World.setRow], fun k _ hk => hset k hk⟩, by simp [World.setRow]⟩
  have h1 := (G.tyOk t ti ht).size w
  simp [execOp, ha.eval hx, ha.eval hy, Instr.storeAt, Instr.sureAddr, storeVar, h1, hcs, hs, h3]
theorem Yl.sliceHi {k : IntKind} {p : Int} {ti te : TI} {e l c i : Nat} {po : Option Addr} (ht : G.ty t = some ti) (he : ti.elem = some e) (hte : G.ty e = some te) (hx : ev E x = some (.slice po l c)) (hi : ev E y = some (.int k p)) (hp : p = (i : Int)) (hc : i ≤ c) :
    Yl G n (.slice t x none (some y) none) E C (.slice po i c) := ⟨fun w _ a ha d ty pos aft gd => by
  have h1 := (G.tyOk t ti ht).elem e he
  have h2 := (G.tyOk e te hte).size w
  subst hp
  have e1 : ∀ ad : Addr, ad.add 0 = ad := fun ad => by simp [Addr.add]
  by_cases hc0 : c = 0
  · subst hc0
    obtain rfl : i = 0 := by omega
    cases po <;> simp [execOp, ha.eval hx, ha.eval hi, Instr.sliceAt, Instr.slice, Instr.sliceBounds, Instr.sliceBound, asIntOf, run_underlying h1, h2]
  · cases po <;> simp [execOp, ha.eval hx, ha.eval hi, Instr.sliceAt, Instr.slice, Instr.sliceBounds, Instr.sliceBound, asIntOf, run_underlying h1, h2, hc, e1]⟩
theorem append_block {P : Program} {w : World} {base : Nat} {t ty e : TypeId} {i : TypeInfo} {z : Value} (ht : P.underlying t = some (.slice e)) (hi : P.info? e = some i) (hz : i.zero = some z)
    {v : Value} {n : Nat} {xs : List Value} (hown : w.ownsRow base e i.size v n xs) {a : Addr} {m c : Nat} {news : List Value} (hl : news.length = m * i.size) (hnews : ∀ j u, news[j]? = some u → w.cell? (a.add j) = some u) (h1 : ∀ u ∈ news, u.oneCell' = true)
    (h63 : n + m ≤ maxLen) (hbytes : (n + m) * i.bytes ≤ 140737488355328) {v' : Value} {w' : World} (hr : (Builtin.append_ #[t, t] ty #[v, .slice (some a) m c]).run P w = .ok v' w') : v'.ownBlock = v.ownBlock ∨ v'.ownBlock = some w.heap.size := by
  have hsmall : n + m ≤ 9223372036854775807 := by simp only [maxLen] at h63; omega
  rcases hown.2 with ⟨rfl, rfl⟩ | ⟨g, cap, cur, rfl, hbg, hg, hnc, hcm, hcs, htake⟩
  · by_cases hm : m = 0
    · subst hm
      have hr' : (Builtin.append_ #[t, t] ty #[.slice none 0 0, .slice (some a) 0 c]).run P w = .ok (.slice none 0 0) w := by
        simp [Builtin.append_, run_underlying ht, sizeOf, typeInfo, hi, Builtin.lenOf, Builtin.firstCells, loadCells, loadCellsFrom]
      rw [hr'] at hr; cases hr; exact .inl rfl
    · have hr' := run_append_nil (P := P) w t ty e i z ht hi hz a m c news hl hnews (by omega) (by omega) (by have hb := hbytes; simp only [Nat.zero_add] at hb; omega)
      rw [hr'] at hr; cases hr; exact .inr rfl
  · by_cases hroom : n + m ≤ cap
    · have hfit : n * i.size + news.length ≤ cur.size := by rw [hl, hcs, ← Nat.add_mul]; exact Nat.mul_le_mul_right _ hroom
      have hr' := run_append_room (P := P) w t ty e i ht hi g n cap cur hg a m c news hl hnews h1 hroom hfit
      rw [hr'] at hr; cases hr; exact .inl rfl
    · have holds : ∀ j u, xs[j]? = some u → w.cell? ((⟨g, 0, none⟩ : Addr).add j) = some u := hown.cells (g := g) rfl
      have hr' := run_append_grow (P := P) w t ty e i z ht hi hz ⟨g, 0, none⟩ n cap xs hown.1 holds a m c news hl hnews (by omega) (by omega) (growslice_fits (by omega) hbytes)
      rw [hr'] at hr; cases hr; exact .inr rfl
theorem Eff.appendB {ti te : TI} {e base len m c bk of_ : Nat} {xs news : List Value} (ht : G.ty t = some ti) (he : ti.elem = some e) (hte : G.ty e = some te) (hzs : te.zero.cells.size = te.size) (hsz : 0 < te.size)
    (hx : ev E x = some v) (hown : w.ownsRow base e te.size v len xs) (hy : ev E y = some (.slice (some ⟨bk, of_, none⟩) m c)) (hl : news.length = m * te.size) (hnews : ∀ j u, news[j]? = some u → w.cell? ⟨bk, of_ + j, none⟩ = some u) (h1 : ∀ u ∈ news, u.oneCell' = true)
    (h63 : len + m ≤ maxLen) (hbytes : (len + m) * te.bytes ≤ 140737488355328) (hbase : base ≤ w.heap.size) :
    Eff G n (.call ⟨.builtin .append, #[x, y], #[t, t]⟩) E w (fun v' w' => w'.ownsRow base e te.size v' (len + m) (xs ++ news) ∧ Chg (fun k => v.ownBlock = some k) w w' ∧ (v'.ownBlock = v.ownBlock ∨ v'.ownBlock = some w.heap.size)) := by
  obtain ⟨i, hi, hz, hs, hb⟩ := info_parts (G.tyOk e te hte).info
  have e1 : ∀ j, (⟨bk, of_, none⟩ : Addr).add j = ⟨bk, of_ + j, none⟩ := fun j => by
    unfold Addr.add; split
    · rename_i h; rw [h]; rfl
    · rfl
  obtain ⟨v', w', hr, ho, hg, _⟩ := run_append_own (P := G.P) w base t 0 e i te.zero te.size te.bytes ((G.tyOk t ti ht).elem e he) hi hz hs hb hzs hsz v len xs hown ⟨bk, of_, none⟩ m c news hl (fun j u hj => by rw [e1]; exact hnews j u hj) h1 h63 hbytes hbase
  have hob : v'.ownBlock = v.ownBlock ∨ v'.ownBlock = some w.heap.size := append_block (i := i) (z := te.zero) ((G.tyOk t ti ht).elem e he) hi hz (by rw [hs]; exact hown) (by rw [hs]; exact hl) (fun j u hj => by rw [e1]; exact hnews j u hj) h1 h63 (by rw [hb]; exact hbytes) hr
  refine Eff.of (w' := w') (v := v') (fun a ha d ty pos aft gd => ?_) ⟨ho, Chg.ofGrown hg, hob⟩
  have hr' : (Builtin.append_ #[t, t] ty #[v, .slice (some ⟨bk, of_, none⟩) m c]).run G.P w = .ok v' w' := hr
  simp [execOp, resolve, invoke, builtin, ha.eval hx, ha.eval hy, hr']
theorem Eff.append {ti te : TI} {e base len m c bk of_ : Nat} {xs news : List Value} (ht : G.ty t = some ti) (he : ti.elem = some e) (hte : G.ty e = some te) (hzs : te.zero.cells.size = te.size) (hsz : 0 < te.size)
    (hx : ev E x = some v) (hown : w.ownsRow base e te.size v len xs) (hy : ev E y = some (.slice (some ⟨bk, of_, none⟩) m c)) (hl : news.length = m * te.size) (hnews : ∀ j u, news[j]? = some u → w.cell? ⟨bk, of_ + j, none⟩ = some u) (h1 : ∀ u ∈ news, u.oneCell' = true)
    (h63 : len + m ≤ maxLen) (hbytes : (len + m) * te.bytes ≤ 140737488355328) (hbase : base ≤ w.heap.size) :
    Eff G n (.call ⟨.builtin .append, #[x, y], #[t, t]⟩) E w (fun v' w' => w'.ownsRow base e te.size v' (len + m) (xs ++ news) ∧ Chg (fun k => v.ownBlock = some k) w w') :=
  (Eff.appendB ht he hte hzs hsz hx hown hy hl hnews h1 h63 hbytes hbase).mono fun _ _ h => ⟨h.1, h.2.1⟩
theorem Eff.append0 {ti te : TI} {e l c c2 : Nat} {po p2 : Option Addr} (ht : G.ty t = some ti) (he : ti.elem = some e) (hte : G.ty e = some te) (hx : ev E x = some (.slice po l c)) (hlc : l ≤ c) (hy : ev E y = some (.slice p2 0 c2)) :
    Eff G n (.call ⟨.builtin .append, #[x, y], #[t, t]⟩) E w (fun v' w' => v' = .slice po l c ∧ w' = w) := by
  have h1 := (G.tyOk t ti ht).elem e he
  have h2 := (G.tyOk e te hte).size w
  refine Eff.of (w' := w) (v := .slice po l c) (fun a ha d ty pos aft gd => ?_) ⟨rfl, rfl⟩
  cases po <;> cases p2 <;> simp [execOp, resolve, invoke, builtin, ha.eval hx, ha.eval hy, Builtin.append_, run_underlying h1, h2, Builtin.lenOf, Builtin.firstCells, hlc, loadCells, loadCellsFrom, storeCells]
theorem Eff.call {f : Nat} {args : List Operand} {tys : Array TypeId} {vs : List Value} {R : Ending → World → Prop} (hf : G.fb[f]? = some true) (ha : evs E args = some vs) (hc : Calls G.P f vs.toArray w R) (hR : ∀ e w', R e w' → ∃ v, e = .returned v) :
    Eff G n (.call ⟨.value (.func f), args.toArray, tys⟩) E w (fun v w' => R (.returned v) w') := ⟨fun a hag d ty pos aft gd => by
  have e1 := hag.evals ha
  have hr : (execOp a.eval ⟨d, .call ⟨.value (.func f), args.toArray, tys⟩, ty, pos, aft, gd⟩).run G.P w = .ok (.enter f vs.toArray) w := by
    have h2 := G.fnOk f hf vs.toArray w
    simp [execOp, resolve, Deferred.ofValue, Act.eval, invoke, e1, h2]
  rw [hr]
  exact hc.mono fun e w' h => by obtain ⟨v, rfl⟩ := hR e w' h; exact ⟨v, rfl, h⟩⟩
theorem Eff.callV {f : Nat} {fo : Operand} {cap : List Value} {args : List Operand} {tys : Array TypeId} {vs : List Value} {R : Ending → World → Prop} (hfo : ev E fo = some (.func (.func f) #[] cap.toArray)) (hf : G.fb[f]? = some true) (ha : evs E args = some vs) (hc : Calls G.P f (vs ++ cap).toArray w R) (hR : ∀ e w', R e w' → ∃ v, e = .returned v) :
    Eff G n (.call ⟨.value fo, args.toArray, tys⟩) E w (fun v w' => R (.returned v) w') := ⟨fun a hag d ty pos aft gd => by
  have e1 := hag.evals ha
  have hr : (execOp a.eval ⟨d, .call ⟨.value fo, args.toArray, tys⟩, ty, pos, aft, gd⟩).run G.P w = .ok (.enter f (vs ++ cap).toArray) w := by
    have h2 := G.fnOk f hf (vs ++ cap).toArray w
    simp [execOp, resolve, Deferred.ofValue, hag.eval hfo, invoke, e1] at h2 ⊢
    exact h2
  rw [hr]
  exact hc.mono fun e w' h => by obtain ⟨v, rfl⟩ := hR e w' h; exact ⟨v, rfl, h⟩⟩
theorem Ops.call {f : Nat} {args : List Operand} {tys : Array TypeId} {vs : List Value} {R : Ending → World → Prop} (hf : G.fb[f]? = some true) (ha : evs E args = some vs) (hd : Nat.blt d n = true) (hc : Calls G.P f vs.toArray w R)
    (h : ∀ e w', R e w' → ∃ v, e = .returned v ∧ Ops G ops (.list Q w') n rest ((d, v) :: E)) : Ops G ops (.list Q w) n (⟨some d, .call ⟨.value (.func f), args.toArray, tys⟩, ty, pos, aft, none⟩ :: rest) E :=
  Ops.e (Eff.call hf ha hc fun e w' hR => ⟨_, (h e w' hR).choose_spec.1⟩) hd fun v w' hR => by obtain ⟨u, e1, h1⟩ := h _ _ hR; cases e1; exact h1
theorem Ops.callg {f j : Nat} {b : Bool} {args : List Operand} {tys : Array TypeId} {vs : List Value} {R : Ending → World → Prop} (hg : gdv ops E j = some b) (hf : G.fb[f]? = some true) (ha : evs E args = some vs) (hd : Nat.blt d n = true) (hc : Calls G.P f vs.toArray w R)
    (h : ∀ e w', R e w' → ∃ v, e = .returned v ∧ Ops G ops (.list Q w') n rest ((d, v) :: E)) : Ops G ops (.list Q w) n (⟨some d, .call ⟨.value (.func f), args.toArray, tys⟩, ty, pos, aft, some (j, b)⟩ :: rest) E :=
  Ops.eg hg (Eff.call hf ha hc fun e w' hR => ⟨_, (h e w' hR).choose_spec.1⟩) hd fun v w' hR => by obtain ⟨u, e1, h1⟩ := h _ _ hR; cases e1; exact h1
theorem Ops.callV {f : Nat} {fo : Operand} {cap : List Value} {args : List Operand} {tys : Array TypeId} {vs : List Value} {R : Ending → World → Prop} (hfo : ev E fo = some (.func (.func f) #[] cap.toArray)) (hf : G.fb[f]? = some true) (ha : evs E args = some vs) (hd : Nat.blt d n = true) (hc : Calls G.P f (vs ++ cap).toArray w R)
    (h : ∀ e w', R e w' → ∃ v, e = .returned v ∧ Ops G ops (.list Q w') n rest ((d, v) :: E)) : Ops G ops (.list Q w) n (⟨some d, .call ⟨.value fo, args.toArray, tys⟩, ty, pos, aft, none⟩ :: rest) E :=
  Ops.e (Eff.callV hfo hf ha hc fun e w' hR => ⟨_, (h e w' hR).choose_spec.1⟩) hd fun v w' hR => by obtain ⟨u, e1, h1⟩ := h _ _ hR; cases e1; exact h1
theorem Ops.callM {sk : Bool} {f : Nat} {args : List Operand} {tys : Array TypeId} {vs : List Value} {R : Ending → World → Prop} (hf : G.fb[f]? = some true) (ha : evs E args = some vs) (hd : Nat.blt d n = true) (hc : Calls G.P f vs.toArray w R)
    (h : ∀ e w', R e w' → ∃ v, e = .returned v ∧ C w' ∧ Ops G ops (.mix sk Q C w') n rest ((d, v) :: E)) : Ops G ops (.mix sk Q C w) n (⟨some d, .call ⟨.value (.func f), args.toArray, tys⟩, ty, pos, aft, none⟩ :: rest) E :=
  Ops.m (Eff.call hf ha hc fun e w' hR => ⟨_, (h e w' hR).choose_spec.1⟩) (by simp [isQ]; simpa using hd) fun v w' hR => by obtain ⟨u, e1, h1⟩ := h _ _ hR; cases e1; exact h1
theorem Ops.callQ {K : Act → Prop} {f : Nat} {args : List Operand} {tys : Array TypeId} {vs : List Value} (hf : G.fb[f]? = some true) (ha : evs E args = some vs) (hd : Nat.blt d n = true) (hc : ∀ w, C w → Calls G.P f vs.toArray w (fun e w' => e = .returned v ∧ C w'))
    (h : Ops G ops (.quiet K C) n rest ((d, v) :: E)) : Ops G ops (.quiet K C) n (⟨some d, .call ⟨.value (.func f), args.toArray, tys⟩, ty, pos, aft, none⟩ :: rest) E := ⟨fun a hag => by
  have e1 := hag.evals ha
  simp only [Mode.run, wpQuiet, Region.wanted, if_true]
  refine ⟨v, fun w hw => ?_, h.h _ (hag.put (by simpa using hd) v)⟩
  unfold Oper.quietAt
  have hr : (execOp a.eval ⟨some d, .call ⟨.value (.func f), args.toArray, tys⟩, ty, pos, aft, none⟩).run G.P w = .ok (.enter f vs.toArray) w := by
    have h2 := G.fnOk f hf vs.toArray w
    simp [execOp, resolve, Deferred.ofValue, Act.eval, invoke, e1, h2]
  rw [hr]
  exact ⟨rfl, hc w hw⟩⟩
theorem Ops.callQg {K : Act → Prop} {f j : Nat} {b : Bool} {args : List Operand} {tys : Array TypeId} {vs : List Value} (hg : gdv ops E j = some b) (hf : G.fb[f]? = some true) (ha : evs E args = some vs) (hd : Nat.blt d n = true) (hc : ∀ w, C w → Calls G.P f vs.toArray w (fun e w' => e = .returned v ∧ C w'))
    (h : Ops G ops (.quiet K C) n rest ((d, v) :: E)) : Ops G ops (.quiet K C) n (⟨some d, .call ⟨.value (.func f), args.toArray, tys⟩, ty, pos, aft, some (j, b)⟩ :: rest) E := ⟨fun a hag => by
  have e1 := hag.evals ha
  have hw : Region.wanted ⟨some d, .call ⟨.value (.func f), args.toArray, tys⟩, ty, pos, aft, some (j, b)⟩ (yielded ops a.tmps) = true := by simp [Region.wanted, yielded_of hag hg]
  simp only [Mode.run, wpQuiet, hw, if_true]
  refine ⟨v, fun w hw => ?_, h.h _ (hag.put (by simpa using hd) v)⟩
  unfold Oper.quietAt
  have hr : (execOp a.eval ⟨some d, .call ⟨.value (.func f), args.toArray, tys⟩, ty, pos, aft, some (j, b)⟩).run G.P w = .ok (.enter f vs.toArray) w := by
    have h2 := G.fnOk f hf vs.toArray w
    simp [execOp, resolve, Deferred.ofValue, Act.eval, invoke, e1, h2]
  rw [hr]
  exact ⟨rfl, hc w hw⟩⟩
end
theorem run_equalIn_bool {P : Program} {t : TypeId} (ht : P.underlying t = some .bool) (d : Nat) (a b : Bool) (w : World) : (Op.equalIn (d + 1) t (.bool a) (.bool b)).run P w = .ok (a == b) w := by
  simp [Op.equalIn, run_underlying ht]
theorem run_equal_bool {P : Program} {t : TypeId} (ht : P.underlying t = some .bool) (a b : Bool) (w : World) : (Op.equal t (.bool a) (.bool b)).run P w = .ok (a == b) w := run_equalIn_bool ht 9999 a b w
theorem Yl.neqb {G : Prg} {n : Nat} {E : Env} {C : World → Prop} {x y : Operand} {t t2 : TypeId} {a b : Bool} (ht : G.P.underlying t = some .bool) (hx : ev E x = some (.bool a)) (hy : ev E y = some (.bool b)) : Yl G n (.binOp .neq t x y t2) E C (.bool (a != b)) :=
  Yl.neqbB hx hy (run_equal_bool ht a b)
theorem Yl.eqlb {G : Prg} {n : Nat} {E : Env} {C : World → Prop} {x y : Operand} {t t2 : TypeId} {a b : Bool} (ht : G.P.underlying t = some .bool) (hx : ev E x = some (.bool a)) (hy : ev E y = some (.bool b)) : Yl G n (.binOp .eql t x y t2) E C (.bool (a == b)) :=
  Yl.eqbB hx hy (run_equal_bool ht a b)
structure Hold (p : Prop) : Prop where
  out : p
theorem wrdq {p : Prop} (h : p := by first | with_reducible assumption | decide) : p := h
theorem wraq {p : Prop} (h : p := by with_reducible assumption) : p := h
theorem wsub {E E' : Env} (h : Sub E E' := by (repeat (first | exact Sub.nil _ | refine Sub.cons rfl rfl ?_ | refine Sub.cons rfl (vint (by omega)) ?_ | refine Sub.cons rfl (by assumption) ?_))) : Sub E E' := h
end Go.Proofs.YtgbgnipidakdhaaGreatDoor
