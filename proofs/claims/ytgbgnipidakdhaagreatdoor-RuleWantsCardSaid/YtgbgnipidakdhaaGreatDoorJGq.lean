/- Space.whole, Space.Imported. -/
import Derived.Test.YtgbgnipidakdhaaGreatDoorJSr
import Derived.Test.YtgbgnipidakdhaaGreatDoorJSg
import Derived.Laws.StructEq
namespace Go.Proofs.YtgbgnipidakdhaaGreatDoor
open Go.RowKit
set_option maxRecDepth 100000
section
variable {ops : Array Oper} {Q : Exit → Act → World → Prop} {n : Nat} {E : Env} {M M' : List Res} {R R' : List (World → Prop)} {v : Value} {x y z : Operand} {t t2 : TypeId} {C : World → Prop}
theorem Yl.eqPN {ti : TypeId} {ad : Addr} (ht : G.P.underlying t = some (.pointer ti)) (hx : ev E x = some (.pointer (some ad))) (hy : ev E y = some (.pointer none)) : Yl G n (.binOp .eql t x y t2) E C (.bool false) :=
  ⟨fun w _ a ha d ty pos aft gd => by
    have h2 : ∀ m, (Op.equalIn (m + 1) t (.pointer (some ad)) (.pointer none)).run G.P w = .ok false w := by
      intro m; simp [Op.equalIn, run_underlying ht]
    have h3 : (Op.equal t (.pointer (some ad)) (.pointer none)).run G.P w = .ok false w := h2 9999
    simp [execOp, ha.eval hx, ha.eval hy, eqGuard, binOp, h3]⟩
theorem Yl.lookupE {k e : TypeId} {zv : Value} {bm : Nat} {g : Int → Option Value} {a : Int} {w0 : World} (ht : G.P.underlying t = some (.map k e)) (hk : G.P.underlying k = some (.int .i64)) (hzv : ∀ w, (zeroValue e).run G.P w = .ok zv w) (hx : ev E x = some (.map (some bm))) (hy : ev E y = some (.int .i64 a)) (ha : R64 a)
    (hM : IV w0 bm g) (hR : Ext w0 ∈ R) : Yl G n (.lookup t x y false) E (Ok M R) ((g a).getD zv) :=
  ⟨fun w hw ac hac d ty pos aft gd => by
    have := iv_lookup (t := t) ht hk hzv (hM.chg (show Ext w0 w from hw.get hR) (fun h => h)) (R64_wf ha)
    simp [execOp, hac.eval hx, hac.eval hy, this]⟩
end
theorem space_whole (bS sp : Nat) (w : World) (hb : Blk w bS [.pointer (some ⟨sp, 0, none⟩)] TSpace) : Calls G.P 155 #[.pointer (some ⟨bS, 0, none⟩)] w fun e w' => e = .returned (.pointer (some ⟨sp, 0, none⟩)) ∧ Ext w w' := by
  have c0 : w.cell? ⟨bS, 0, none⟩ = some (.pointer (some ⟨sp, 0, none⟩)) := hb.cell rfl
  refine enterH (l := [.pointer (some ⟨bS, 0, none⟩)]) Tryz.func155 rfl Tryz.ntmps155 rfl (Ok.start w) ?_
  refine wgh ?_
  refine OpsH.y_ (Yl.eqPN Tryz.underlying51 rfl rfl) rfl ?_
  refine wgh ?_
  refine OpsH.yg rfl (Yl.eqPN Tryz.underlying58 rfl rfl) rfl ?_
  refine wgh ?_
  exact FinH.ret1 rfl rfl fun w' hw' => ⟨rfl, hw'.at⟩
end Go.Proofs.YtgbgnipidakdhaaGreatDoor
namespace Go.Proofs.YtgbgnipidakdhaaGreatDoor
open Go.RowKit
set_option maxRecDepth 100000
def FrD {β : Type} (V : (Nat → Prop) → World → β → Prop) : Prop := ∀ {D S : Nat → Prop} {x : β} {w w' : World}, V D w x → Chg S w w' → (∀ k, k < w.heap.size → D k → ¬ S k) → V D w' x
def Gives {β : Type} (V : (Nat → Prop) → World → β → Prop) (tf : β → Value) (F : Nat → Prop) (w : World) (e : Ending) (w' : World) : Prop := (∃ x, e = .returned (tf x) ∧ V (fun k => F k ∨ w.heap.size ≤ k) w' x) ∧ Ext w w'
section
variable {ops : Array Oper} {Q : Exit → Act → World → Prop} {n : Nat} {E : Env} {M M' : List Res} {R R' : List (World → Prop)} {v : Value} {x y z : Operand} {t t2 : TypeId} {C : World → Prop}
theorem MutPost.ofE {β : Type} {w w' : World} {tf : β → Value} {φ : β → Prop} {M1 : β → List Res} (x : β) (hφ : φ x) (h : Ok M R w') (hM : (M1 x).Sublist M) (hR : Ext w ∈ R) : MutPost [] w tf φ M1 (.returned (tf x)) w' :=
  ⟨x, rfl, hφ, h.sub hM (fun p hp => absurd hp (by simp)), (show Ext w w' from h.get hR).mono (fun _ _ h => h.elim), fun k ⟨q, hq, hk⟩ hlt => (h.origin (S := fun _ => False) hR k ⟨q, hM.subset hq, hk⟩ hlt).elim⟩
theorem run_eqFields_ints {P : Program} {xs ys : List Int} (d : Nat) (w : World) (hl : xs.length = ys.length) : ∀ fs : List Field, (∀ f ∈ fs, f.name ≠ "_" ∧ P.underlying f.type = some (.int .i64) ∧ f.offset < xs.length) → (Op.eqFields (d + 1) (xs.map (Value.int .i64)).toArray (ys.map (Value.int .i64)).toArray fs).run P w = .ok (fs.all fun f => decide (ix xs f.offset = ix ys f.offset)) w
  | [], _ => by simp [Op.eqFields]
  | f :: fs, h => by
    obtain ⟨h0, h1, h2⟩ := h f (by simp)
    have ih := run_eqFields_ints d w hl fs fun g hg => h g (by simp [hg])
    have hg : (isAgg f.type).run P w = .ok false w := by simp [isAgg, run_underlying h1]
    have hp : ∀ zs : List Int, f.offset < zs.length → (part f.type (zs.map (Value.int .i64)).toArray f.offset).run P w = .ok (.int .i64 (ix zs f.offset)) w := by
      intro zs hz
      have h2' : (zs.map (Value.int .i64)).toArray[f.offset]? = some (Value.int .i64 (ix zs f.offset)) := by simp [ix_eq hz, hz]
      simp only [part, Sem.run_bind, hg, Result.andThen_ok, Bool.false_eq_true, if_false]
      rw [h2']; simp
    have he : (Op.equalIn (d + 1) f.type (.int .i64 (ix xs f.offset)) (.int .i64 (ix ys f.offset))).run P w = .ok (ix xs f.offset == ix ys f.offset) w := by simp [Op.equalIn, run_underlying h1]
    simp only [Op.eqFields, h0, ne_eq, not_false_eq_true, if_true, Sem.run_bind, hp xs h2, hp ys (hl ▸ h2), Result.andThen_ok, he, Sem.run_ite, List.all_cons]
    by_cases e : ix xs f.offset = ix ys f.offset
    · simp [e]; simpa using ih
    · simp [e]
theorem run_equal_ints {xs ys : List Int} (w : World) (hl : xs.length = ys.length) (ht : G.P.underlying t = some (.struct (G.P.fieldsOf t))) (hp : G.P.stoodInHeld t = false)
    (hf : ∀ f ∈ (G.P.fieldsOf t).toList, f.name ≠ "_" ∧ G.P.underlying f.type = some (.int .i64) ∧ f.offset < xs.length) (ho : ((G.P.fieldsOf t).toList.map fun f => f.offset) = List.range xs.length) : (Op.equal t (.agg (xs.map (Value.int .i64)).toArray) (.agg (ys.map (Value.int .i64)).toArray)).run G.P w = .ok (decide (xs = ys)) w := by
  show (Op.equalIn (9999 + 1) t _ _).run G.P w = _
  rw [run_equalIn_struct w 9999 t _ _ ht hp, run_eqFields_ints 9998 w hl _ hf]
  congr 1
  have e : ((G.P.fieldsOf t).toList.all fun f => decide (ix xs f.offset = ix ys f.offset)) = (((G.P.fieldsOf t).toList.map fun f => f.offset).all fun o => decide (ix xs o = ix ys o)) := by rw [List.all_map]; rfl
  rw [e, ho, Bool.eq_iff_iff]
  simp only [List.all_eq_true, List.mem_range, decide_eq_true_eq]
  constructor
  · intro h
    refine List.ext_getElem hl fun i h1 h2 => ?_
    have := h i h1
    rw [ix_eq h1, ix_eq h2] at this; exact this
  · rintro rfl i _; rfl
theorem Yl.eqI (xs ys : List Int) (hx : ev E x = some (.agg (xs.map (Value.int .i64)).toArray)) (hy : ev E y = some (.agg (ys.map (Value.int .i64)).toArray)) (hl : xs.length = ys.length) (ht : G.P.underlying t = some (.struct (G.P.fieldsOf t))) (hp : G.P.stoodInHeld t = false) (hg : G.P.eqGuardType G.P.depth t = false)
    (hf : ∀ f ∈ (G.P.fieldsOf t).toList, f.name ≠ "_" ∧ G.P.underlying f.type = some (.int .i64) ∧ f.offset < xs.length) (ho : ((G.P.fieldsOf t).toList.map fun f => f.offset) = List.range xs.length) : Yl G n (.binOp .eql t x y t2) E C (.bool (decide (xs = ys))) :=
  ⟨fun w _ a ha d ty pos aft gd => by
    have h4 : ∀ b c : Operand, (eqGuard .eql t b c (.agg (xs.map (Value.int .i64)).toArray) (.agg (ys.map (Value.int .i64)).toArray)).run G.P w = .ok () w := by
      intro b c; simp [eqGuard, hg, run_program]
    simp [execOp, ha.eval hx, ha.eval hy, h4, binOp, run_equal_ints w hl ht hp hf ho]⟩
theorem Yl.neqI (xs ys : List Int) (hx : ev E x = some (.agg (xs.map (Value.int .i64)).toArray)) (hy : ev E y = some (.agg (ys.map (Value.int .i64)).toArray)) (hl : xs.length = ys.length) (ht : G.P.underlying t = some (.struct (G.P.fieldsOf t))) (hp : G.P.stoodInHeld t = false) (hg : G.P.eqGuardType G.P.depth t = false)
    (hf : ∀ f ∈ (G.P.fieldsOf t).toList, f.name ≠ "_" ∧ G.P.underlying f.type = some (.int .i64) ∧ f.offset < xs.length) (ho : ((G.P.fieldsOf t).toList.map fun f => f.offset) = List.range xs.length) : Yl G n (.binOp .neq t x y t2) E C (.bool (decide (xs ≠ ys))) :=
  ⟨fun w _ a ha d ty pos aft gd => by
    have h4 : ∀ b c : Operand, (eqGuard .neq t b c (.agg (xs.map (Value.int .i64)).toArray) (.agg (ys.map (Value.int .i64)).toArray)).run G.P w = .ok () w := by
      intro b c; simp [eqGuard, hg, run_program]
    simp [execOp, ha.eval hx, ha.eval hy, h4, binOp, run_equal_ints w hl ht hp hf ho]⟩
end
def FnD (f : ApiFunc) (D : Nat → Prop) (w : World) (x : Value × Value) : Prop := IntsR D w x.1 f.params ∧ IntsR D w x.2 f.results
theorem FnD.fr (f : ApiFunc) : FrD (FnD f) := fun h hc hd => ⟨h.1.chg hc hd, h.2.chg hc hd⟩
theorem FnD.mono {f : ApiFunc} {D H : Nat → Prop} {w : World} {x : Value × Value} (h : FnD f D w x) (hd : ∀ k, D k → H k) : FnD f H w x := ⟨h.1.mono fun k _ => hd k, h.2.mono fun k _ => hd k⟩
theorem FnD.nil (D : Nat → Prop) (w : World) : FnD noF D w (.slice none 0 0, .slice none 0 0) := ⟨IntsR.nil0 _ _, IntsR.nil0 _ _⟩
end Go.Proofs.YtgbgnipidakdhaaGreatDoor
namespace Go.Proofs.YtgbgnipidakdhaaGreatDoor
open Go.RowKit
set_option maxRecDepth 100000
theorem Fin.ret3 {fn : Func} {R : Ending → World → Prop} {w : World} {n : Nat} {E : Env} {t u s : Nat} {v x y : Value} (hr : fn.results = #[.tmp t, .tmp u, .tmp s]) (hv : lk E t = some v) (hx : lk E u = some x) (hy : lk E s = some y) (hR : R (.returned (.tuple #[v, x, y])) w) : Fin (bodyPost G.P fn R) n .ret E w :=
  Fin.ofRun (.inl rfl) (fun ac hac => by
    have g1 : ac.tmps[t]?.getD undef = v := by have := (hac.eq t _ hv).2; simpa using this
    have g2 : ac.tmps[u]?.getD undef = x := by have := (hac.eq u _ hx).2; simpa using this
    have g3 : ac.tmps[s]?.getD undef = y := by have := (hac.eq s _ hy).2; simpa using this
    simp [results, hr, g1, g2, g3]) hR
theorem FinH.ret3 {fn : Func} {Rp : Ending → World → Prop} {n : Nat} {E : Env} {M : List Res} {R : List (World → Prop)} {t u s : Nat} {v x y : Value} (hr : fn.results = #[.tmp t, .tmp u, .tmp s]) (hv : lk E t = some v) (hx : lk E u = some x) (hy : lk E s = some y) (hR : ∀ w, Ok M R w → Rp (.returned (.tuple #[v, x, y])) w) : FinH (bodyPost G.P fn Rp) n .ret E M R := ⟨fun w hw => Fin.ret3 hr hv hx hy (hR w hw)⟩
def numsB (P : Program) (t n : Nat) : Bool := ((P.fieldsOf t).toList.all fun f => f.name != "_" && (match P.underlying f.type with | some (.int .i64) => true | _ => false) && Nat.blt f.offset n) && (((P.fieldsOf t).toList.map fun f => f.offset) == List.range n)
theorem numsB_ok {P : Program} {t n : Nat} (h : numsB P t n = true) : (∀ f ∈ (P.fieldsOf t).toList, f.name ≠ "_" ∧ P.underlying f.type = some (.int .i64) ∧ f.offset < n) ∧ ((P.fieldsOf t).toList.map fun f => f.offset) = List.range n := by
  unfold numsB at h
  rw [Bool.and_eq_true] at h
  refine ⟨fun f hf => ?_, by simpa using h.2⟩
  have := List.all_eq_true.1 h.1 f hf
  simp only [Bool.and_eq_true, bne_iff_ne, ne_eq] at this
  obtain ⟨⟨h1, h2⟩, h3⟩ := this
  refine ⟨h1, ?_, by simpa using h3⟩
  split at h2
  · assumption
  · cases h2
abbrev TBlk : Nat := 39
theorem Yl.eqBl {n : Nat} {E : Env} {C : World → Prop} {x y : Operand} {t2 : TypeId} {a b c d e f : Int} (hx : ev E x = some (.agg #[.int .i64 a, .int .i64 b, .int .i64 c])) (hy : ev E y = some (.agg #[.int .i64 d, .int .i64 e, .int .i64 f])) : Yl G n (.binOp .eql TBlk x y t2) E C (.bool (decide ([a, b, c] = [d, e, f]))) :=
  Yl.eqI [a, b, c] [d, e, f] hx hy rfl (by kernel_rfl) (by kernel_rfl) (by kernel_rfl) (numsB_ok (P := G.P) (t := TBlk) (n := 3) (by kernel_rfl)).1 (numsB_ok (P := G.P) (t := TBlk) (n := 3) (by kernel_rfl)).2
theorem Yl.neqBl {n : Nat} {E : Env} {C : World → Prop} {x y : Operand} {t2 : TypeId} {a b c d e f : Int} (hx : ev E x = some (.agg #[.int .i64 a, .int .i64 b, .int .i64 c])) (hy : ev E y = some (.agg #[.int .i64 d, .int .i64 e, .int .i64 f])) : Yl G n (.binOp .neq TBlk x y t2) E C (.bool (decide ([a, b, c] ≠ [d, e, f]))) :=
  Yl.neqI [a, b, c] [d, e, f] hx hy rfl (by kernel_rfl) (by kernel_rfl) (by kernel_rfl) (numsB_ok (P := G.P) (t := TBlk) (n := 3) (by kernel_rfl)).1 (numsB_ok (P := G.P) (t := TBlk) (n := 3) (by kernel_rfl)).2
def usedA (k : Int) : Bool := decide (k = 2 ∨ k = 3 ∨ k = 4 ∨ k = 7 ∨ k = 8 ∨ k = 9 ∨ k = 12 ∨ k = 16 ∨ k = 20 ∨ k = 5 ∨ k = 10 ∨ k = 11 ∨ k = 14 ∨ k = 15 ∨ k = 17)
def usedB (k : Int) : Bool := decide (k = 5 ∨ k = 10 ∨ k = 11 ∨ k = 14 ∨ k = 15 ∨ k = 13 ∨ k = 17)
def usedN (k : Int) : Bool := decide (k = 17 ∨ k = 18 ∨ k = 19)
set_option maxHeartbeats 8000000 in
theorem opcode_used (k : Int) (w : World) : Calls G.P 123 #[.int .i64 k] w fun e w' => e = .returned (.tuple #[.bool (usedA k), .bool (usedB k), .bool (usedN k)]) ∧ Ext w w' := by
  refine enterH (l := [.int .i64 k]) Tryz.func123 rfl Tryz.ntmps123 rfl (Ok.start w) ?_
  repeat' (first | refine wav ?_ | (refine wspv ?_ ?_ <;> (intro hc_; try subst hc_)))
  all_goals exact FinH.ret3 rfl rfl rfl rfl fun w' hw' => ⟨by simp [usedA, usedB, usedN, *], hw'.at⟩
attribute [local irreducible] indexK valK
set_option maxHeartbeats 8000000 in
theorem opcode_block (k v i : Int) (w : World) : Calls G.P 126 #[.agg #[.int .i64 k, .int .i64 v, .int .i64 i]] w fun e w' => e = .returned (.bool (blockK k v i)) ∧ Ext w w' := by
  refine enterH (l := [.agg #[.int .i64 k, .int .i64 v, .int .i64 i]]) Tryz.func126 rfl Tryz.ntmps126 rfl (Ok.start w) ?_
  repeat' (first | refine wav ?_ | (refine qbxq fun b_ => ?_) | (refine OpsH.isBin ?_; refine OpsH.y_ (Yl.eqBl rfl rfl) rfl ?_) | (refine OpsH.isCall (f := 127) ?_; refine OpsH.call1 rfl rfl rfl (fun w' hw' => opcode_val v w') ?_) | (refine OpsH.isCallG (f := 125) ?_; refine OpsH.call1g wgd rfl rfl rfl (fun w' hw' => opcode_index i w') ?_) | (refine wspv ?_ ?_ <;> (intro hc_; try subst hc_)))
  all_goals exact FinH.ret1 rfl rfl fun w' hw' => ⟨by simp_all [blockK], hw'.at⟩
end Go.Proofs.YtgbgnipidakdhaaGreatDoor
namespace Go.Proofs.YtgbgnipidakdhaaGreatDoor
open Go.RowKit
set_option maxRecDepth 100000
def plainB (known : Bool) (k a b n kind val index : Int) (types labels : List Int) : Bool :=
  let ab := decide (a = 0) && decide (b = 0)
  if known = false ∨ (k ≠ 1 ∧ ¬ (kind = 0 ∧ val = 0 ∧ index = 0)) ∨ (k ≠ 3 ∧ 0 < labels.length) ∨ (k ≠ 6 ∧ 0 < types.length) then false else
  if k = 0 then ab && decide (n = 0) else
  if k = 1 then ab && decide (n = 0) && blockK kind val index else
  if k = 3 then indexK a && decide (b = 0) && decide (n = 0) && labels.all indexK else
  if k = 6 then ab && decide (n = 0) && decide (types.length = 1) && valK (ix types 0) else
  if k = 2 ∨ k = 4 ∨ k = 7 ∨ k = 8 ∨ k = 9 ∨ k = 12 ∨ k = 16 then indexK a && decide (b = 0) && decide (n = 0) else
  if k = 5 ∨ k = 10 ∨ k = 11 ∨ k = 14 ∨ k = 15 then indexK a && indexK b && decide (n = 0) else
  if k = 13 then decide (a = 0) && indexK b && decide (n = 0) else
  if k = 17 then decide (0 ≤ a) && decide (a ≤ 63) && indexK b && decide (n < 4294967296) else
  if k = 18 then ab && decide (n < 4294967296) else
  if k = 19 then ab else (decide (a = 3) || decide (a = 4)) && decide (b = 0) && decide (n = 0)
theorem plainK_eq (x : Ins) : plainK x = plainB (find5 x.op).isSome (ofK x.op) x.a x.b x.n x.kind x.val x.index x.types x.labels := rfl
theorem all_take {l : List Int} {f : Int → Bool} {j : Nat} (hj : j < l.length) : (l.take (j + 1)).all f = ((l.take j).all f && f (ix l j)) := by rw [take_succ_ix hj, List.all_append]; simp
theorem all_sub {l : List Int} {f : Int → Bool} {j : Nat} (h : (l.take j).all f = false) : l.all f = false := by
  cases e : l.all f with
  | false => rfl
  | true =>
    have : (l.take j).all f = true := by rw [List.all_eq_true] at e ⊢; exact fun x hx => e x (List.mem_of_mem_take hx)
    rw [this] at h; cases h
attribute [local irreducible] indexK valK
set_option maxHeartbeats 8000000 in
theorem ref05_block (k v i : Int) (w : World) : Calls G.P 88 #[.agg #[.int .i64 k, .int .i64 v, .int .i64 i]] w fun e w' => e = .returned (.bool (blockK k v i)) ∧ Ext w w' := by
  refine enterH (l := [.agg #[.int .i64 k, .int .i64 v, .int .i64 i]]) Tryz.func88 rfl Tryz.ntmps88 rfl (Ok.start w) ?_
  repeat' (first | refine wav ?_ | (refine qbxq fun b_ => ?_) | (refine OpsH.isCall (f := 91) ?_; refine OpsH.call1 rfl rfl rfl (fun w' hw' => ref05_val v w') ?_) | (refine OpsH.isCallG (f := 89) ?_; refine OpsH.call1g wgd rfl rfl rfl (fun w' hw' => ref05_index i w') ?_) | (refine wspv ?_ ?_ <;> (intro hc_; try subst hc_)))
  all_goals exact FinH.ret1 rfl rfl fun w' hw' => ⟨by simp_all [blockK], hw'.at⟩
set_option maxHeartbeats 8000000 in
theorem ref05_labels (F : Nat → Prop) (l : List Int) (v : Value) (w : World) (h : IntsR F w v l) : Calls G.P 90 #[v] w fun e w' => e = .returned (.bool (l.all indexK)) ∧ Ext w w' := by
  obtain ⟨p, c, rfl, hl⟩ := h.slice
  refine enterH (l := [_]) Tryz.func90 rfl Tryz.ntmps90 rfl (Ok.start w) ?_
  refine wgh ?_
  refine CdH.loop (σ := Nat) (fun j => [(0, .slice p l.length c), (3, .int .i64 j)]) (fun _ => []) (fun _ => [Ext w]) (fun j => j ≤ l.length ∧ (l.take j).all indexK = true) (fun j => l.length - j) 0 wsub wsl wsr ⟨by omega, by simp⟩ ?_
  rintro j ⟨hj, hall⟩
  by_cases hjl : j < l.length
  · obtain ⟨b7, o7, rfl, -, hc⟩ := h.at hjl
    have hcj := hc j hjl
    have hst := all_take (f := indexK) hjl
    rw [hall, Bool.true_and] at hst
    cases hi : indexK (ix l j) with
    | true =>
      repeat' (first | refine wau ?_ | (refine OpsH.isCall (f := 89) ?_; refine OpsH.call1 (v := .bool true) rfl rfl rfl (fun w' hw' => by have := ref05_index (ix l j) w'; rw [hi] at this; exact this) ?_) | (refine wspl ?_ ?_ <;> intro hc_))
      all_goals exact FinH.next (j + 1) wsub wsl wsr ⟨by omega, by rw [hst, hi]⟩ (by omega)
    | false =>
      repeat' (first | refine wau ?_ | (refine OpsH.isCall (f := 89) ?_; refine OpsH.call1 (v := .bool false) rfl rfl rfl (fun w' hw' => by have := ref05_index (ix l j) w'; rw [hi] at this; exact this) ?_) | (refine wspl ?_ ?_ <;> intro hc_))
      all_goals exact FinH.ret1 rfl rfl fun w' hw' => ⟨by rw [all_sub (j := j + 1) (by rw [hst, hi])], hw'.at⟩
  · obtain rfl : j = l.length := by omega
    rw [List.take_length] at hall
    refine wgh ?_
    exact FinH.ret1 rfl rfl fun w' hw' => ⟨by rw [hall], hw'.at⟩
end Go.Proofs.YtgbgnipidakdhaaGreatDoor
namespace Go.Proofs.YtgbgnipidakdhaaGreatDoor
open Go.RowKit
set_option maxRecDepth 100000
def plainC (known : Bool) (k a b n kind val index : Int) (nt nl : Nat) (t0 : Int) (lal : Bool) : Bool :=
  let ab := decide (a = 0) && decide (b = 0)
  if known = false ∨ (k ≠ 1 ∧ ¬ (kind = 0 ∧ val = 0 ∧ index = 0)) ∨ (k ≠ 3 ∧ 0 < nl) ∨ (k ≠ 6 ∧ 0 < nt) then false else
  if k = 0 then ab && decide (n = 0) else
  if k = 1 then ab && decide (n = 0) && blockK kind val index else
  if k = 3 then indexK a && decide (b = 0) && decide (n = 0) && lal else
  if k = 6 then ab && decide (n = 0) && decide (nt = 1) && valK t0 else
  if k = 2 ∨ k = 4 ∨ k = 7 ∨ k = 8 ∨ k = 9 ∨ k = 12 ∨ k = 16 then indexK a && decide (b = 0) && decide (n = 0) else
  if k = 5 ∨ k = 10 ∨ k = 11 ∨ k = 14 ∨ k = 15 then indexK a && indexK b && decide (n = 0) else
  if k = 13 then decide (a = 0) && indexK b && decide (n = 0) else
  if k = 17 then decide (0 ≤ a) && decide (a ≤ 63) && indexK b && decide (n < 4294967296) else
  if k = 18 then ab && decide (n < 4294967296) else
  if k = 19 then ab else (decide (a = 3) || decide (a = 4)) && decide (b = 0) && decide (n = 0)
theorem plainC_eq (known : Bool) (k a b n kind val index : Int) (types labels : List Int) : plainB known k a b n kind val index types labels = plainC known k a b n kind val index types.length labels.length (ix types 0) (labels.all indexK) := rfl
attribute [local irreducible] indexK valK blockK
theorem ref05_PlainN (op a b n kind val index : Int) (nt nl : Nat) (pt pl : Option Addr) (ct cl : Nat) (k : Int) (w : World)
    (hk : ∀ w', Ext w w' → Calls G.P 87 #[.int .i64 op] w' fun e w2 => e = .returned (.bool false) ∧ Ext w' w2) (ho : ∀ w', Ext w w' → Calls G.P 86 #[.int .i64 op] w' fun e w2 => e = .returned (.int .i64 k) ∧ Ext w' w2) :
    Calls G.P 40 #[.agg #[Value.int .i64 op, Value.int .i64 a, Value.int .i64 b, Value.int .u64 n, Value.int .i64 kind, Value.int .i64 val, Value.int .i64 index, Value.slice pt nt ct, Value.slice pl nl cl]] w fun e w' => e = .returned (.bool false) ∧ Ext w w' := by
  refine enterH (l := [_]) Tryz.func40 rfl Tryz.ntmps40 rfl (Ok.start w) ?_
  repeat' (first | refine wav ?_ | (refine qbxq fun b_ => ?_) | (refine OpsH.isCall (f := 86) ?_; refine OpsH.call1 rfl rfl rfl (fun w' hw' => ho w' hw'.at) ?_) | (refine OpsH.isCall (f := 87) ?_; refine OpsH.call1 rfl rfl rfl (fun w' hw' => hk w' hw'.at) ?_) | (refine wspv ?_ ?_ <;> (intro hc_; try subst hc_)))
  all_goals exact FinH.ret1 rfl rfl fun w' hw' => ⟨rfl, hw'.at⟩
theorem qr1q {g g' : Prop} (h : g') (hw : Hold g' → g := by (intro hk_; (first | (refine OpsH.isBin ?_; refine OpsH.yg (by first | rfl | exact gdT rfl wrdq | exact gdF rfl wrdq) (Yl.neqBl rfl rfl) rfl ?_) | (refine OpsH.isCall (f := 86) ?_; refine OpsH.call1 rfl rfl rfl (fun w' hw' => ho w' hw'.at) ?_) | (refine OpsH.isCall (f := 87) ?_; refine OpsH.call1 rfl rfl rfl (fun w' hw' => hk w' hw'.at) ?_) | (refine OpsH.isCall (f := 89) ?_; refine OpsH.call1 rfl rfl rfl (fun w' hw' => ref05_index _ w') ?_) | (refine OpsH.isCallG (f := 89) ?_; refine OpsH.call1g wgd rfl rfl rfl (fun w' hw' => ref05_index _ w') ?_) | (refine OpsH.isCallG (f := 91) ?_; refine OpsH.call1g wgd rfl rfl rfl (fun w' hw' => ref05_val _ w') ?_) | (refine OpsH.isCallG (f := 88) ?_; refine OpsH.call1g wgd rfl rfl rfl (fun w' hw' => ref05_block _ _ _ w') ?_) | (refine OpsH.isCallG (f := 90) ?_; refine OpsH.call1g wgd rfl rfl rfl (fun w' hw' => hl w' hw'.at) ?_)); exact hk_.out)) : g := hw ⟨h⟩
set_option maxHeartbeats 16000000 in
theorem ref05_Plain_0 (op a b n kind val index t0 : Int) (nt nl : Nat) (pt pl : Option Addr) (ct cl : Nat) (lal : Bool) (w : World)
    (_hl : ∀ w', Ext w w' → Calls G.P 90 #[.slice pl nl cl] w' fun e w2 => e = .returned (.bool lal) ∧ Ext w' w2)
    (hk : ∀ w', Ext w w' → Calls G.P 87 #[.int .i64 op] w' fun e w2 => e = .returned (.bool true) ∧ Ext w' w2) (ho : ∀ w', Ext w w' → Calls G.P 86 #[.int .i64 op] w' fun e w2 => e = .returned (.int .i64 0) ∧ Ext w' w2) :
    Calls G.P 40 #[.agg #[Value.int .i64 op, Value.int .i64 a, Value.int .i64 b, Value.int .u64 n, Value.int .i64 kind, Value.int .i64 val, Value.int .i64 index, Value.slice pt nt ct, Value.slice pl nl cl]] w fun e w' => e = .returned (.bool (plainC true 0 a b n kind val index nt nl t0 lal)) ∧ Ext w w' := by
  refine enterH (l := [_]) Tryz.func40 rfl Tryz.ntmps40 rfl (Ok.start w) ?_
  repeat' (first | refine wav ?_ | (refine qbxq fun b_ => ?_) | refine qr1q ?_ | (refine wspv ?_ ?_ <;> (intro hc_; try subst hc_)))
  all_goals first | (exfalso; omega) | exact FinH.ret1 rfl rfl fun w' hw' => ⟨by clear hw' _hl hk ho; first | (simp_all [plainC]; done) | (simp_all [plainC] <;> (intros; omega)), hw'.at⟩
set_option maxHeartbeats 16000000 in
theorem ref05_Plain_1 (op a b n kind val index t0 : Int) (nt nl : Nat) (pt pl : Option Addr) (ct cl : Nat) (lal : Bool) (w : World)
    (_hl : ∀ w', Ext w w' → Calls G.P 90 #[.slice pl nl cl] w' fun e w2 => e = .returned (.bool lal) ∧ Ext w' w2)
    (hk : ∀ w', Ext w w' → Calls G.P 87 #[.int .i64 op] w' fun e w2 => e = .returned (.bool true) ∧ Ext w' w2) (ho : ∀ w', Ext w w' → Calls G.P 86 #[.int .i64 op] w' fun e w2 => e = .returned (.int .i64 1) ∧ Ext w' w2) :
    Calls G.P 40 #[.agg #[Value.int .i64 op, Value.int .i64 a, Value.int .i64 b, Value.int .u64 n, Value.int .i64 kind, Value.int .i64 val, Value.int .i64 index, Value.slice pt nt ct, Value.slice pl nl cl]] w fun e w' => e = .returned (.bool (plainC true 1 a b n kind val index nt nl t0 lal)) ∧ Ext w w' := by
  refine enterH (l := [_]) Tryz.func40 rfl Tryz.ntmps40 rfl (Ok.start w) ?_
  repeat' (first | refine wav ?_ | (refine qbxq fun b_ => ?_) | refine qr1q ?_ | (refine wspv ?_ ?_ <;> (intro hc_; try subst hc_)))
  all_goals first | (exfalso; omega) | exact FinH.ret1 rfl rfl fun w' hw' => ⟨by clear hw' _hl hk ho; first | (simp_all [plainC]; done) | (simp_all [plainC] <;> (intros; omega)), hw'.at⟩
set_option maxHeartbeats 16000000 in
theorem ref05_Plain_2 (op a b n kind val index t0 : Int) (nt nl : Nat) (pt pl : Option Addr) (ct cl : Nat) (lal : Bool) (w : World)
    (_hl : ∀ w', Ext w w' → Calls G.P 90 #[.slice pl nl cl] w' fun e w2 => e = .returned (.bool lal) ∧ Ext w' w2)
    (hk : ∀ w', Ext w w' → Calls G.P 87 #[.int .i64 op] w' fun e w2 => e = .returned (.bool true) ∧ Ext w' w2) (ho : ∀ w', Ext w w' → Calls G.P 86 #[.int .i64 op] w' fun e w2 => e = .returned (.int .i64 2) ∧ Ext w' w2) :
    Calls G.P 40 #[.agg #[Value.int .i64 op, Value.int .i64 a, Value.int .i64 b, Value.int .u64 n, Value.int .i64 kind, Value.int .i64 val, Value.int .i64 index, Value.slice pt nt ct, Value.slice pl nl cl]] w fun e w' => e = .returned (.bool (plainC true 2 a b n kind val index nt nl t0 lal)) ∧ Ext w w' := by
  refine enterH (l := [_]) Tryz.func40 rfl Tryz.ntmps40 rfl (Ok.start w) ?_
  repeat' (first | refine wav ?_ | (refine qbxq fun b_ => ?_) | refine qr1q ?_ | (refine wspv ?_ ?_ <;> (intro hc_; try subst hc_)))
  all_goals first | (exfalso; omega) | exact FinH.ret1 rfl rfl fun w' hw' => ⟨by clear hw' _hl hk ho; first | (simp_all [plainC]; done) | (simp_all [plainC] <;> (intros; omega)), hw'.at⟩
set_option maxHeartbeats 16000000 in
theorem ref05_Plain_3 (op a b n kind val index t0 : Int) (nt nl : Nat) (pt pl : Option Addr) (ct cl : Nat) (lal : Bool) (w : World)
    (hl : ∀ w', Ext w w' → Calls G.P 90 #[.slice pl nl cl] w' fun e w2 => e = .returned (.bool lal) ∧ Ext w' w2)
    (hk : ∀ w', Ext w w' → Calls G.P 87 #[.int .i64 op] w' fun e w2 => e = .returned (.bool true) ∧ Ext w' w2) (ho : ∀ w', Ext w w' → Calls G.P 86 #[.int .i64 op] w' fun e w2 => e = .returned (.int .i64 3) ∧ Ext w' w2) :
    Calls G.P 40 #[.agg #[Value.int .i64 op, Value.int .i64 a, Value.int .i64 b, Value.int .u64 n, Value.int .i64 kind, Value.int .i64 val, Value.int .i64 index, Value.slice pt nt ct, Value.slice pl nl cl]] w fun e w' => e = .returned (.bool (plainC true 3 a b n kind val index nt nl t0 lal)) ∧ Ext w w' := by
  refine enterH (l := [_]) Tryz.func40 rfl Tryz.ntmps40 rfl (Ok.start w) ?_
  repeat' (first | refine wav ?_ | (refine qbxq fun b_ => ?_) | refine qr1q ?_ | (refine wspv ?_ ?_ <;> (intro hc_; try subst hc_)))
  all_goals first | (exfalso; omega) | exact FinH.ret1 rfl rfl fun w' hw' => ⟨by clear hw' hl hk ho; first | (simp_all [plainC]; done) | (simp_all [plainC] <;> (intros; omega)), hw'.at⟩
end Go.Proofs.YtgbgnipidakdhaaGreatDoor
