/- The iterator over the table of opcodes. -/
import Derived.Test.YtgbgnipidakdhaaGreatDoorJH2
import Derived.Test.YtgbgnipidakdhaaGreatDoorJJ
import Derived.Test.YtgbgnipidakdhaaGreatDoorJR8
namespace Go.Proofs.YtgbgnipidakdhaaGreatDoor
open Go.RowKit
set_option maxRecDepth 100000

theorem rowCells_eq : rowCells = (List.range 24).flatMap (fun i => rwV (ix rowsO i)) := by kernel_rfl
theorem rowsO_len : rowsO.length = 24 := rfl
theorem row_ok : ∀ i, i < 24 → 0 ≤ (ix rowsO i).1 ∧ (ix rowsO i).1 ≤ 70000 ∧ (ix rowsO i).2.1.length ≤ 100 ∧ (ix rowsO i).2.2.length ≤ 1000 ∧ ((ix rowsO i).2.2.all fun b => decide (b.toNat < 128)) = true ∧ ((Lib.fields (ix rowsO i).2.2).all fun f => decide (f.length ≤ 100)) = true ∧ (Lib.fields (ix rowsO i).2.2).length ≤ 100 := by decide +kernel
/-- the k-th opcode of row i -/
def opAt (r : Int × List UInt8 × List UInt8) (k : Nat) : Int × ByteArray := (r.1 + k, ⟨r.2.1.toArray⟩ ++ ⟨(ix (Lib.fields r.2.2) k).toArray⟩)
theorem opsOf_len (r : Int × List UInt8 × List UInt8) : (opsOf r).length = (Lib.fields r.2.2).length := by simp [opsOf]
theorem opsOf_take {r : Int × List UInt8 × List UInt8} {k : Nat} (h : k < (Lib.fields r.2.2).length) : (opsOf r).take (k + 1) = (opsOf r).take k ++ [opAt r k] := by
  have hl : k < (opsOf r).length := by rw [opsOf_len]; exact h
  rw [List.take_succ_eq_append_getElem hl]
  congr 2
  simp only [opsOf, List.getElem_map, List.getElem_zipIdx, opAt, ix_eq h]
  simp
/-- what has come ahead of the k-th opcode of row i -/
def preO (i k : Nat) : List (Int × ByteArray) := (rowsO.take i).flatMap opsOf ++ (opsOf (ix rowsO i)).take k
theorem preO_pre {i k : Nat} (hi : i < 24) : preO i k <+: opX := by
  refine ⟨(opsOf (ix rowsO i)).drop k ++ (rowsO.drop (i + 1)).flatMap opsOf, ?_⟩
  have e : rowsO = rowsO.take i ++ ([ix rowsO i] ++ rowsO.drop (i + 1)) := by
    rw [← List.append_assoc, ← take_succ_ix (by rw [rowsO_len]; exact hi), List.take_append_drop]
  unfold preO opX
  conv => rhs; rw [e]
  simp only [List.flatMap_append, List.flatMap_cons, List.flatMap_nil, List.append_nil]
  rw [List.append_assoc, ← List.append_assoc (List.take k _), List.take_append_drop]
theorem preO_next {i : Nat} (hi : i < 24) : preO i (Lib.fields (ix rowsO i).2.2).length = preO (i + 1) 0 := by
  unfold preO
  rw [← opsOf_len, List.take_length, List.take_zero, List.append_nil, take_succ_ix (by rw [rowsO_len]; exact hi), List.flatMap_append]
  simp
theorem preO_end : preO 24 0 = opX := by unfold preO opX; rw [List.take_zero, List.append_nil, ← rowsO_len, List.take_length]

/-- what an iterator lays: rows of the table, strings, the call of yield -/
def TK (T : TypeId) : Prop := T = 247 ∨ T = 9 ∨ T = 163
/-- what a round must keep: what an iterator has laid from B on, and the variables -/
structure KpO (B : Nat) (W W' : World) : Prop where
  size : W.heap.size ≤ W'.heap.size
  same : ∀ (k : Nat) (cs : List Value) (T : TypeId), B ≤ k → TK T → Blk W k cs T → Blk W' k cs T
  env : Env0 W → Env0 W'
theorem KpO.refl (B : Nat) (W : World) : KpO B W W := ⟨Nat.le_refl _, fun _ _ _ _ _ h => h, id⟩
theorem KpO.trans {B : Nat} {X Y Z : World} (h : KpO B X Y) (k : KpO B Y Z) : KpO B X Z := ⟨Nat.le_trans h.size k.size, fun i cs T hB hT hi => k.same i cs T hB hT (h.same i cs T hB hT hi), fun e => k.env (h.env e)⟩
theorem KpO.put {B : Nat} {W : World} {l : Nat} {o o' : Obj} (hl : W.heap[l]? = some o) (ho : o.isCells = false) : KpO B W (W.putObj l o') :=
  ⟨by simp [World.putObj], fun k cs T _ _ hk => by
    have : k ≠ l := by rintro rfl; unfold Blk at hk; rw [hl] at hk; cases hk; cases ho
    unfold Blk; rw [World.putObj_heap_other this]; exact hk, fun e => e.put hl ho⟩
theorem KpO.blk {B : Nat} {W W' : World} (h : KpO B W W') {b : Nat} {cs : List Value} {T : TypeId} (hb : Blk W b cs T) (hB : B ≤ b) (hT : TK T) : Blk W' b cs T := h.same b cs T hB hT hb
theorem KpO.le {B B' : Nat} {W W' : World} (h : KpO B W W') (hB : B ≤ B') : KpO B' W W' := ⟨h.size, fun k cs T hk => h.same k cs T (Nat.le_trans hB hk), h.env⟩
theorem Ext.grown {W W' : World} (h : Ext W W') : W.grownBy W' none := ⟨h.os, h.tape, h.output, h.size, fun k hk _ => h.block k hk id⟩
def encO (x : Int × ByteArray) : List Value := [.int .i64 x.1, .string x.2]

theorem yield_any {ro ro' : Option Nat} {m m' : Nat} {l : Nat} {args : Array Value} {W : World} {R : Ending → World → Prop} (h : YieldAt (FW ro) m G.P l args W R) : YieldAt (FW ro') m' G.P l args W R := by
  obtain ⟨fn, tmps, assign, body, hy, hR⟩ := h
  exact ⟨fn, tmps, assign, body, hy, trivial, fun c cs _ => hR.2 c cs (fun d hd => by cases hd)⟩

set_option maxHeartbeats 4000000 in
theorem named1_gen (w0 : World) (h0 : Env0 w0) (l : Nat) (J Jx : List (Int × ByteArray) → World → Prop) (W : World) (hW : Below w0.heap.size w0 W) (hJ : ∀ s A B, J s A → A.grownBy B none → J s B)
    (hY : ∀ pre x W1, J pre W1 → pre ++ [x] <+: opX → YieldAt (FW none) 0 G.P l (encO x).toArray W1 fun e W' => (e = .returned (.bool true) ∧ J (pre ++ [x]) W' ∧ KpO w0.heap.size W1 W') ∨ (e = .returned (.bool false) ∧ Jx (pre ++ [x]) W')) (hJ0 : J [] W) :
    Calls G.P 183 ([.func (.yield l) #[] #[]] : List Value).toArray W fun e W' => (∃ v, e = .returned v) ∧ (J opX W' ∨ ∃ pre, pre <+: opX ∧ Jx pre W') := by
  have hEW : Env0 W := h0.ext (Ext.ofBelow hW)
  have hBW : w0.heap.size ≤ W.heap.size := hW.size
  have abide : ∀ {pre : List (Int × ByteArray)} {A B : World}, J pre A → Ext A B → J pre B := fun {pre A B} h hx => hJ pre A B h hx.grown
  refine enter (G := G) Tryz.func183 rfl Tryz.ntmps183 rfl ?_
  refine wgy ?_
  refine Ops.call rfl rfl rfl (opcode_rows W) ?_
  rintro _ w1 ⟨rfl, hn1⟩
  refine ⟨_, rfl, ?_⟩
  refine wgy ?_
  refine Cd.loop (σ := Nat) (fun i => [(0, .func (.yield l) #[] #[]), (6, .slice (some ⟨W.heap.size, 0, none⟩) 24 24), (7, .int .i64 24), (8, .int .i64 i)]) (fun i wr => i ≤ 24 ∧ J (preO i 0) wr ∧ Env0 wr ∧ Blk wr W.heap.size rowCells 247) (fun i => 24 - i) 0 wsub ⟨by omega, abide (show J (preO 0 0) W from hJ0) hn1.ext, hEW.ext hn1.ext, hn1.blk⟩ ?_
  rintro i wr ⟨hi, hJi, hEi, hBi⟩
  by_cases hlt : i < 24
  · obtain ⟨k1, k2, k3, k4, k5, k6, k7⟩ := row_ok i hlt
    have hcell : ∀ w', w' = wr → ∀ j, j < 3 → w'.cell? ⟨W.heap.size, 0 + i * 3 + j, none⟩ = (rwV (ix rowsO i))[j]? := by
      rintro _ rfl j hj
      have e : rowCells[i * 3 + j]? = (rwV (ix rowsO i))[j]? := by rw [rowCells_eq]; exact flat_get 3 (fun i => rwV (ix rowsO i)) 24 (fun _ _ => rfl) i j hlt hj
      rw [Nat.zero_add]
      have hs : ∃ u, (rwV (ix rowsO i))[j]? = some u := ⟨_, List.getElem?_eq_getElem (by simpa [rwV] using hj)⟩
      obtain ⟨u, hu⟩ := hs
      rw [hu] at e ⊢
      exact hBi.cell e
    have hpre := fun k => preO_pre (i := i) (k := k) hlt
    have hnext := preO_next hlt
    have htake := fun k (h : k < (Lib.fields (ix rowsO i).2.2).length) => opsOf_take h
    refine wgy ?_
    refine Ops.y (Yl.loadA (cs := rwV (ix rowsO i)) rfl rfl rfl rfl rfl hcell) rfl ?_
    refine Ops.e (Eff.alloc rfl) rfl ?_
    rintro _ w2 ⟨rfl, hn2⟩
    refine Ops.e0 (Eff.storeB (ti := ti247) (cs := rwV (ix rowsO i)) rfl rfl rfl rfl rfl (by simp [rwV, Value.oneCell']) hn2.blk rfl) ?_
    rintro _ w3 ⟨hb3, hc3, hz3⟩
    have hx3 : Ext wr w3 := Chg.trans' hn2.ext hc3 (fun k hk e => by omega)
    generalize hgb : wr.heap.size = b2 at *
    have c0 : w3.cell? ⟨b2, 0, none⟩ = some (.int .i64 (ix rowsO i).1) := hb3.cell rfl
    have c1 : w3.cell? ⟨b2, 0 + 1, none⟩ = some (.string ⟨(ix rowsO i).2.1.toArray⟩) := hb3.cell rfl
    have c2 : w3.cell? ⟨b2, 0 + 2, none⟩ = some (.string ⟨(ix rowsO i).2.2.toArray⟩) := hb3.cell rfl
    refine wgy ?_
    have hE3 : Env0 w3 := hEi.ext hx3
    refine Ops.call rfl rfl rfl (sh_Fields ⟨(ix rowsO i).2.2.toArray⟩ w3 (show (ix rowsO i).2.2.length < _ by omega) (fun j b hb => ?_) hE3.asc) ?_
    · have := List.all_eq_true.1 k5 b (List.mem_of_getElem? hb)
      simpa using this
    rintro _ _ ⟨rfl, rfl⟩
    refine ⟨_, rfl, ?_⟩
    have hn4 := New.alloc w3 ((Lib.fields (ix rowsO i).2.2).map fun l => Value.string ⟨l.toArray⟩) 9
    generalize hw4 : w3.alloc (.cells ((Lib.fields (ix rowsO i).2.2).map fun l => Value.string ⟨l.toArray⟩).toArray 9) = w4 at *
    have hx4 : Ext wr w4 := hx3.trans hn4.ext
    have hb4 : Blk w4 b2 (rwV (ix rowsO i)) 247 := hb3.chg hn4.ext id
    have hB4 : Blk w4 W.heap.size rowCells 247 := hBi.chg hx4 id
    have hf4 := hn4.blk
    generalize hgc : w3.heap.size = b4 at *
    have hle2 : W.heap.size < b2 := by have := hBi.lt; omega
    have hle4 : b2 < b4 := by have := hb3.lt; omega
    have hJ4 : J (preO i 0) w4 := abide hJi hx4
    have hE4 : Env0 w4 := hE3.ext hn4.ext
    clear hn4 hx4 hx3 hb3 hc3 hz3 hn2 c0 c1 c2 hE3 hEi hJi hBi hcell hw4
    refine wgy ?_
    refine Cd.loop (σ := Nat) (fun k => [(0, .func (.yield l) #[] #[]), (3, .pointer (some ⟨b2, 0, none⟩)), (6, .slice (some ⟨W.heap.size, 0, none⟩) 24 24), (7, .int .i64 24), (8, .int .i64 i), (14, .slice (some ⟨b4, 0, none⟩) (Lib.fields (ix rowsO i).2.2).length (Lib.fields (ix rowsO i).2.2).length), (15, .int .i64 ((Lib.fields (ix rowsO i).2.2).length : Nat)), (16, .int .i64 k)])
      (fun k wq => k ≤ (Lib.fields (ix rowsO i).2.2).length ∧ J (preO i k) wq ∧ Env0 wq ∧ Blk wq W.heap.size rowCells 247 ∧ Blk wq b2 (rwV (ix rowsO i)) 247 ∧ Blk wq b4 ((Lib.fields (ix rowsO i).2.2).map fun l => Value.string ⟨l.toArray⟩) 9) (fun k => (Lib.fields (ix rowsO i).2.2).length - k) 0 wsub ⟨by omega, hJ4, hE4, hB4, hb4, hf4⟩ ?_
    clear hJ4 hE4 hB4 hb4 hf4
    rintro k wq ⟨hk, hJk, hEk, hBk, hb, hf⟩
    by_cases hkl : k < (Lib.fields (ix rowsO i).2.2).length
    · have c0 : wq.cell? ⟨b2, 0, none⟩ = some (.int .i64 (ix rowsO i).1) := hb.cell rfl
      have c1 : wq.cell? ⟨b2, 0 + 1, none⟩ = some (.string ⟨(ix rowsO i).2.1.toArray⟩) := hb.cell rfl
      have c4 : wq.cell? ⟨b4, 0 + k, none⟩ = some (.string ⟨(ix (Lib.fields (ix rowsO i).2.2) k).toArray⟩) := by
        rw [Nat.zero_add]
        exact hf.cell (by rw [List.getElem?_map, ix_some hkl]; rfl)
      have hs1 : (⟨(ix rowsO i).2.1.toArray⟩ : ByteArray).size = (ix rowsO i).2.1.length := rfl
      have hs2 : (⟨(ix (Lib.fields (ix rowsO i).2.2) k).toArray⟩ : ByteArray).size = (ix (Lib.fields (ix rowsO i).2.2) k).length := rfl
      have hs3 : (ix (Lib.fields (ix rowsO i).2.2) k).length ≤ 100 := by
        have := List.all_eq_true.1 k6 _ (show ix (Lib.fields (ix rowsO i).2.2) k ∈ _ by rw [ix_eq hkl]; exact List.getElem_mem hkl)
        simpa using this
      have hstep : preO i (k + 1) = preO i k ++ [opAt (ix rowsO i) k] := by unfold preO; rw [htake k hkl, List.append_assoc]
      have hyk := hY (preO i k) (opAt (ix rowsO i) k) wq hJk (by rw [← hstep]; exact hpre (k + 1))
      refine wgy ?_
      refine Cd.regionI 0 ?_
      refine wgi ?_
      refine OpsI.round rfl rfl rfl hyk ?_
      rintro e w5 (⟨rfl, hJ5, hK5⟩ | ⟨rfl, hJx5⟩)
      · refine ⟨_, rfl, ?_⟩
        refine wgi ?_
        refine FinI.ofFin ?_
        refine wgy ?_
        refine Fin.next (k + 1) wsub ⟨by omega, by rw [hstep]; exact hJ5, hK5.env hEk, hK5.blk hBk hBW (.inl rfl), hK5.blk hb (by omega) (.inl rfl), hK5.blk hf (by omega) (.inr (.inl rfl))⟩ (by omega)
      · refine ⟨_, rfl, ?_⟩
        refine wgi ?_
        refine FinI.ofFin ?_
        refine wgy ?_
        refine Fin.ret0 rfl ⟨⟨_, rfl⟩, .inr ⟨preO i k ++ [opAt (ix rowsO i) k], ?_, hJx5⟩⟩
        rw [← hstep]; exact hpre (k + 1)
    · have hke : k = (Lib.fields (ix rowsO i).2.2).length := by omega
      subst hke
      refine wgy ?_
      refine Fin.next (i + 1) wsub ⟨by omega, by rw [← hnext]; exact hJk, hEk, hBk⟩ (by omega)
  · have hie : i = 24 := by omega
    subst hie
    refine wgy ?_
    refine Fin.end0 rfl ⟨⟨_, rfl⟩, .inl (by rw [← preO_end]; exact hJi)⟩
theorem named1_stops (m : Nat) (w0 : World) (h0 : Env0 w0) : SeqStopsK (FW none) m G.P 183 #[] (fun x => (encO x).toArray) (KpO w0.heap.size) (fun xs => xs = opX) (fun pre => pre <+: opX) opX.length w0 := fun l J Jx W hW hJ hJx hY hJ0 =>
  FW_calls ((named1_gen w0 h0 l J Jx W hW (fun s A B h hg => hJ s A B none h hg (fun r e => by cases e)) (fun pre x W1 hj hp => yield_any (hY pre x W1 hj (by have := hp.length_le; simp at this; omega))) hJ0).mono fun _ _ h => ⟨h.1, h.2.imp (fun h => ⟨_, rfl, h⟩) id⟩)
end Go.Proofs.YtgbgnipidakdhaaGreatDoor
/- opcode.Name, Known: a look into the table. -/
namespace Go.Proofs.YtgbgnipidakdhaaGreatDoor
open Go.RowKit
set_option maxRecDepth 100000

theorem run_ret1s {fn : Func} {n : Nat} {E : Env} {w : World} {a T : Nat} {ti : TI} {v : Value} {ad : Addr} (hr : fn.results = #[.cell a T]) (ha : lk E a = some (.pointer (some ad))) (hT : G.ty T = some ti) (hag : ti.agg = false) (hc : w.cell? ad = some v) :
    ∀ ac, Ag n ac E → (results fn ac.tmps).run G.P w = .ok v w := fun ac hac => by
  have h1 := (G.tyOk T ti hT).agg w
  rw [hag] at h1
  have g1 : ac.tmps[a]?.getD undef = .pointer (some ad) := by have := (hac.eq a _ ha).2; simpa using this
  simp [results, hr, g1, asAddr, loadVar, h1, hc]

/-- what stands in the table -/
def findO (op : Int) : List (Int × ByteArray) → Option ByteArray
  | [] => none
  | x :: r => if x.1 = op then some x.2 else findO op r
def nameO (op : Int) : ByteArray := (findO op opX).getD ⟨#[]⟩
theorem findO_none {op : Int} : ∀ {l : List (Int × ByteArray)}, (∀ x ∈ l, x.1 ≠ op) → findO op l = none
  | [], _ => rfl
  | x :: r, h => by rw [findO, if_neg (h x (by simp))]; exact findO_none (fun y hy => h y (by simp [hy]))
theorem findO_app {op : Int} {x : Int × ByteArray} (hx : x.1 = op) {r : List (Int × ByteArray)} : ∀ {l : List (Int × ByteArray)}, (∀ y ∈ l, y.1 ≠ op) → findO op (l ++ [x] ++ r) = some x.2
  | [], _ => by simp [findO, hx]
  | y :: l, h => by
    show findO op (y :: (l ++ [x] ++ r)) = _
    rw [findO, if_neg (h y (by simp))]; exact findO_app hx (fun z hz => h z (by simp [hz]))

theorem opcode_named (w : World) : Calls G.P 167 #[] w fun e w' => e = .returned (.func (.func 183) #[] #[]) ∧ w = w' := by
  refine enter (G := G) Tryz.func167 rfl Tryz.ntmps167 rfl ?_
  refine wgx ?_
  exact Fin.ret1 rfl rfl ⟨rfl, rfl⟩

theorem Blk.grown {W W' : World} {row : Option Nat} {B b : Nat} {cs : List Value} {T : TypeId} (h : Blk W b cs T) (hb : b < B) (hg : W.grownBy W' row) (hr : ∀ r, row = some r → B ≤ r ∧ ∃ o : Obj, W.heap[r]? = some o ∧ o.isCells = false) : Blk W' b cs T := by
  unfold Blk
  rw [hg.block b h.lt (fun e => by have := (hr b e.symm).1; omega)]; exact h
theorem Ext.grownB {w W W' : World} {row : Option Nat} {B : Nat} (h : Ext w W) (hB : w.heap.size ≤ B) (hg : W.grownBy W' row) (hr : ∀ r, row = some r → B ≤ r ∧ ∃ o : Obj, W.heap[r]? = some o ∧ o.isCells = false) : Ext w W' :=
  Chg.trans' h (Chg.ofGrown hg) (fun k hk e => by have := (hr k e).1; omega)
theorem Ext.putD {w W : World} (h : Ext w W) {l : Nat} (hl : w.heap.size ≤ l) (o : Obj) : Ext w (W.putObj l o) :=
  Chg.trans' h (T := fun k => k = l) ⟨rfl, rfl, rfl, by simp [World.putObj], fun k _ hk => World.putObj_heap_other hk⟩ (fun k hk e => by omega)

set_option maxHeartbeats 4000000 in
theorem opcode_Name (op : Int) (w : World) (h0 : Env0 w) : Calls G.P 140 #[.int .i64 op] w fun e w' => e = .returned (.string (nameO op)) ∧ Ext w w' := by
  refine enterI (m := 5) (l := [.int .i64 op]) Tryz.func140 rfl Tryz.ntmps140 rfl ?_
  refine wgi ?_
  refine OpsI.e (Eff.box rfl rfl) rfl rfl ?_
  rintro _ w1 ⟨rfl, hn1⟩
  refine OpsI.e (Eff.alloc rfl) rfl rfl ?_
  rintro _ w2 ⟨rfl, hn2⟩
  refine wgi ?_
  refine OpsI.e (Eff.call rfl rfl (opcode_named w2) (fun e w' h => ⟨_, h.1⟩)) rfl rfl ?_
  rintro _ _ ⟨h, rfl⟩
  cases h
  refine wgi ?_
  have hx2 : Ext w w2 := hn1.ext.trans hn2.ext
  have hs1 := hn1.size
  have hs2 := hn2.size
  have hb1 : Blk w2 w.heap.size [.int .i64 op] 35 := hn1.blk.chg hn2.ext id
  have hb2 : Blk w2 w1.heap.size [.string ⟨#[]⟩] 9 := hn2.blk
  generalize w1.heap.size = b2 at *
  generalize hgb : w.heap.size = b1 at *
  refine CdI.rangeFunc (encs := encO) (Kp := KpO w2.heap.size) (S := fun xs => xs = opX) (Sp := fun pre => pre <+: opX) (N := opX.length) rfl rfl (by omega) (named1_stops _ w2 (h0.ext hx2)) (fun h k => h.trans k) (fun W l o o' _ hl ho _ => KpO.put hl ho) (KpO.refl _) (fun _ => rfl) rfl
    (fun pre W => (∀ x ∈ pre, x.1 ≠ op) ∧ Blk W b1 [.int .i64 op] 35 ∧ Blk W b2 [.string ⟨#[]⟩] 9 ∧ Ext w W)
    (fun c pre W => c = .ret ∧ ∃ pre' x, pre = pre' ++ [x] ∧ x.1 = op ∧ (∀ y ∈ pre', y.1 ≠ op) ∧ Blk W b2 [.string x.2] 9 ∧ Ext w W)
    (fun pre W W' row ⟨h1, h2, h3, h4⟩ hg hr => ⟨h1, h2.grown (by omega) hg hr, h3.grown (by omega) hg hr, h4.grownB (by omega) hg hr⟩)
    (fun c pre W W' row ⟨h1, p, x, h2, h3, h4, h5, h6⟩ hg hr => ⟨h1, p, x, h2, h3, h4, h5.grown (by omega) hg hr, h6.grownB (by omega) hg hr⟩)
    ⟨by simp, hb1, hb2, hx2⟩ (fun x => [(1, .pointer (some ⟨b1, 0, none⟩)), (2, .pointer (some ⟨b2, 0, none⟩)), (3, .int .i64 x.1), (4, .string x.2)]) ?_ ?_ ?_ ?_
  · intro l x W K hK
    refine wgi ?_
    exact FinI.thenK (fun a ha => hK a (ha.sub wsub))
  · rintro l pre x W ⟨h1, h2, h3, h4⟩ hN
    have c1 : W.cell? ⟨b1, 0, none⟩ = some (.int .i64 op) := h2.cell rfl
    by_cases hx : x.1 = op
    · refine wgi ?_
      refine OpsI.e0 (Eff.storeW (ti := ti9) rfl rfl rfl rfl rfl h3 (by simp)) rfl ?_
      rintro _ W2 ⟨hb, hc, hz⟩
      refine wgi ?_
      refine ⟨fun a ha => ⟨⟨by omega, fun k o hk ho hno => ?_⟩, rfl, pre, x, rfl, hx, h1, hb, ?_⟩⟩
      · rw [hc.block k (Array.getElem?_eq_some_iff.1 ho).1 (by omega)]; exact ho
      · exact Chg.trans' h4 hc (fun k hk e => by omega)
    · refine wgi ?_
      refine ⟨fun a ha => ⟨KeepsFrom.refl _ _, KpO.refl _ _, fun y hy => ?_, h2, h3, h4⟩⟩
      rcases List.mem_append.1 hy with hy | hy
      · exact h1 y hy
      · rw [List.mem_singleton] at hy; subst hy; exact hx
  · rintro Dn xs W hD rfl ⟨h1, h2, h3, h4⟩ hK
    refine wgi ?_
    refine OpsI.e0 (Eff.storeW (ti := ti9) rfl rfl rfl rfl rfl h3 (by simp)) rfl ?_
    rintro _ W2 ⟨hb, hc, hz⟩
    refine wgi ?_
    have hx4 : Ext w W2 := Chg.trans' h4 hc (fun k hk e => by omega)
    refine FinI.retM (.inl rfl) (by rw [hc.block Dn (Array.getElem?_eq_some_iff.1 hK).1 (by omega)]; exact hK) (run_ret1s rfl rfl rfl rfl ?_) ⟨rfl, hx4.putD (by omega) _⟩
    rw [World.cell?_of_block (w := W2) (World.putObj_heap_other (by show b2 ≠ Dn; omega)), show nameO op = ⟨#[]⟩ by unfold nameO; rw [findO_none h1]; rfl]
    exact hb.cell rfl
  · rintro Dn c pre W hD hp ⟨rfl, pre', x, rfl, hx, h1, hb, h4⟩ hK
    refine wgi ?_
    refine FinI.retM (.inl rfl) hK (run_ret1s rfl rfl rfl rfl ?_) ⟨rfl, h4.putD (by omega) _⟩
    obtain ⟨r, hr⟩ := hp
    rw [World.cell?_of_block (w := W) (World.putObj_heap_other (by show b2 ≠ Dn; omega)), show nameO op = x.2 by unfold nameO; rw [← hr, findO_app hx h1]; rfl]
    exact hb.cell rfl

theorem opcode_Known (op : Int) (w : World) (h0 : Env0 w) : Calls G.P 124 #[.int .i64 op] w fun e w' => e = .returned (.bool (!(by_ (nameO op) == []))) ∧ Ext w w' := by
  refine enter (G := G) Tryz.func124 rfl Tryz.ntmps124 rfl ?_
  refine wgx ?_
  refine Ops.call rfl rfl rfl (opcode_Name op w h0) ?_
  rintro _ w1 ⟨rfl, hx⟩
  refine ⟨_, rfl, ?_⟩
  refine wgx ?_
  exact Fin.ret1 rfl rfl ⟨rfl, hx⟩
end Go.Proofs.YtgbgnipidakdhaaGreatDoor
