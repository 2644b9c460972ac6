/- The reference's table of opcodes: find, Known, Name, Of, within, Width, All; and that both tables are one. -/
import Derived.Test.YtmkgfccfnpmcjaaGreatDoorJB2
namespace Go.Proofs.YtmkgfccfnpmcjaaGreatDoor
open Go.RowKit
set_option maxRecDepth 100000

def find5 (op : Int) : Option Row5 := r05.find? fun r => decide (r.1 = op)
def row5 (op : Int) : Row5 := (find5 op).getD (0, [], 0)
theorem rwC_get : ∀ (xs : List Row5) (i j : Nat), i < xs.length → j < 3 → (xs.flatMap rwC)[i * 3 + j]? = (rwC (ix xs i))[j]?
  | [], i, _, h, _ => by simp at h
  | a :: r, 0, j, _, hj => by
    rw [List.flatMap_cons, List.getElem?_append_left (by simp [rwC]; omega)]
    simp [ix]
  | a :: r, i + 1, j, h, hj => by
    rw [List.flatMap_cons, List.getElem?_append_right (by simp [rwC]; omega)]
    have e : (i + 1) * 3 + j - (rwC a).length = i * 3 + j := by simp [rwC]; omega
    rw [e, rwC_get r i j (by simpa using h) hj]
    simp [ix]
/-- the table, frozen -/
def Tb5 (g : Nat) : World → Prop := fun w => ∀ i, i < r05.length → ∀ j, j < 3 → w.cell? ⟨g, 0 + i * 3 + j, none⟩ = (rwC (ix r05 i))[j]?
theorem tb5_own {w : World} {B g cap : Nat} (h : w.ownsRow B T5 3 (.slice (some ⟨g, 0, none⟩) r05.length cap) r05.length (r05.flatMap rwC)) : Tb5 g w := fun i hi j hj => by
  rw [← rwC_get r05 i j hi hj]
  have hs : ∃ u, (r05.flatMap rwC)[i * 3 + j]? = some u := ⟨_, List.getElem?_eq_getElem (by rw [rwC_len]; omega)⟩
  obtain ⟨u, hu⟩ := hs
  rw [hu, Nat.zero_add]
  exact own_get h hu
theorem r05_len : r05.length = 125 := by decide +kernel
theorem r05_ix (i : Nat) : rwC (ix r05 i) = [.int .i64 (ix r05 i).1, .string ⟨(ix r05 i).2.1.toArray⟩, .int .i64 (ix r05 i).2.2] := rfl
theorem find5_at {op : Int} {i : Nat} (hi : i < r05.length) (h : ∀ j, j < i → (ix r05 j).1 ≠ op) (e : (ix r05 i).1 = op) : find5 op = some (ix r05 i) := by
  unfold find5
  rw [List.find?_eq_some_iff_getElem]
  refine ⟨by simpa using e, i, hi, (ix_eq hi).symm, fun j hj => ?_⟩
  have := h j hj
  rw [ix_eq (by omega)] at this
  simpa using this
theorem find5_none {op : Int} (h : ∀ j, j < r05.length → (ix r05 j).1 ≠ op) : find5 op = none := by
  unfold find5
  rw [List.find?_eq_none]
  intro x hx
  obtain ⟨j, hj, e⟩ := List.getElem_of_mem hx
  have := h j hj
  rw [ix_eq hj, e] at this
  simpa using this

def findV (op : Int) : Value := .tuple #[.agg #[.int .i64 (row5 op).1, .string ⟨(row5 op).2.1.toArray⟩, .int .i64 (row5 op).2.2], .bool (find5 op).isSome]
set_option maxHeartbeats 8000000 in
theorem ref05_find (op : Int) (w : World) : Calls G.P 34 #[.int .i64 op] w fun e w' => e = .returned (findV op) ∧ Ext w w' := by
  refine enterH (l := [.int .i64 op]) Tryz.func34 rfl Tryz.ntmps34 rfl (Ok.start w) ?_
  refine wgh ?_
  refine OpsH.alloc [.int .i64 0, .string ⟨#[]⟩, .int .i64 0] rfl rfl rfl fun b => ?_
  refine wgh ?_
  refine OpsH.he (HE.callO (B := w.heap.size) rfl rfl szR (fun w' _ => ref05_rows w')) rfl ?_
  intro v1 _
  refine OpsH.pure (φ := ∃ g cap, v1 = .slice (some ⟨g, 0, none⟩) r05.length cap) (fun w' hw' => ?_) ?_
  · obtain ⟨p, c, rfl, _, _, hg⟩ := own_slice (hw'.own (v := v1))
    obtain ⟨g, rfl, _⟩ := hg (by rw [r05_len]; omega)
    exact ⟨g, c, rfl⟩
  rintro ⟨g, cap, rfl⟩
  refine OpsH.freeze (Tb5 g) wrm (fun w' hq _ => tb5_own hq) ?_
  have hlen := r05_len
  generalize hn : r05.length = n at *
  refine wgh ?_
  refine CdH.loop (σ := Nat) (fun i => [(0, .int .i64 op), (2, .pointer (some ⟨b, 0, none⟩)), (4, .slice (some ⟨g, 0, none⟩) n cap), (5, .int .i64 i)]) (fun _ => [.blk b [.int .i64 0, .string ⟨#[]⟩, .int .i64 0] T5]) (fun _ => [Tb5 g, Ext w]) (fun i => i ≤ n ∧ ∀ j, j < i → (ix r05 j).1 ≠ op) (fun i => n - i) 0 wsub wsl wsr ⟨by omega, fun j hj => by omega⟩ ?_
  rintro i ⟨hi, hall⟩
  by_cases hlt : i < n
  · have hlt' : i < r05.length := by omega
    refine CdH.der (Cs g (0 + i * 3) [.int .i64 (ix r05 i).1, .string ⟨(ix r05 i).2.1.toArray⟩, .int .i64 (ix r05 i).2.2]) (fun w' hw' j hj => (all_at hw' : Tb5 g w') i hlt' j hj) ?_
    by_cases he : (ix r05 i).1 = op
    · have hf := find5_at hlt' hall he
      refine wgh ?_
      refine FinH.ret2c (cs := [.int .i64 (ix r05 i).1, .string ⟨(ix r05 i).2.1.toArray⟩, .int .i64 (ix r05 i).2.2]) (.inl rfl) rfl rfl rfl rfl rfl wup rfl rfl fun w' hw' => ⟨?_, hw'.at⟩
      unfold findV row5; rw [hf]; rfl
    · refine wgh ?_
      refine FinH.next (i + 1) wsub wsl wsr ⟨by omega, fun j hj => ?_⟩ (by omega)
      by_cases e : j = i
      · subst e; exact he
      · exact hall j (by omega)
  · obtain rfl : i = n := by omega
    have hf := find5_none (op := op) (by rw [hn]; exact hall)
    refine wgh ?_
    refine FinH.ret2c (.inl rfl) rfl rfl rfl rfl rfl wup rfl rfl fun w' hw' => ⟨?_, hw'.at⟩
    unfold findV row5; rw [hf]; rfl
theorem ref05_Known (op : Int) (w : World) : Calls G.P 20 #[.int .i64 op] w fun e w' => e = .returned (.bool (find5 op).isSome) ∧ Ext w w' := by
  refine enterH (l := [.int .i64 op]) Tryz.func20 rfl Tryz.ntmps20 rfl (Ok.start w) ?_
  refine wgh ?_
  refine OpsH.call1 rfl rfl rfl (fun w' _ => ref05_find op w') ?_
  refine wgh ?_
  refine OpsH.alloc [.int .i64 0, .string ⟨#[]⟩, .int .i64 0] rfl rfl rfl fun b => ?_
  refine wgh ?_
  exact FinH.ret1 rfl rfl fun w' hw' => ⟨rfl, hw'.at⟩
theorem ref05_Name (op : Int) (w : World) : Calls G.P 83 #[.int .i64 op] w fun e w' => e = .returned (.string ⟨(row5 op).2.1.toArray⟩) ∧ Ext w w' := by
  refine enterH (l := [.int .i64 op]) Tryz.func83 rfl Tryz.ntmps83 rfl (Ok.start w) ?_
  refine wgh ?_
  refine OpsH.call1 rfl rfl rfl (fun w' _ => ref05_find op w') ?_
  refine wgh ?_
  refine OpsH.alloc [.int .i64 0, .string ⟨#[]⟩, .int .i64 0] rfl rfl rfl fun b => ?_
  refine wgh ?_
  exact FinH.ret1 rfl rfl fun w' hw' => ⟨rfl, hw'.at⟩
theorem ref05_Of (op : Int) (w : World) : Calls G.P 84 #[.int .i64 op] w fun e w' => e = .returned (.int .i64 (row5 op).2.2) ∧ Ext w w' := by
  refine enterH (l := [.int .i64 op]) Tryz.func84 rfl Tryz.ntmps84 rfl (Ok.start w) ?_
  refine wgh ?_
  refine OpsH.call1 rfl rfl rfl (fun w' _ => ref05_find op w') ?_
  refine wgh ?_
  refine OpsH.alloc [.int .i64 0, .string ⟨#[]⟩, .int .i64 0] rfl rfl rfl fun b => ?_
  refine wgh ?_
  exact FinH.ret1 rfl rfl fun w' hw' => ⟨rfl, hw'.at⟩

/-- s holds p at place i -/
def at5 (s p : List UInt8) (i : Nat) : Bool := (s.drop i).take p.length == p
def within5 (s p : List UInt8) : Bool := (List.range (s.length + 1)).any fun i => decide (i + p.length ≤ s.length) && at5 s p i
theorem within5_T {s p : List UInt8} {i : Nat} (h : i + p.length ≤ s.length) (e : at5 s p i = true) : within5 s p = true := by
  unfold within5; rw [List.any_eq_true]; exact ⟨i, by simp; omega, by simp [h, e]⟩
theorem within5_F {s p : List UInt8} {i : Nat} (h : s.length < i + p.length) (hall : ∀ j, j < i → at5 s p j = false) : within5 s p = false := by
  unfold within5; rw [List.any_eq_false]
  intro j _
  by_cases hj : j < i
  · simp [hall j hj]
  · simp; omega
set_option maxHeartbeats 8000000 in
theorem ref05_within (s p : List UInt8) (w : World) (hs : s.length ≤ 1000) (hp : p.length ≤ 1000) : Calls G.P 85 #[.string ⟨s.toArray⟩, .string ⟨p.toArray⟩] w fun e w' => e = .returned (.bool (within5 s p)) ∧ Ext w w' := by
  refine enterH (l := [.string ⟨s.toArray⟩, .string ⟨p.toArray⟩]) Tryz.func85 rfl Tryz.ntmps85 rfl (Ok.start w) ?_
  have z1 : (⟨s.toArray⟩ : ByteArray).size = s.length := rfl
  have z2 : (⟨p.toArray⟩ : ByteArray).size = p.length := rfl
  refine wgh ?_
  refine CdH.loop (σ := Nat) (fun i => [(0, .string ⟨s.toArray⟩), (1, .string ⟨p.toArray⟩), (5, .int .i64 i)]) (fun _ => []) (fun _ => [Ext w]) (fun i => i ≤ s.length + 1 ∧ ∀ j, j < i → at5 s p j = false) (fun i => s.length + 1 - i) 0 wsub wsl wsr ⟨by omega, fun j hj => by omega⟩ ?_
  rintro i ⟨hi, hall⟩
  by_cases hlt : i + p.length ≤ s.length
  · refine wgh ?_
    have e : ((ByteArray.mk s.toArray).extract i (i + (⟨p.toArray⟩ : ByteArray).size)).data.toList = (s.drop i).take p.length := by
      show by_ _ = _
      rw [by_extract, List.drop_take, z2]
      have : i + p.length - i = p.length := by omega
      rw [this]
    refine CdH.condB (b := at5 s p i) (by unfold at5; rw [← e]; rfl) (fun h => ?_) (fun h => ?_)
    · refine wgh ?_
      exact FinH.ret1 rfl rfl fun w' hw' => ⟨by rw [within5_T hlt h], hw'.at⟩
    · refine wgh ?_
      refine FinH.next (i + 1) wsub wsl wsr ⟨by omega, fun j hj => ?_⟩ (by omega)
      by_cases e : j = i
      · subst e; exact h
      · exact hall j (by omega)
  · refine wgh ?_
    exact FinH.ret1 rfl rfl fun w' hw' => ⟨by rw [within5_F (by omega) hall], hw'.at⟩

def has5 (s : List UInt8) (d e : List UInt8) : Bool := within5 s d || within5 s e
def width5 (op : Int) : Int :=
  if (row5 op).2.2 ≠ 17 then 0 else
  let s := (row5 op).2.1
  if has5 s [100, 56] [101, 56] = true then 1 else if has5 s [100, 49, 54] [101, 49, 54] = true then 2 else if has5 s [100, 51, 50] [101, 51, 50] = true then 4 else if ((s.drop 1).take 2 == [51, 50]) = true then 4 else 8
theorem r05_small : (r05.all fun r => decide (r.2.1.length ≤ 100) && (decide (r.2.2 ≠ 17) || decide (3 ≤ r.2.1.length))) = true := by decide +kernel
theorem row5_small (op : Int) : (row5 op).2.1.length ≤ 100 ∧ ((row5 op).2.2 = 17 → 3 ≤ (row5 op).2.1.length) := by
  unfold row5
  cases h : find5 op with
  | none => simp
  | some r =>
    have := List.all_eq_true.1 r05_small r (List.mem_of_find?_eq_some h)
    simp only [Bool.and_eq_true, Bool.or_eq_true, decide_eq_true_eq] at this
    exact ⟨this.1, fun e => this.2.resolve_left (fun h => h e)⟩
set_option maxHeartbeats 8000000 in
theorem ref05_Width (op : Int) (w : World) : Calls G.P 47 #[.int .i64 op] w fun e w' => e = .returned (.int .i64 (width5 op)) ∧ Ext w w' := by
  obtain ⟨q1, q2⟩ := row5_small op
  have hw5 : width5 op = width5 op := rfl
  conv at hw5 => rhs; unfold width5
  refine enterH (l := [.int .i64 op]) Tryz.func47 rfl Tryz.ntmps47 rfl (Ok.start w) ?_
  refine wgh ?_
  refine OpsH.call1 rfl rfl rfl (fun w' _ => ref05_Name op w') ?_
  refine wgh ?_
  refine OpsH.call1 rfl rfl rfl (fun w' _ => ref05_Of op w') ?_
  by_cases h17 : (row5 op).2.2 = 17
  · rw [if_neg (by simp [h17])] at hw5
    have q3 := q2 h17
    dsimp only at hw5
    generalize (row5 op).2.1 = s at *
    have z1 : (⟨s.toArray⟩ : ByteArray).size = s.length := rfl
    refine wgh ?_
    refine OpsH.call1 (v := .bool (within5 s [100, 56])) rfl rfl rfl (fun w' _ => ref05_within s [100, 56] w' (by omega) (by decide)) ?_
    cases a0 : within5 s [100, 56] with
    | true =>
      refine wgh ?_
      refine FinH.ret1 rfl rfl fun w' hw' => ⟨?_, hw'.at⟩
      rw [hw5]; simp [has5, a0]
    | false =>
      refine wgh ?_
      refine OpsH.call1g (v := .bool (within5 s [101, 56])) rfl rfl rfl rfl (fun w' _ => ref05_within s [101, 56] w' (by omega) (by decide)) ?_
      cases b0 : within5 s [101, 56] with
      | true =>
        refine wgh ?_
        refine FinH.ret1 rfl rfl fun w' hw' => ⟨?_, hw'.at⟩
        rw [hw5]; simp [has5, a0, b0]
      | false =>
        refine wgh ?_
        refine OpsH.call1 (v := .bool (within5 s [100, 49, 54])) rfl rfl rfl (fun w' _ => ref05_within s [100, 49, 54] w' (by omega) (by decide)) ?_
        cases a1 : within5 s [100, 49, 54] with
        | true =>
          refine wgh ?_
          refine FinH.ret1 rfl rfl fun w' hw' => ⟨?_, hw'.at⟩
          rw [hw5]; simp [has5, a0, b0, a1]
        | false =>
          refine wgh ?_
          refine OpsH.call1g (v := .bool (within5 s [101, 49, 54])) rfl rfl rfl rfl (fun w' _ => ref05_within s [101, 49, 54] w' (by omega) (by decide)) ?_
          cases b1 : within5 s [101, 49, 54] with
          | true =>
            refine wgh ?_
            refine FinH.ret1 rfl rfl fun w' hw' => ⟨?_, hw'.at⟩
            rw [hw5]; simp [has5, a0, b0, a1, b1]
          | false =>
            refine wgh ?_
            refine OpsH.call1 (v := .bool (within5 s [100, 51, 50])) rfl rfl rfl (fun w' _ => ref05_within s [100, 51, 50] w' (by omega) (by decide)) ?_
            cases a2 : within5 s [100, 51, 50] with
            | true =>
              refine wgh ?_
              refine FinH.ret1 rfl rfl fun w' hw' => ⟨?_, hw'.at⟩
              rw [hw5]; simp [has5, a0, b0, a1, b1, a2]
            | false =>
              refine wgh ?_
              refine OpsH.call1g (v := .bool (within5 s [101, 51, 50])) rfl rfl rfl rfl (fun w' _ => ref05_within s [101, 51, 50] w' (by omega) (by decide)) ?_
              cases b2 : within5 s [101, 51, 50] with
              | true =>
                refine wgh ?_
                refine FinH.ret1 rfl rfl fun w' hw' => ⟨?_, hw'.at⟩
                rw [hw5]; simp [has5, a0, b0, a1, b1, a2, b2]
              | false =>
                refine wgh ?_
                refine OpsH.y_ (Yl.sliceSLH (i := 1) (j := 3) Tryz.underlying9 rfl rfl rfl rfl rfl (by omega) (by omega)) rfl ?_
                have e : ((ByteArray.mk s.toArray).extract 1 3).data.toList = (s.drop 1).take 2 := by
                  show by_ _ = _
                  rw [by_extract, List.drop_take]
                refine wgh ?_
                refine CdH.condB (b := ((s.drop 1).take 2 == [51, 50])) (by rw [← e]; rfl) (fun h => ?_) (fun h => ?_)
                · refine wgh ?_
                  refine FinH.ret1 rfl rfl fun w' hw' => ⟨?_, hw'.at⟩
                  rw [hw5]; simp only [has5, a0, b0, a1, b1, a2, b2, h, Bool.or_false, Bool.false_eq_true, if_false, if_true]
                · refine wgh ?_
                  refine FinH.ret1 rfl rfl fun w' hw' => ⟨?_, hw'.at⟩
                  rw [hw5]; simp only [has5, a0, b0, a1, b1, a2, b2, h, Bool.or_false, Bool.false_eq_true, if_false]
  · rw [if_pos h17] at hw5
    refine wgh ?_
    exact FinH.ret1 rfl rfl fun w' hw' => ⟨by rw [hw5], hw'.at⟩

/-- all opcodes -/
def all5 : List Int := r05.map (·.1)
theorem all5_len : all5.length = r05.length := by simp [all5]
theorem all5_ix {i : Nat} (h : i < r05.length) : ix all5 i = (ix r05 i).1 := by
  rw [ix_eq (by rw [all5_len]; exact h), ix_eq h]; simp [all5]
abbrev TOp : Nat := 57
set_option maxHeartbeats 8000000 in
theorem ref05_All (w : World) : Calls G.P 19 #[] w fun e w' => (∃ v, e = .returned v ∧ w'.ownsRow w.heap.size TOp 1 v all5.length (all5.map (Value.int .i64))) ∧ Ext w w' := by
  refine enterH (l := []) Tryz.func19 rfl Tryz.ntmps19 rfl (Ok.start w) ?_
  refine wgh ?_
  refine OpsH.he (HE.callO (B := w.heap.size) rfl rfl szR (fun w' _ => ref05_rows w')) rfl ?_
  intro v1 _
  refine OpsH.pure (φ := ∃ g cap, v1 = .slice (some ⟨g, 0, none⟩) r05.length cap) (fun w' hw' => ?_) ?_
  · obtain ⟨p, c, rfl, _, _, hg⟩ := own_slice (hw'.own (v := v1))
    obtain ⟨g, rfl, _⟩ := hg (by rw [r05_len]; omega)
    exact ⟨g, c, rfl⟩
  rintro ⟨g, cap, rfl⟩
  refine OpsH.freeze (Tb5 g) wrm (fun w' hq _ => tb5_own hq) ?_
  have hal := all5_len
  have hlen := r05_len
  generalize hn : r05.length = n at *
  refine OpsH.nilO w.heap.size TOp 1 ?_
  refine wgh ?_
  refine CdH.loop (σ := Nat × Value) (fun s => [(1, s.2), (2, .slice (some ⟨g, 0, none⟩) n cap), (3, .int .i64 s.1)]) (fun s => [.own w.heap.size TOp 1 s.2 s.1 ((all5.take s.1).map (Value.int .i64))]) (fun _ => [Tb5 g, Ext w]) (fun s => s.1 ≤ n) (fun s => n - s.1) (0, .slice none 0 0) wsub wsl wsr (by dsimp only; omega) ?_
  rintro ⟨i, v⟩ hi
  dsimp only at hi ⊢
  by_cases hlt : i < n
  · have hlt' : i < r05.length := by omega
    refine CdH.der (Cs g (0 + i * 3) [.int .i64 (ix r05 i).1, .string ⟨(ix r05 i).2.1.toArray⟩, .int .i64 (ix r05 i).2.2]) (fun w' hw' j hj => (all_at hw' : Tb5 g w') i hlt' j hj) ?_
    refine wgh ?_
    refine OpsH.he (HE.bsl rfl rfl rfl rfl rfl wcel (by rfl) (by rfl)) rfl ?_
    intro b _
    refine OpsH.he (HE.app rfl rfl (fun _ => wup) wup rfl rfl rfl (by rfl) (by rfl) (by rfl) (by rfl) (by rfl) (by rfl) (by omega) szR) rfl ?_
    intro v2 _
    refine wgh ?_
    refine FinH.next (i + 1, v2) wsub (.cons _ (sub_own rfl rfl ?_ (List.nil_sublist _))) wsr (by dsimp only; omega) (by dsimp only; omega)
    rw [take_succ_ix (by omega), List.map_append, all5_ix hlt']; rfl
  · obtain rfl : i = n := by omega
    refine wgh ?_
    refine FinH.ret1 rfl rfl fun w' hw' => ⟨⟨v, rfl, ?_⟩, hw'.at⟩
    have h1 := hw'.own (v := v)
    rw [hal, ← List.take_of_length_le (l := all5) (i := i) (by omega)]
    exact h1

/-! both tables are one -/
theorem tables : opX = r05.map fun r => (r.1, ⟨r.2.1.toArray⟩) := by decide +kernel
theorem findO_map (op : Int) : ∀ l : List Row5, findO op (l.map fun r => (r.1, ⟨r.2.1.toArray⟩)) = (l.find? fun r => decide (r.1 = op)).map fun r => ⟨r.2.1.toArray⟩
  | [] => rfl
  | a :: r => by
    rw [List.map_cons, findO, List.find?_cons]
    by_cases h : a.1 = op
    · simp [h]
    · simp [h, findO_map op r]
theorem findO_5 (op : Int) : findO op opX = (find5 op).map fun r => ⟨r.2.1.toArray⟩ := by rw [tables, findO_map]; rfl
theorem nameO_5 (op : Int) : by_ (nameO op) = (row5 op).2.1 := by
  unfold nameO row5; rw [findO_5]
  cases find5 op <;> rfl
theorem known_tab : (r05.all fun r => !(r.2.1 == [])) = true := by decide +kernel
theorem knownO_5 (op : Int) : knownO op = (find5 op).isSome := by
  unfold knownO; rw [nameO_5]; unfold row5
  cases h : find5 op with
  | none => rfl
  | some r =>
    have := List.all_eq_true.1 known_tab r (List.mem_of_find?_eq_some h)
    simpa using this
theorem width_tab : (r05.all fun r => width5 r.1 == widthO r.1) = true := by decide +kernel
theorem widthO_5 (op : Int) : widthO op = width5 op := by
  cases h : find5 op with
  | none =>
    have h1 := knownO_5 op
    rw [h] at h1
    have h2 : accessO op = false := by unfold accessO; rw [h1]; simp
    unfold widthO width5 row5
    rw [h2, h]; rfl
  | some r =>
    have := List.all_eq_true.1 width_tab r (List.mem_of_find?_eq_some h)
    have e : r.1 = op := by have := List.find?_some h; simpa using this
    rw [e] at this
    exact (beq_iff_eq.1 this).symm
end Go.Proofs.YtmkgfccfnpmcjaaGreatDoor
