/- From the statement's readings of the arguments to the own relations: what a typed reading of cells gives, type by type. -/
import Derived.Test.YtgbgnipidakdhaaGreatDoorJR8
import Derived.Deep.Slices
import Derived.SizedLaws
namespace Go.Proofs.YtgbgnipidakdhaaGreatDoor
open Go.RowKit Go.Deep
def Tr (w : World) (t : TypeId) (cs : List Value) : Prop :=
  ∃ (H : Type) (enc : TypeId × Value → H) (spare : Nat → Bool) (held : Bool) (fuel : Nat) (x : DataW H × List MemPlace), DataW.trod enc G.P w 0 spare held fuel t cs = some x ∧ ∀ n ∈ x.1.weights G.P t, n ≤ reachBytes
section
variable {w : World} {t e : TypeId} {cs : List Value}
theorem reach_val : reachBytes = 140737488351232 := by decide
theorem add_spot {a : Addr} {v : Value} (h : w.cell? (a.add 0) = some v) : a.spot = none := by
  obtain ⟨b, o, s⟩ := a
  cases s with
  | none => rfl
  | some k =>
    exfalso
    simp only [World.cell?, Addr.add, if_true] at h
    split at h <;> simp at h
theorem add_at {a : Addr} (hs : a.spot = none) (i : Nat) : a.add i = ⟨a.block, a.off + i, none⟩ := by
  obtain ⟨b, o, s⟩ := a
  cases hs
  unfold Addr.add; split
  · rename_i h; subst h; rfl
  · rfl
theorem weights_all {H : Type} {P : Program} {e : TypeId} : ∀ {l : List (DataW H)} {d : DataW H}, d ∈ l → ∀ n ∈ d.weights P e, n ∈ DataW.weightsAll P e l
  | x :: r, d, hd, n, hn => by
    simp only [DataW.weightsAll, List.mem_append]
    rcases List.mem_cons.1 hd with rfl | hd
    · exact .inl hn
    · exact .inr (weights_all hd n hn)
theorem weights_each {H : Type} {P : Program} : ∀ {ts : List TypeId} {l : List (DataW H)} {i : Nat} {t : TypeId} {d : DataW H}, ts[i]? = some t → l[i]? = some d → ∀ n ∈ d.weights P t, n ∈ DataW.weightsEach P ts l
  | t :: ts, x :: r, 0, _, _, h1, h2, n, hn => by
    simp at h1 h2; subst h1; subst h2
    simp only [DataW.weightsEach, List.mem_append]; exact .inl hn
  | t :: ts, x :: r, i + 1, _, _, h1, h2, n, hn => by
    simp only [DataW.weightsEach, List.mem_append]
    exact .inr (weights_each (ts := ts) (l := r) (i := i) (by simpa using h1) (by simpa using h2) n hn)
  | [], _, _, _, _, h1, _, _, _ => by simp at h1
  | _ :: _, [], _, _, _, _, h2, _, _ => by simp at h2
theorem wf_R64 {a : Int} (h : (Lit.int .i64 a).wf = true) : R64 a := by
  have e1 : IntKind.i64.min = -9223372036854775808 := by decide
  have e2 : IntKind.i64.max = 9223372036854775807 := by decide
  simp only [Lit.wf, e1, e2, Bool.and_eq_true, decide_eq_true_eq] at h
  exact h
theorem Tr.int {k : IntKind} (ht : G.P.underlying t = some (.int k)) (h : Tr w t cs) : ∃ n, cs = [.int k n] ∧ (Lit.int k n).wf = true := by
  obtain ⟨H, enc, spare, held, fuel, x, h, hw⟩ := h
  obtain ⟨n, h1, -, h2⟩ := DataW.trod_int ht h
  exact ⟨n, h1, h2⟩
theorem Tr.bool (ht : G.P.underlying t = some .bool) (h : Tr w t cs) : ∃ b, cs = [.bool b] := by
  obtain ⟨H, enc, spare, held, fuel, x, h, hw⟩ := h
  obtain ⟨n, h1, -⟩ := DataW.trod_bool ht h
  exact ⟨n, h1⟩
theorem Tr.string (ht : G.P.underlying t = some .string) (h : Tr w t cs) : ∃ s : ByteArray, cs = [.string s] ∧ s.size ≤ reachBytes := by
  obtain ⟨H, enc, spare, held, fuel, x, h, hw⟩ := h
  obtain ⟨s, h1, h2, h3⟩ := DataW.trod_string ht h
  subst h2
  refine ⟨s, h1, ?_⟩
  have := hw s.data.toList.length (by simp [DataW.weights])
  simpa using this
theorem Tr.struct {fs : Array Field} (ht : G.P.underlying t = some (.struct fs)) (h : Tr w t cs) : cs.length = G.P.cellsOf t ∧ ∀ (i : Nat) (f : Field), fs[i]? = some f → Tr w f.type ((cs.drop f.offset).take (G.P.cellsOf f.type)) := by
  obtain ⟨H, enc, spare, held, fuel, x, h, hw⟩ := h
  obtain ⟨xs, n, rfl, rfl, hl, hx, hf⟩ := DataW.trod_struct ht h
  refine ⟨hl, fun i f hi => ?_⟩
  have h1 := hf i f hi
  have hlt : i < xs.length := by rw [hx]; exact (Array.getElem?_eq_some_iff.1 hi).1
  rw [List.getElem?_eq_getElem hlt] at h1
  refine ⟨H, enc, spare, held, n, xs[i], h1, fun m hm => hw m ?_⟩
  simp only [DataW.weights, ht]
  refine weights_each (i := i) (t := f.type) (d := xs[i].1) ?_ ?_ m hm
  · rw [List.getElem?_map, Array.getElem?_toList, hi]; rfl
  · rw [List.getElem?_map, List.getElem?_eq_getElem hlt]; rfl
theorem Tr.slice {s bt : Nat} (ht : G.P.underlying t = some (.slice e)) (hc : G.P.cellsOf e = s) (hby : G.P.bytesOf e = bt) (h0 : 0 < s) (h : Tr w t cs) :
    ∃ p len cap, cs = [.slice p len cap] ∧ len * bt ≤ 140737488351232 ∧ (len = 0 ∨ ∃ b off, p = some ⟨b, off, none⟩ ∧ ∀ i, i < len → ∃ cs', cs'.length = s ∧ (∀ j, j < s → w.cell? ⟨b, off + i * s + j, none⟩ = cs'[j]?) ∧ Tr w e cs') := by
  obtain ⟨H, enc, spare, held, fuel, x, h, hw⟩ := h
  rcases open_slice ht h with ⟨rfl, rfl⟩ | ⟨a, len, cap, m, n, D, Pl, rfl, hb, hl, hm, hmm, rfl, hx⟩
  · exact ⟨_, _, _, rfl, by omega, .inl rfl⟩
  · rw [hc] at hx
    have hlm : len ≤ m := by rw [hmm]; split <;> omega
    refine ⟨_, len, cap, rfl, ?_, ?_⟩
    · have := hw ((len + (m - len)) * G.P.bytesOf e) (by simp [DataW.weights, ht])
      rw [hby, reach_val] at this
      exact Nat.le_trans (Nat.mul_le_mul_right _ (by omega)) this
    · by_cases hz : len = 0
      · exact .inl hz
      · right
        obtain ⟨cs0, hc0, -⟩ := hx 0 (by omega)
        obtain ⟨-, hl0, hg0⟩ := World.cells?_some hc0
        have hsp : a.spot = none := by
          have h1 := hg0 0 h0
          rw [Nat.zero_mul, List.getElem?_eq_getElem (by omega)] at h1
          have e0 : (a.add 0).add 0 = a.add 0 := by unfold Addr.add; simp
          rw [e0] at h1
          exact add_spot h1
        refine ⟨a.block, a.off, by obtain ⟨_, _, s⟩ := a; cases hsp; rfl, fun i hi => ?_⟩
        obtain ⟨cs', hc', htr⟩ := hx i (by omega)
        obtain ⟨-, hl', hg'⟩ := World.cells?_some hc'
        refine ⟨cs', hl', fun j hj => ?_, H, enc, spare, held, n, _, htr, fun q hq => hw q ?_⟩
        · rw [← hg' j hj, add_at hsp, add_at rfl]
        · simp only [DataW.weights, ht]
          refine List.mem_cons_of_mem _ (List.mem_append_left _ (weights_all (d := D i) (List.mem_map.2 ⟨i, List.mem_range.2 hi, rfl⟩) q hq))
theorem choose_list {α : Type} [Inhabited α] {p : Nat → α → Prop} : ∀ {n : Nat}, (∀ i, i < n → ∃ a, p i a) → ∃ xs : List α, xs.length = n ∧ ∀ i, i < n → p i (ix xs i)
  | 0, _ => ⟨[], rfl, fun i hi => by omega⟩
  | n + 1, h => by
    obtain ⟨xs, hl, hx⟩ := choose_list (n := n) (fun i hi => h i (by omega))
    obtain ⟨a, ha⟩ := h n (by omega)
    refine ⟨xs ++ [a], by simp [hl], fun i hi => ?_⟩
    by_cases e : i = n
    · subst e
      have : ix (xs ++ [a]) i = a := by simp [ix, ← hl]
      rw [this]; exact ha
    · have : ix (xs ++ [a]) i = ix xs i := by simp only [ix, List.getD_eq_getElem?_getD]; rw [List.getElem?_append_left (by omega)]
      rw [this]; exact hx i (by omega)
theorem Tr.slice_of {α : Type} [Inhabited α] {s bt : Nat} (R : Nat → Nat → α → Prop) (ht : G.P.underlying t = some (.slice e)) (hc : G.P.cellsOf e = s) (hby : G.P.bytesOf e = bt) (h0 : 0 < s)
    (hR : ∀ b o cs, cs.length = s → (∀ j, j < s → w.cell? ⟨b, o + j, none⟩ = cs[j]?) → Tr w e cs → ∃ y, R b o y) (h : Tr w t cs) :
    ∃ p cap, ∃ ys : List α, cs = [.slice p ys.length cap] ∧ ys.length * bt ≤ 140737488351232 ∧ (ys = [] ∨ ∃ b off, p = some ⟨b, off, none⟩ ∧ True ∧ ∀ i, i < ys.length → R b (off + i * s) (ix ys i)) := by
  obtain ⟨p, len, cap, rfl, hl, hx⟩ := h.slice ht hc hby h0
  rcases hx with rfl | ⟨b, off, rfl, hx⟩
  · exact ⟨p, cap, [], rfl, by simp, .inl rfl⟩
  · obtain ⟨ys, hy, hyR⟩ := choose_list (p := fun i y => R b (off + i * s) y) (fun i hi => by
      obtain ⟨cs', h1, h2, h3⟩ := hx i hi
      exact hR b _ cs' h1 h2 h3)
    subst hy
    exact ⟨_, cap, ys, rfl, hl, .inr ⟨b, off, rfl, trivial, hyR⟩⟩
theorem Tr.ints (ht : G.P.underlying t = some (.slice e)) (he : G.P.underlying e = some (.int .i64)) (hc : G.P.cellsOf e = 1) (hby : G.P.bytesOf e = 8) (h : Tr w t cs) : ∃ v xs, cs = [v] ∧ IntsR (fun _ => True) w v xs := by
  obtain ⟨p, cap, ys, rfl, hl, h⟩ := h.slice_of (α := Int) (fun b o y => w.cell? ⟨b, o, none⟩ = some (.int .i64 y)) ht hc hby (by omega) (fun b o cs hcl hcc hcs => by
    obtain ⟨n, rfl, -⟩ := hcs.int he
    exact ⟨n, by simpa using hcc 0 (by omega)⟩)
  refine ⟨_, ys, rfl, p, cap, rfl, by omega, ?_⟩
  rcases h with h | ⟨b, off, h1, h2, h3⟩
  · exact .inl h
  · exact .inr ⟨b, off, h1, h2, fun i hi => by have := h3 i hi; rwa [Nat.mul_one] at this⟩
theorem Tr.fld {fs : Array Field} (hf : ∀ (i : Nat) (f : Field), fs[i]? = some f → Tr w f.type ((cs.drop f.offset).take (G.P.cellsOf f.type))) (i o n : Nat) {t : TypeId} (hi : (fs[i]?).map (fun f => (f.type, f.offset)) = some (t, o)) (hn : G.P.cellsOf t = n) : Tr w t ((cs.drop o).take n) := by
  cases h : fs[i]? with
  | none => simp [h] at hi
  | some f =>
    simp only [h, Option.map_some, Option.some.injEq, Prod.mk.injEq] at hi
    obtain ⟨rfl, rfl⟩ := hi
    subst hn
    exact hf i f h
theorem len9 {cs : List Value} (h : cs.length = 9) : ∃ a b c d e f g i j, cs = [a, b, c, d, e, f, g, i, j] := by
  match cs, h with | [a, b, c, d, e, f, g, i, j], _ => exact ⟨a, b, c, d, e, f, g, i, j, rfl⟩
theorem Tr.ins {b o : Nat} (hcl : cs.length = 9) (hcc : ∀ j, j < 9 → w.cell? ⟨b, o + j, none⟩ = cs[j]?) (h : Tr w 42 cs) : ∃ y, InsR (fun _ => True) w b o y := by
  obtain ⟨c0, c1, c2, c3, c4, c5, c6, c7, c8, rfl⟩ := len9 hcl
  obtain ⟨-, hf⟩ := h.struct Tryz.underlying42
  obtain ⟨n0, e0, w0⟩ := (show Tr w _ [c0] from Tr.fld hf 0 0 1 rfl (by kernel_rfl)).int Tryz.underlying35
  obtain ⟨n1, e1, w1⟩ := (show Tr w _ [c1] from Tr.fld hf 1 1 1 rfl (by kernel_rfl)).int Tryz.underlying3
  obtain ⟨n2, e2, w2⟩ := (show Tr w _ [c2] from Tr.fld hf 2 2 1 rfl (by kernel_rfl)).int Tryz.underlying3
  obtain ⟨n3, e3, w3⟩ := (show Tr w _ [c3] from Tr.fld hf 3 3 1 rfl (by kernel_rfl)).int Tryz.underlying36
  obtain ⟨-, hg⟩ := (show Tr w _ [c4, c5, c6] from Tr.fld hf 4 4 3 rfl (by kernel_rfl)).struct Tryz.underlying39
  obtain ⟨n4, e4, w4⟩ := (show Tr w _ [c4] from Tr.fld hg 0 0 1 rfl (by kernel_rfl)).int Tryz.underlying3
  obtain ⟨n5, e5, w5⟩ := (show Tr w _ [c5] from Tr.fld hg 1 1 1 rfl (by kernel_rfl)).int Tryz.underlying37
  obtain ⟨n6, e6, w6⟩ := (show Tr w _ [c6] from Tr.fld hg 2 2 1 rfl (by kernel_rfl)).int Tryz.underlying3
  obtain ⟨v7, x7, e7, r7⟩ := (show Tr w _ [c7] from Tr.fld hf 5 7 1 rfl (by kernel_rfl)).ints Tryz.underlying34 Tryz.underlying37 (by kernel_rfl) (by kernel_rfl)
  obtain ⟨v8, x8, e8, r8⟩ := (show Tr w _ [c8] from Tr.fld hf 6 8 1 rfl (by kernel_rfl)).ints Tryz.underlying40 Tryz.underlying3 (by kernel_rfl) (by kernel_rfl)
  cases e0; cases e1; cases e2; cases e3; cases e4; cases e5; cases e6; cases e7; cases e8
  exact ⟨⟨n0, n1, n2, n3, n4, n5, n6, x7, x8⟩, hcc 0 (by omega), hcc 1 (by omega), hcc 2 (by omega), hcc 3 (by omega), hcc 4 (by omega), hcc 5 (by omega), hcc 6 (by omega), ⟨_, hcc 7 (by omega), r7⟩, ⟨_, hcc 8 (by omega), r8⟩, wf_R64 w0, wf_R64 w1⟩
theorem Tr.body (h : Tr w 44 cs) : ∃ v xs, cs = [v] ∧ Body w v xs := by
  obtain ⟨p, cap, ys, rfl, hl, h⟩ := h.slice_of (InsR (fun _ => True) w) Tryz.underlying44 (s := 9) (bt := 104) (by kernel_rfl) (by kernel_rfl) (by omega) (fun b o cs h1 h2 h3 => h3.ins h1 h2)
  exact ⟨_, ys, rfl, p, cap, rfl, by omega, h⟩
end
open Go.RowKit
abbrev ElR (α : Type) := (Nat → Prop) → World → Nat → Nat → α → Prop
def SlR {α : Type} [Inhabited α] (s N : Nat) (R : ElR α) (F : Nat → Prop) (w : World) (v : Value) (xs : List α) : Prop :=
  ∃ p cap, v = .slice p xs.length cap ∧ xs.length ≤ N ∧ (xs = [] ∨ ∃ b off, p = some ⟨b, off, none⟩ ∧ F b ∧ ∀ i, i < xs.length → R F w b (off + i * s) (ix xs i))
def Fr {α : Type} (R : ElR α) : Prop := ∀ {F S : Nat → Prop} {w w' : World} {b o : Nat} {x : α}, R F w b o x → Chg S w w' → F b → (∀ k, k < w.heap.size → F k → ¬ S k) → R F w' b o x
def Mo {α : Type} (R : ElR α) : Prop := ∀ {F H : Nat → Prop} {w : World} {b o : Nat} {x : α}, R F w b o x → (∀ k, k < w.heap.size → F k → H k) → R H w b o x
def Ce {α : Type} (R : ElR α) : Prop := ∀ {F : Nat → Prop} {w : World} {b o : Nat} {x : α}, R F w b o x → b < w.heap.size
section
variable {α : Type} [Inhabited α] {s N : Nat} {R : ElR α} {F S H : Nat → Prop} {w w' : World} {v : Value} {xs : List α}
theorem SlR.chg (hR : Fr R) (_hC : Ce R) (h : SlR s N R F w v xs) (hc : Chg S w w') (hd : ∀ k, k < w.heap.size → F k → ¬ S k) : SlR s N R F w' v xs := by
  obtain ⟨p, cap, rfl, hl, h⟩ := h
  refine ⟨p, cap, rfl, hl, ?_⟩
  rcases h with h | ⟨b, off, hp, hF, h⟩
  · exact .inl h
  · exact .inr ⟨b, off, hp, hF, fun i hi => hR (h i hi) hc hF hd⟩
theorem SlR.mono (hR : Mo R) (hC : Ce R) (h : SlR s N R F w v xs) (hFH : ∀ k, k < w.heap.size → F k → H k) : SlR s N R H w v xs := by
  obtain ⟨p, cap, rfl, hl, h⟩ := h
  refine ⟨p, cap, rfl, hl, ?_⟩
  rcases h with h | ⟨b, off, hp, hF, h⟩
  · exact .inl h
  · by_cases hx : xs = []
    · exact .inl hx
    · exact .inr ⟨b, off, hp, hFH b (hC (h 0 (List.length_pos_iff.2 hx))) hF, fun i hi => hR (h i hi) hFH⟩
theorem SlR.slice (h : SlR s N R F w v xs) : ∃ p cap, v = .slice p xs.length cap ∧ xs.length ≤ N := by
  obtain ⟨p, cap, rfl, hl, _⟩ := h
  exact ⟨p, cap, rfl, hl⟩
theorem SlR.at {p : Option Addr} {n cap : Nat} (h : SlR s N R F w (.slice p n cap) xs) {i : Nat} (hi : i < xs.length) :
    ∃ b off, p = some ⟨b, off, none⟩ ∧ F b ∧ ∀ i, i < xs.length → R F w b (off + i * s) (ix xs i) := by
  obtain ⟨p', cap', e, hl, h⟩ := h
  cases e
  rcases h with h | ⟨b, off, hp, hF, h⟩
  · subst h; cases hi
  · exact ⟨b, off, hp, hF, h⟩
theorem SlR.nil : SlR s N R F w (.slice none 0 0) ([] : List α) := ⟨none, 0, rfl, Nat.zero_le _, .inl rfl⟩
end
def IntAt (k : IntKind) : ElR Int := fun _ w b o n => w.cell? ⟨b, o, none⟩ = some (.int k n)
theorem IntAt.fr (k : IntKind) : Fr (IntAt k) := fun h hc hF hd => hc.cell (hd _ (cell_lt h) hF) h
theorem IntAt.mo (k : IntKind) : Mo (IntAt k) := fun h _ => h
theorem IntAt.ce (k : IntKind) : Ce (IntAt k) := fun h => cell_lt h
def BoolAt : ElR Bool := fun _ w b o n => w.cell? ⟨b, o, none⟩ = some (.bool n)
theorem BoolAt.fr : Fr BoolAt := fun h hc hF hd => hc.cell (hd _ (cell_lt h) hF) h
theorem BoolAt.mo : Mo BoolAt := fun h _ => h
theorem BoolAt.ce : Ce BoolAt := fun h => cell_lt h
def StrAt : ElR ByteArray := fun _ w b o n => w.cell? ⟨b, o, none⟩ = some (.string n) ∧ n.size ≤ 140737488351232
theorem StrAt.fr : Fr StrAt := fun h hc hF hd => ⟨hc.cell (hd _ (cell_lt h.1) hF) h.1, h.2⟩
theorem StrAt.mo : Mo StrAt := fun h _ => h
theorem StrAt.ce : Ce StrAt := fun h => cell_lt h.1
def RowAt {α : Type} (V : (Nat → Prop) → World → Value → List α → Prop) : ElR (List α) := fun F w b o xs => ∃ v, w.cell? ⟨b, o, none⟩ = some v ∧ V F w v xs
theorem RowAt.fr {α : Type} {V : (Nat → Prop) → World → Value → List α → Prop} (hV : ∀ {F S : Nat → Prop} {w w' : World} {v : Value} {xs : List α}, V F w v xs → Chg S w w' → (∀ k, k < w.heap.size → F k → ¬ S k) → V F w' v xs) : Fr (RowAt V) :=
  fun ⟨v, h, hv⟩ hc hF hd => ⟨v, hc.cell (hd _ (cell_lt h) hF) h, hV hv hc hd⟩
theorem RowAt.mo {α : Type} {V : (Nat → Prop) → World → Value → List α → Prop} (hV : ∀ {F H : Nat → Prop} {w : World} {v : Value} {xs : List α}, V F w v xs → (∀ k, k < w.heap.size → F k → H k) → V H w v xs) : Mo (RowAt V) :=
  fun ⟨v, h, hv⟩ hd => ⟨v, h, hV hv hd⟩
theorem RowAt.ce {α : Type} {V : (Nat → Prop) → World → Value → List α → Prop} : Ce (RowAt V) := fun ⟨_, h, _⟩ => cell_lt h
theorem InsR.fr : Fr InsR := fun h hc hF hd => h.chg hc hF hd
theorem InsR.mo : Mo InsR := fun h hd => ⟨h.op, h.a, h.b, h.n, h.kind, h.val, h.index, by obtain ⟨v, h1, h2⟩ := h.types; exact ⟨v, h1, h2.mono hd⟩, by obtain ⟨v, h1, h2⟩ := h.labels; exact ⟨v, h1, h2.mono hd⟩, h.rop, h.ra⟩
theorem InsR.ce : Ce InsR := fun h => cell_lt h.op
theorem BodyR.mono {F H : Nat → Prop} {w : World} {v : Value} {xs : List Ins} (h : BodyR F w v xs) (hd : ∀ k, k < w.heap.size → F k → H k) : BodyR H w v xs := SlR.mono (R := InsR) InsR.mo InsR.ce h hd
theorem Tr.sl {α : Type} [Inhabited α] {w : World} {t e : TypeId} {cs : List Value} {s bt N : Nat} (R : ElR α) (ht : G.P.underlying t = some (.slice e)) (hc : G.P.cellsOf e = s) (hby : G.P.bytesOf e = bt) (h0 : 0 < s) (hN : ∀ n, n * bt ≤ 140737488351232 → n ≤ N)
    (hR : ∀ b o cs, cs.length = s → (∀ j, j < s → w.cell? ⟨b, o + j, none⟩ = cs[j]?) → Tr w e cs → ∃ y, R (fun _ => True) w b o y) (h : Tr w t cs) :
    ∃ v xs, cs = [v] ∧ SlR s N R (fun _ => True) w v xs := by
  obtain ⟨p, cap, ys, rfl, hl, h⟩ := h.slice_of (R (fun _ => True) w) ht hc hby h0 hR
  exact ⟨_, ys, rfl, p, cap, rfl, hN _ hl, h⟩
end Go.Proofs.YtgbgnipidakdhaaGreatDoor
