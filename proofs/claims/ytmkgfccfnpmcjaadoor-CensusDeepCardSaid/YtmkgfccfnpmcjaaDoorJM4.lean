/- law07.rows, Light and law57.light: what their being true tells. Printed by gen_m4.py. -/
import Derived.Test.YtmkgfccfnpmcjaaDoorJM1
namespace Go.Proofs.YtmkgfccfnpmcjaaDoor
open Go.RowKit
set_option maxRecDepth 100000

/-- values of slices, and the bodies that they read -/
structure BL (w : World) (ls : List Value) (bs : List (List Ins)) : Prop where
  len : ls.length = bs.length
  rd : ∀ i, i < bs.length → Body w (ix ls i) (ix bs i)
theorem ix_app_l {α : Type} [Inhabited α] {a b : List α} {i : Nat} (h : i < a.length) : ix (a ++ b) i = ix a i := by simp [ix, List.getElem?_append_left h]
theorem ix_app_r {α : Type} [Inhabited α] {a b : List α} {i : Nat} (h : a.length ≤ i) : ix (a ++ b) i = ix b (i - a.length) := by simp [ix, List.getElem?_append_right h]
theorem BL.nil (w : World) : BL w [] [] := ⟨rfl, fun i h => by simp at h⟩
theorem BL.app {w : World} {ls ls' : List Value} {bs bs' : List (List Ins)} (h : BL w ls bs) (h' : BL w ls' bs') : BL w (ls ++ ls') (bs ++ bs') := by
  refine ⟨by simp [h.len, h'.len], fun i hi => ?_⟩
  by_cases hlt : i < bs.length
  · rw [ix_app_l (a := bs) hlt, ix_app_l (a := ls) (by rw [h.len]; exact hlt)]; exact h.rd i hlt
  · rw [ix_app_r (a := bs) (by omega), ix_app_r (a := ls) (by rw [h.len]; omega), h.len]
    exact h'.rd _ (by simp at hi; omega)
theorem BL.one {w : World} {v : Value} {x : List Ins} (h : Body w v x) : BL w [v] [x] := ⟨rfl, fun i hi => by
  obtain rfl : i = 0 := by simpa using hi
  exact h⟩
theorem BL.one' {w : World} {ls : List Value} {bs : List (List Ins)} (h : BL w ls bs) : ∀ u ∈ ls, u.oneCell' = true := by
  intro u hu
  obtain ⟨i, hi, rfl⟩ := List.getElem_of_mem hu
  have := h.rd i (by rw [← h.len]; exact hi)
  rw [ix_eq hi] at this
  obtain ⟨p, c, e, _⟩ := this.slice
  rw [e]; rfl
/-- the values of an inner slice -/
theorem SlR.raws {α : Type} [Inhabited α] {N : Nat} {V : (Nat → Prop) → World → Value → List α → Prop} {F : Nat → Prop} {w : World} {p : Option Addr} {n c : Nat} {xs : List (List α)} (h : SlR 1 N (RowAt V) F w (.slice p n c) xs) :
    ∃ ls : List Value, ls.length = xs.length ∧ n = xs.length ∧ (n = 0 ∨ ∃ b o, p = some ⟨b, o, none⟩ ∧ ∀ i, i < n → w.cell? ⟨b, o + i, none⟩ = some (ix ls i)) ∧ ∀ i, i < xs.length → V F w (ix ls i) (ix xs i) := by
  obtain ⟨p', c', e, hl, h⟩ := h
  cases e
  rcases h with h | ⟨b, o, rfl, hF, h⟩
  · subst h; exact ⟨[], rfl, rfl, .inl rfl, fun i hi => by simp at hi⟩
  · have hx : ∀ i, ∃ u, i < xs.length → w.cell? ⟨b, o + i, none⟩ = some u ∧ V F w u (ix xs i) := fun i => by
      by_cases hi : i < xs.length
      · obtain ⟨u, hu⟩ := h i hi
        rw [Nat.mul_one] at hu
        exact ⟨u, fun _ => hu⟩
      · exact ⟨undef, fun h => absurd h hi⟩
    refine ⟨(List.range xs.length).map fun i => (hx i).choose, by simp, rfl, .inr ⟨b, o, rfl, fun i hi => ?_⟩, fun i hi => ?_⟩
    · rw [show ix ((List.range xs.length).map fun i => (hx i).choose) i = (hx i).choose by simp [ix, hi]]
      exact ((hx i).choose_spec hi).1
    · rw [show ix ((List.range xs.length).map fun i => (hx i).choose) i = (hx i).choose by simp [ix, hi]]
      exact ((hx i).choose_spec hi).2
theorem ls_get {ls : List Value} {j : Nat} {u : Value} (h : ls[j]? = some u) : j < ls.length ∧ ix ls j = u := by
  obtain ⟨h1, h2⟩ := List.getElem?_eq_some_iff.1 h
  exact ⟨h1, by rw [ix_eq h1]; exact h2⟩

def OkRow (x : List Ins) : Prop := ∀ j, j < x.length → (ix x j).labels.length ≤ 100 ∧ (ix x j).types.length ≤ 100
def OkRows (bs : List (List Ins)) : Prop := (bs.map List.length).sum ≤ 3000 ∧ ∀ i, i < bs.length → OkRow (ix bs i)
/-- a bool, and what its being true tells -/
def BoolTells (P : Prop) (w : World) (e : Ending) (w' : World) : Prop := (∃ b : Bool, e = .returned (.bool b) ∧ (b = true → P)) ∧ Ext w w'
def sumTo (bs : List (List Ins)) (i : Nat) : Nat := ((bs.take i).map List.length).sum
theorem sumTo_succ {bs : List (List Ins)} {i : Nat} (h : i < bs.length) : sumTo bs (i + 1) = sumTo bs i + (ix bs i).length := by
  unfold sumTo; rw [take_succ_ix h]; simp
def LensP (m : ApiModule) : Prop := m.types.length ≤ 100 ∧ m.imports.length ≤ 100 ∧ m.funcs.length ≤ 100 ∧ m.tables.length ≤ 100 ∧ m.mems.length ≤ 100 ∧ m.globals.length ≤ 100 ∧ m.exports.length ≤ 100 ∧ m.elems.length ≤ 100 ∧ m.datas.length ≤ 100
def LightP (m : ApiModule) : Prop := LensP m ∧ OkRows (m.funcs.map (·.body))
abbrev TBs : Nat := 54
theorem Body.true {F : Nat → Prop} {w : World} {v : Value} {x : List Ins} (h : BodyR F w v x) : Body w v x := h.mono (fun _ _ _ => trivial)
theorem bl_read {w w' : World} {B : Nat} {v : Value} {ls : List Value} {bs : List (List Ins)} (h : BL w ls bs) (hx : Ext w w') (ho : w'.ownsRow B TBs 1 v ls.length ls) (hl : ls.length ≤ 1000000) : SlR 1 10000000000000 (RowAt BodyR) (fun _ => True) w' v bs := by
  obtain ⟨p, c, rfl, _, _, hg⟩ := own_slice ho
  have hlen := h.len
  refine ⟨p, c, by rw [hlen], by omega, ?_⟩
  by_cases h0 : bs = []
  · exact .inl h0
  · obtain ⟨g, rfl, _, _⟩ := hg (by rw [hlen]; exact List.length_pos_iff.2 h0)
    refine .inr ⟨g, 0, rfl, trivial, fun i hi => ⟨ix ls i, ?_, (h.rd i hi).ext hx⟩⟩
    rw [Nat.zero_add, Nat.mul_one]
    exact own_get ho (ix_some (by omega))
theorem okrows_pre {a b : List (List Ins)} (h : OkRows (a ++ b)) : OkRows a := by
  obtain ⟨h1, h2⟩ := h
  refine ⟨?_, fun i hi => ?_⟩
  · simp only [List.map_append, List.sum_append] at h1; omega
  · have := h2 i (by simp; omega)
    rwa [ix_app_l hi] at this
section
variable {n : Nat} {E : Env} {M : List Res} {R : List (World → Prop)}
theorem HE.callB {f : Nat} {args : List Operand} {tys : Array TypeId} {vs : List Value} {P : Prop} (hf : G.fb[f]? = some true) (ha : evs E args = some vs) (hc : ∀ w, Ok M R w → Calls G.P f vs.toArray w (BoolTells P w)) :
    HE n (.call ⟨.value (.func f), args.toArray, tys⟩) E M R (fun b : Bool => b = true → P) (fun b => .bool b) (fun _ => M) (fun _ => R) :=
  HE.call (fun b : Bool => .bool b) hf ha fun w hw => (hc w hw).mono fun _e _w' ⟨⟨b, e1, h1⟩, hx⟩ => ⟨b, e1, h1, hw.ext hx⟩
end
def LightF (m : ApiModule) : Prop := m.funcs.length ≤ 40 ∧ LightP m
end Go.Proofs.YtmkgfccfnpmcjaaDoor
