/- Maps keyed by int: rules for the operations on a map of the call's own, and for ranging over it. -/
import Derived.Test.YtfeakkicihlplaaD
import Derived.Maps.Keyed
import Derived.Maps.RangeRun
namespace Go.Proofs.Ytfeakkicihlplaa
open Go.RowKit
open Go.ChangeMaps (setBlock)
open Go.MapKept (Stamped)

theorem Chg.setBlock (w : World) (b : Nat) (o : Obj) : Chg (fun k => k = b) w (setBlock w b o) :=
  ⟨rfl, rfl, rfl, by simp [ChangeMaps.setBlock], fun k _ hs => by simp only [ChangeMaps.setBlock]; rw [Array.getElem?_setIfInBounds_ne (fun e => hs e.symm)]⟩

/-- block bm holds a map whose keys are ks -/
def IM (w : World) (bm : Nat) (ks : List Int) : Prop := ∃ es clock, w.heap[bm]? = some (.map es clock) ∧ es.toList.map (·.key) = ks.map (Value.int .i64) ∧ Stamped es clock
theorem IM.lt {w : World} {bm : Nat} {ks : List Int} (h : IM w bm ks) : bm < w.heap.size := by
  obtain ⟨es, clock, hb, _⟩ := h
  exact (Array.getElem?_eq_some_iff.1 hb).1
theorem IM.chg {S : Nat → Prop} {w w' : World} {bm : Nat} {ks : List Int} (h : IM w bm ks) (hc : Chg S w w') (hS : ¬ S bm) : IM w' bm ks := by
  have hl := h.lt
  obtain ⟨es, clock, hb, h2⟩ := h
  exact ⟨es, clock, by rw [hc.block bm hl hS]; exact hb, h2⟩

section
variable {n : Nat} {E : Env} {w : World} {t : TypeId} {x y z : Operand}
theorem Eff.makeMap : Eff G n (.makeMap t none) E w (fun v w' => v = .map (some w.heap.size) ∧ IM w' w.heap.size [] ∧ Ext w w' ∧ w'.heap.size = w.heap.size + 1) := by
  refine Eff.of (v := .map (some w.heap.size)) (w' := w.alloc (.map #[] 0)) (fun a _ d ty pos aft gd => ?_) ⟨rfl, ⟨#[], 0, heap_alloc_new w _, rfl, by simp [Stamped]⟩, (Chg.refl _ _).alloc _, by simp⟩
  simp [execOp, Instr.makeMap]

theorem im_update {k e : TypeId} (ht : G.P.underlying t = some (.map k e)) (hk : G.P.underlying k = some (.int .i64)) {bm : Nat} {ks : List Int} (h : IM w bm ks) {a : Int} (ha : (Lit.int .i64 a).wf = true) (hks : ∀ b ∈ ks, (Lit.int .i64 b).wf = true) (val : Value) :
    ∃ w', (Instr.mapUpdate t (.map (some bm)) (.int .i64 a) val).run G.P w = .ok () w' ∧ IM w' bm (if a ∈ ks then ks else ks ++ [a]) ∧ Chg (fun k => k = bm) w w' ∧ w'.heap.size = w.heap.size := by
  obtain ⟨es, clock, hb, hkeys, hst⟩ := h
  have hlt : bm < w.heap.size := (Array.getElem?_eq_some_iff.1 hb).1
  have K := Maps.int_keyed (P := G.P) (k := k) hk
  have hkey := Maps.keyOf_int_mk hk ha
  have hall : ∀ e ∈ es.toList, ∃ l, keyOf G.P k e.key = some l := fun e he => by
    have : e.key ∈ ks.map (Value.int .i64) := by rw [← hkeys]; exact List.mem_map.2 ⟨e, he, rfl⟩
    obtain ⟨b, hb, e1⟩ := List.mem_map.1 this
    exact ⟨_, by rw [← e1]; exact Maps.keyOf_int_mk hk (hks b hb)⟩
  have hset : ∀ o, (setBlock w bm o).heap[bm]? = some o := fun o => by simp [ChangeMaps.setBlock, hlt]
  have hsz : ∀ o, (setBlock w bm o).heap.size = w.heap.size := fun o => by simp [ChangeMaps.setBlock]
  have hmem : ∀ b, b ∈ ks ↔ ∃ e ∈ es.toList, e.key = .int .i64 b := fun b => by
    constructor
    · intro hb
      have : Value.int .i64 b ∈ es.toList.map (·.key) := by rw [hkeys]; exact List.mem_map.2 ⟨b, hb, rfl⟩
      obtain ⟨e, he, e1⟩ := List.mem_map.1 this
      exact ⟨e, he, e1⟩
    · rintro ⟨e, he, e1⟩
      have : Value.int .i64 b ∈ ks.map (Value.int .i64) := by rw [← hkeys, ← e1]; exact List.mem_map.2 ⟨e, he, rfl⟩
      obtain ⟨c, hc, e2⟩ := List.mem_map.1 this
      cases e2; exact hc
  rcases K.find w hkey es.toList hall with ⟨h1, h2⟩ | ⟨j, e0, h1, h2, h3⟩
  · have hna : ¬ a ∈ ks := fun hm => by
      obtain ⟨e, he, e1⟩ := (hmem a).1 hm
      exact h2 e he e1
    refine ⟨setBlock w bm (.map (es.push ⟨.int .i64 a, val, clock⟩) (clock + 1)), ?_, ?_, Chg.setBlock _ _ _, hsz _⟩
    · simp [Instr.mapUpdate, run_underlying ht, MapKept.run_getObj_map hb, K.check w false hkey, h1, MapKept.run_setObj_map _ hb, Result.andThen, ChangeMaps.setBlock]
    · rw [if_neg hna]
      exact ⟨_, _, hset _, by simp [hkeys], MapKept.stamped_push hst h2⟩
  · have ham : a ∈ ks := (hmem a).2 ⟨e0, List.mem_of_getElem? h2, h3⟩
    have hj : es[j]? = some e0 := by simpa using h2
    refine ⟨setBlock w bm (.map (es.modify j (fun e' => { e' with key := .int .i64 a, val := val })) clock), ?_, ?_, Chg.setBlock _ _ _, hsz _⟩
    · simp [Instr.mapUpdate, run_underlying ht, MapKept.run_getObj_map hb, K.check w false hkey, h1, hj, h3, K.stays w hkey, MapKept.run_setObj_map _ hb, Result.andThen, ChangeMaps.setBlock]
    · rw [if_pos ham]
      refine ⟨_, _, hset _, ?_, MapKept.stamped_modify hst _ _ (fun _ _ => rfl) (fun e' _ he' => by rw [hj] at he'; cases he'; exact h3.symm)⟩
      rw [← hkeys]
      apply List.ext_getElem?
      intro i
      rw [Array.toList_modify, List.getElem?_map, List.getElem?_map]
      by_cases e : j = i
      · subst e; simp [List.getElem?_modify, h2, h3]
      · simp [List.getElem?_modify, e]

theorem Eff.mapUpdate {k e : TypeId} (ht : G.P.underlying t = some (.map k e)) (hk : G.P.underlying k = some (.int .i64)) {bm : Nat} {ks : List Int} {a : Int} {val : Value} (hx : ev E x = some (.map (some bm))) (hy : ev E y = some (.int .i64 a)) (hz : ev E z = some val) (h : IM w bm ks) (ha : (Lit.int .i64 a).wf = true) (hks : ∀ b ∈ ks, (Lit.int .i64 b).wf = true) :
    Eff G n (.mapUpdate t x y z) E w (fun _ w' => IM w' bm (if a ∈ ks then ks else ks ++ [a]) ∧ Chg (fun k => k = bm) w w' ∧ w'.heap.size = w.heap.size) := by
  obtain ⟨w', hr, hp⟩ := im_update ht hk h ha hks val
  refine Eff.ofS (w' := w') (fun ac hac d ty pos aft gd => ?_) hp
  simp [execOp, hac.eval hx, hac.eval hy, hac.eval hz, hr]
theorem Eff.insert {k e : TypeId} (ht : G.P.underlying t = some (.map k e)) (hk : G.P.underlying k = some (.int .i64)) {bm : Nat} {ks : List Int} {a : Int} {val : Value} (hx : ev E x = some (.map (some bm))) (hy : ev E y = some (.int .i64 a)) (hz : ev E z = some val) (h : IM w bm ks) (ha : (Lit.int .i64 a).wf = true) (hks : ∀ b ∈ ks, (Lit.int .i64 b).wf = true) :
    Eff G n (.insert t x y z) E w (fun _ w' => IM w' bm (if a ∈ ks then ks else ks ++ [a]) ∧ Chg (fun k => k = bm) w w' ∧ w'.heap.size = w.heap.size) := by
  obtain ⟨w', hr, hp⟩ := im_update ht hk h ha hks val
  refine Eff.ofS (w' := w') (fun ac hac d ty pos aft gd => ?_) hp
  simp [execOp, hac.eval hx, hac.eval hy, hac.eval hz, hr]

/-- the iterator in block r over the map in block bm, which held es when the loop began; out: the keys handed out; left: how many are to come -/
structure IT (w : World) (bm r : Nat) (ks out : List Int) (es : Array MapEntry) (clock : Nat) (seen : Array Nat) : Prop where
  hb : w.heap[bm]? = some (.map es clock)
  hr : w.heap[r]? = some (.mapIter (some bm) clock seen clock)
  keys : es.toList.map (·.key) = ks.map (Value.int .i64)
  st : Stamped es clock
  nd : out.Nodup
  sub : ∀ a ∈ out, ∃ e ∈ es.toList, e.key = .int .i64 a
  met : ∀ e ∈ es.toList, seen.contains e.born = true ↔ e.key ∈ out.map (Value.int .i64)
theorem IT.lt {w : World} {bm r : Nat} {ks out : List Int} {es : Array MapEntry} {clock : Nat} {seen : Array Nat} (h : IT w bm r ks out es clock seen) : bm < w.heap.size ∧ r < w.heap.size :=
  ⟨(Array.getElem?_eq_some_iff.1 h.hb).1, (Array.getElem?_eq_some_iff.1 h.hr).1⟩
theorem IT.chg {S : Nat → Prop} {w w' : World} {bm r : Nat} {ks out : List Int} {es : Array MapEntry} {clock : Nat} {seen : Array Nat} (h : IT w bm r ks out es clock seen) (hc : Chg S w w') (h1 : ¬ S bm) (h2 : ¬ S r) : IT w' bm r ks out es clock seen :=
  ⟨by rw [hc.block _ h.lt.1 h1]; exact h.hb, by rw [hc.block _ h.lt.2 h2]; exact h.hr, h.keys, h.st, h.nd, h.sub, h.met⟩
theorem IT.all {w : World} {bm r : Nat} {ks out : List Int} {es : Array MapEntry} {clock : Nat} {seen : Array Nat} (h : IT w bm r ks out es clock seen) (h0 : (leftOf es seen).size = 0) : ∀ a, a ∈ out ↔ a ∈ ks := by
  have hk : ∀ a, a ∈ ks ↔ ∃ e ∈ es.toList, e.key = .int .i64 a := fun b => by
    constructor
    · intro hb
      have : Value.int .i64 b ∈ es.toList.map (·.key) := by rw [h.keys]; exact List.mem_map.2 ⟨b, hb, rfl⟩
      obtain ⟨e, he, e1⟩ := List.mem_map.1 this
      exact ⟨e, he, e1⟩
    · rintro ⟨e, he, e1⟩
      have : Value.int .i64 b ∈ ks.map (Value.int .i64) := by rw [← h.keys, ← e1]; exact List.mem_map.2 ⟨e, he, rfl⟩
      obtain ⟨c, hc, e2⟩ := List.mem_map.1 this
      cases e2; exact hc
  intro a
  rw [hk]
  constructor
  · exact h.sub a
  · rintro ⟨e, he, e1⟩
    have hs : seen.contains e.born = true := by
      cases hc : seen.contains e.born with
      | true => rfl
      | false =>
        have : e ∈ leftOf es seen := Array.mem_filter.2 ⟨Array.mem_toList_iff.1 he, by rw [hc]; rfl⟩
        have h1 : leftOf es seen = #[] := Array.eq_empty_of_size_eq_zero h0
        rw [h1] at this; simp at this
    have := (h.met e he).1 hs
    obtain ⟨b, hb, e2⟩ := List.mem_map.1 this
    rw [e1] at e2; cases e2; exact hb

theorem Eff.range {k e : TypeId} (ht : G.P.underlying t = some (.map k e)) {bm : Nat} {ks : List Int} (hx : ev E x = some (.map (some bm))) (h : IM w bm ks) :
    Eff G n (.range t x) E w (fun v w' => v = .pointer (some ⟨w.heap.size, 0, none⟩) ∧ (∃ es clock, IT w' bm w.heap.size ks [] es clock #[]) ∧ Ext w w' ∧ w'.heap.size = w.heap.size + 1) := by
  have hlt := h.lt
  obtain ⟨es, clock, hb, hkeys, hst⟩ := h
  refine Eff.of (v := .pointer (some ⟨w.heap.size, 0, none⟩)) (w' := w.alloc (.mapIter (some bm) clock #[] clock)) (fun ac hac d ty pos aft gd => ?_) ⟨rfl, ⟨es, clock, ?_⟩, (Chg.refl _ _).alloc _, by simp⟩
  · simp [execOp, hac.eval hx, run_range_map w t k e bm es clock ht hb]
  · exact ⟨by rw [heap_alloc_old w _ hlt]; exact hb, heap_alloc_new w _, hkeys, hst, by simp, by simp, fun e he => by simp⟩

theorem nodup_inj {α β : Type} {f : α → β} : ∀ {l : List α}, (l.map f).Nodup → ∀ {x y : α}, x ∈ l → y ∈ l → f x = f y → x = y
  | a :: l, hn, x, y, hx, hy, h => by
    rw [List.map_cons, List.nodup_cons] at hn
    rcases List.mem_cons.1 hx with rfl | hx
    · rcases List.mem_cons.1 hy with rfl | hy
      · rfl
      · exact absurd (List.mem_map.2 ⟨y, hy, h.symm⟩) hn.1
    · rcases List.mem_cons.1 hy with e | hy
      · rw [e] at h; exact absurd (List.mem_map.2 ⟨x, hx, h⟩) hn.1
      · exact nodup_inj hn.2 hx hy h

theorem Eff.next {bm r : Nat} {ks out : List Int} {es : Array MapEntry} {clock : Nat} {seen : Array Nat} (hx : ev E x = some (.pointer (some ⟨r, 0, none⟩))) (h : IT w bm r ks out es clock seen) :
    Eff G n (.next x false) E w (fun v w' => ((leftOf es seen).size = 0 ∧ v = .tuple #[.bool false] ∧ w' = w) ∨
      ∃ (a : Int) (val : Value) (seen' : Array Nat), v = .tuple #[.bool true, .int .i64 a, val] ∧ IT w' bm r ks (out ++ [a]) es clock seen' ∧ (leftOf es seen').size < (leftOf es seen).size ∧ Chg (fun k => k = r) w w' ∧ w'.heap.size = w.heap.size ∧ (Instr.entry (.pointer (some ⟨r, 0, none⟩))).run G.P w' = .ok (.tuple #[.int .i64 a, val]) w') := by
  refine ⟨fun ac hac d ty pos aft gd => ?_⟩
  simp only [execOp, hac.eval hx]
  have hbr : bm ≠ r := fun e => by
    have h1 := h.hb; rw [e, h.hr] at h1; cases h1
  rcases run_next_at (P := G.P) w ty r bm clock clock seen es clock h.hr h.hb h.st.1 (Nat.le_refl _) with ⟨h0, hrun⟩ | ⟨e, he, w1, hw1, hrun⟩
  · simp only [Sem.run_bind, hrun, Result.andThen]
    simp only [Sem.run_pure, effUp]
    exact .inl ⟨h0, by simp⟩
  · obtain ⟨he1, he2⟩ := mem_left he
    have hkm : e.key ∈ ks.map (Value.int .i64) := by rw [← h.keys]; exact List.mem_map.2 ⟨e, he1, rfl⟩
    obtain ⟨a, hak, ea⟩ := List.mem_map.1 hkm
    have hb1 : w1.heap = w.heap := by rcases hw1 with rfl | rfl <;> rfl
    have hc1 : Chg (fun k => k = r) w w1 := by rcases hw1 with rfl | rfl; exact Chg.refl _ _; exact (Chg.refl _ _).drew
    have hc2 : Chg (fun k => k = r) w (setBlock w1 r (.mapIter (some bm) clock (seen.push e.born) clock)) := hc1.trans (Chg.setBlock _ _ _)
    have hit : IT (setBlock w1 r (.mapIter (some bm) clock (seen.push e.born) clock)) bm r ks (out ++ [a]) es clock (seen.push e.born) := by
      have hout : a ∉ out := fun hm => by
        have := (h.met e he1).2 (List.mem_map.2 ⟨a, hm, ea⟩)
        rw [he2] at this; cases this
      refine ⟨by rw [hc2.block _ h.lt.1 hbr]; exact h.hb, by simp [ChangeMaps.setBlock, hb1, h.lt.2], h.keys, h.st, ?_, ?_, ?_⟩
      · rw [List.nodup_append]
        exact ⟨h.nd, by simp, fun x hx y hy e2 => by simp at hy; subst hy; subst e2; exact hout hx⟩
      · intro b hb
        rcases List.mem_append.1 hb with hb | hb
        · exact h.sub b hb
        · simp at hb; subst hb; exact ⟨e, he1, ea.symm⟩
      · intro e' he'
        rw [contains_push, List.map_append, List.mem_append, Bool.or_eq_true, h.met e' he']
        simp only [List.map_cons, List.map_nil, List.mem_singleton, beq_iff_eq]
        constructor
        · rintro (h1 | h1)
          · exact .inl h1
          · right; rw [nodup_inj h.st.2.1 he' he1 h1]; exact ea.symm
        · rintro (h1 | h1)
          · exact .inl h1
          · right
            have : e'.key = e.key := by rw [h1]; exact ea
            rw [nodup_inj h.st.2.2 he' he1 this]
    have hen := run_entry_at (P := G.P) _ r bm clock seen es clock e hit.hr hit.hb he1 h.st.2.1
    rw [← ea] at hen
    simp only [Sem.run_bind, hrun, Result.andThen]
    simp only [Sem.run_pure, effUp]
    refine .inr ⟨a, e.val, seen.push e.born, by rw [ea], hit, left_shrinks es seen e he, hc2, by simp [ChangeMaps.setBlock, hb1], hen⟩
theorem Eff.entry {r : Nat} {u : Value} (hx : ev E x = some (.pointer (some ⟨r, 0, none⟩))) (h : (Instr.entry (.pointer (some ⟨r, 0, none⟩))).run G.P w = .ok u w) : Eff G n (.entry x) E w (fun v w' => v = u ∧ w' = w) := by
  refine Eff.of (v := u) (w' := w) (fun ac hac d ty pos aft gd => ?_) ⟨rfl, rfl⟩
  simp [execOp, hac.eval hx, h]
end
end Go.Proofs.Ytfeakkicihlplaa
