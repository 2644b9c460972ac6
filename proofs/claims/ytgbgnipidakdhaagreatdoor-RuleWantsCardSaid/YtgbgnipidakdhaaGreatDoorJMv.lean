/- Maps keyed by int: rules for the operations on a map of the call's own, and for ranging over it. -/
import Derived.Test.YtgbgnipidakdhaaGreatDoorJE
import Derived.Maps.Keyed
import Derived.Maps.RangeRun
import Derived.Test.YtgbgnipidakdhaaGreatDoorJHq
namespace Go.Proofs.YtgbgnipidakdhaaGreatDoor
open Go.RowKit
open Go.ChangeMaps (setBlock)
open Go.MapKept (Stamped)
theorem Chg.setBlock (w : World) (b : Nat) (o : Obj) : Chg (fun k => k = b) w (setBlock w b o) :=
  ⟨rfl, rfl, rfl, by simp [ChangeMaps.setBlock], fun k _ hs => by simp only [ChangeMaps.setBlock]; rw [Array.getElem?_setIfInBounds_ne (fun e => hs e.symm)]⟩
def IM (w : World) (bm : Nat) (ks : List Int) : Prop := ∃ es clock, w.heap[bm]? = some (.map es clock) ∧ es.toList.map (·.key) = ks.map (Value.int .i64) ∧ Stamped es clock
theorem IM.lt {w : World} {bm : Nat} {ks : List Int} (h : IM w bm ks) : bm < w.heap.size := by
  obtain ⟨es, clock, hb, _⟩ := h
  exact (Array.getElem?_eq_some_iff.1 hb).1
theorem IM.chg {S : Nat → Prop} {w w' : World} {bm : Nat} {ks : List Int} (h : IM w bm ks) (hc : Chg S w w') (hS : ¬ S bm) : IM w' bm ks := by
  have hl := h.lt
  obtain ⟨es, clock, hb, h2⟩ := h
  exact ⟨es, clock, by rw [hc.block bm hl hS]; exact hb, h2⟩
section
variable {n : Nat} {E : Env} {w : World} {t : TypeId} {x y z : Operand}
theorem Eff.makeMap : Eff G n (.makeMap t none) E w (fun v w' => v = .map (some w.heap.size) ∧ IM w' w.heap.size [] ∧ Ext w w' ∧ w'.heap.size = w.heap.size + 1) := by
  refine Eff.of (v := .map (some w.heap.size)) (w' := w.alloc (.map #[] 0)) (fun a _ d ty pos aft gd => ?_) ⟨rfl, ⟨#[], 0, heap_alloc_new w _, rfl, by simp [Stamped]⟩, (Chg.refl _ _).alloc _, by simp⟩
  simp [execOp, Instr.makeMap]
theorem im_update {k e : TypeId} (ht : G.P.underlying t = some (.map k e)) (hk : G.P.underlying k = some (.int .i64)) {bm : Nat} {ks : List Int} (h : IM w bm ks) {a : Int} (ha : (Lit.int .i64 a).wf = true) (hks : ∀ b ∈ ks, (Lit.int .i64 b).wf = true) (val : Value) :
    ∃ w', (Instr.mapUpdate t (.map (some bm)) (.int .i64 a) val).run G.P w = .ok () w' ∧ IM w' bm (if a ∈ ks then ks else ks ++ [a]) ∧ Chg (fun k => k = bm) w w' ∧ w'.heap.size = w.heap.size := by
  obtain ⟨es, clock, hb, hkeys, hst⟩ := h
  have hlt : bm < w.heap.size := (Array.getElem?_eq_some_iff.1 hb).1
  have K := Maps.int_keyed (P := G.P) (k := k) hk
  have hkey := Maps.keyOf_int_mk hk ha
  have hall : ∀ e ∈ es.toList, ∃ l, keyOf G.P k e.key = some l := fun e he => by
    have : e.key ∈ ks.map (Value.int .i64) := by rw [← hkeys]; exact List.mem_map.2 ⟨e, he, rfl⟩
    obtain ⟨b, hb, e1⟩ := List.mem_map.1 this
    exact ⟨_, by rw [← e1]; exact Maps.keyOf_int_mk hk (hks b hb)⟩
  have hset : ∀ o, (setBlock w bm o).heap[bm]? = some o := fun o => by simp [ChangeMaps.setBlock, hlt]
  have hsz : ∀ o, (setBlock w bm o).heap.size = w.heap.size := fun o => by simp [ChangeMaps.setBlock]
  have hmem : ∀ b, b ∈ ks ↔ ∃ e ∈ es.toList, e.key = .int .i64 b := fun b => by
    constructor
    · intro hb
      have : Value.int .i64 b ∈ es.toList.map (·.key) := by rw [hkeys]; exact List.mem_map.2 ⟨b, hb, rfl⟩
      obtain ⟨e, he, e1⟩ := List.mem_map.1 this
      exact ⟨e, he, e1⟩
    · rintro ⟨e, he, e1⟩
      have : Value.int .i64 b ∈ ks.map (Value.int .i64) := by rw [← hkeys, ← e1]; exact List.mem_map.2 ⟨e, he, rfl⟩
      obtain ⟨c, hc, e2⟩ := List.mem_map.1 this
      cases e2; exact hc
  rcases K.find w hkey es.toList hall with ⟨h1, h2⟩ | ⟨j, e0, h1, h2, h3⟩
  · have hna : ¬ a ∈ ks := fun hm => by
      obtain ⟨e, he, e1⟩ := (hmem a).1 hm
      exact h2 e he e1
    refine ⟨setBlock w bm (.map (es.push ⟨.int .i64 a, val, clock⟩) (clock + 1)), ?_, ?_, Chg.setBlock _ _ _, hsz _⟩
    · simp [Instr.mapUpdate, run_underlying ht, MapKept.run_getObj_map hb, K.check w false hkey, h1, MapKept.run_setObj_map _ hb, Result.andThen, ChangeMaps.setBlock]
    · rw [if_neg hna]
      exact ⟨_, _, hset _, by simp [hkeys], MapKept.stamped_push hst h2⟩
  · have ham : a ∈ ks := (hmem a).2 ⟨e0, List.mem_of_getElem? h2, h3⟩
    have hj : es[j]? = some e0 := by simpa using h2
    refine ⟨setBlock w bm (.map (es.modify j (fun e' => { e' with key := .int .i64 a, val := val })) clock), ?_, ?_, Chg.setBlock _ _ _, hsz _⟩
    · simp [Instr.mapUpdate, run_underlying ht, MapKept.run_getObj_map hb, K.check w false hkey, h1, hj, h3, K.stays w hkey, MapKept.run_setObj_map _ hb, Result.andThen, ChangeMaps.setBlock]
    · rw [if_pos ham]
      refine ⟨_, _, hset _, ?_, MapKept.stamped_modify hst _ _ (fun _ _ => rfl) (fun e' _ he' => by rw [hj] at he'; cases he'; exact h3.symm)⟩
      rw [← hkeys]
      apply List.ext_getElem?
      intro i
      rw [Array.toList_modify, List.getElem?_map, List.getElem?_map]
      by_cases e : j = i
      · subst e; simp [h2, h3]
      · simp [e]
theorem Eff.mapUpdate {k e : TypeId} (ht : G.P.underlying t = some (.map k e)) (hk : G.P.underlying k = some (.int .i64)) {bm : Nat} {ks : List Int} {a : Int} {val : Value} (hx : ev E x = some (.map (some bm))) (hy : ev E y = some (.int .i64 a)) (hz : ev E z = some val) (h : IM w bm ks) (ha : (Lit.int .i64 a).wf = true) (hks : ∀ b ∈ ks, (Lit.int .i64 b).wf = true) :
    Eff G n (.mapUpdate t x y z) E w (fun _ w' => IM w' bm (if a ∈ ks then ks else ks ++ [a]) ∧ Chg (fun k => k = bm) w w' ∧ w'.heap.size = w.heap.size) := by
  obtain ⟨w', hr, hp⟩ := im_update ht hk h ha hks val
  refine Eff.ofS (w' := w') (fun ac hac d ty pos aft gd => ?_) hp
  simp [execOp, hac.eval hx, hac.eval hy, hac.eval hz, hr]
structure IT (w : World) (bm r : Nat) (ks out : List Int) (es : Array MapEntry) (clock : Nat) (seen : Array Nat) : Prop where
  hb : w.heap[bm]? = some (.map es clock)
  hr : w.heap[r]? = some (.mapIter (some bm) clock seen clock)
  keys : es.toList.map (·.key) = ks.map (Value.int .i64)
  st : Stamped es clock
  nd : out.Nodup
  sub : ∀ a ∈ out, ∃ e ∈ es.toList, e.key = .int .i64 a
  met : ∀ e ∈ es.toList, seen.contains e.born = true ↔ e.key ∈ out.map (Value.int .i64)
theorem IT.lt {w : World} {bm r : Nat} {ks out : List Int} {es : Array MapEntry} {clock : Nat} {seen : Array Nat} (h : IT w bm r ks out es clock seen) : bm < w.heap.size ∧ r < w.heap.size :=
  ⟨(Array.getElem?_eq_some_iff.1 h.hb).1, (Array.getElem?_eq_some_iff.1 h.hr).1⟩
theorem IT.chg {S : Nat → Prop} {w w' : World} {bm r : Nat} {ks out : List Int} {es : Array MapEntry} {clock : Nat} {seen : Array Nat} (h : IT w bm r ks out es clock seen) (hc : Chg S w w') (h1 : ¬ S bm) (h2 : ¬ S r) : IT w' bm r ks out es clock seen :=
  ⟨by rw [hc.block _ h.lt.1 h1]; exact h.hb, by rw [hc.block _ h.lt.2 h2]; exact h.hr, h.keys, h.st, h.nd, h.sub, h.met⟩
theorem IT.all {w : World} {bm r : Nat} {ks out : List Int} {es : Array MapEntry} {clock : Nat} {seen : Array Nat} (h : IT w bm r ks out es clock seen) (h0 : (leftOf es seen).size = 0) : ∀ a, a ∈ out ↔ a ∈ ks := by
  have hk : ∀ a, a ∈ ks ↔ ∃ e ∈ es.toList, e.key = .int .i64 a := fun b => by
    constructor
    · intro hb
      have : Value.int .i64 b ∈ es.toList.map (·.key) := by rw [h.keys]; exact List.mem_map.2 ⟨b, hb, rfl⟩
      obtain ⟨e, he, e1⟩ := List.mem_map.1 this
      exact ⟨e, he, e1⟩
    · rintro ⟨e, he, e1⟩
      have : Value.int .i64 b ∈ ks.map (Value.int .i64) := by rw [← h.keys, ← e1]; exact List.mem_map.2 ⟨e, he, rfl⟩
      obtain ⟨c, hc, e2⟩ := List.mem_map.1 this
      cases e2; exact hc
  intro a
  rw [hk]
  constructor
  · exact h.sub a
  · rintro ⟨e, he, e1⟩
    have hs : seen.contains e.born = true := by
      cases hc : seen.contains e.born with
      | true => rfl
      | false =>
        have : e ∈ leftOf es seen := Array.mem_filter.2 ⟨Array.mem_toList_iff.1 he, by rw [hc]; rfl⟩
        have h1 : leftOf es seen = #[] := Array.eq_empty_of_size_eq_zero h0
        rw [h1] at this; simp at this
    have := (h.met e he).1 hs
    obtain ⟨b, hb, e2⟩ := List.mem_map.1 this
    rw [e1] at e2; cases e2; exact hb
theorem Eff.range {k e : TypeId} (ht : G.P.underlying t = some (.map k e)) {bm : Nat} {ks : List Int} (hx : ev E x = some (.map (some bm))) (h : IM w bm ks) :
    Eff G n (.range t x) E w (fun v w' => v = .pointer (some ⟨w.heap.size, 0, none⟩) ∧ (∃ es clock, IT w' bm w.heap.size ks [] es clock #[]) ∧ Ext w w' ∧ w'.heap.size = w.heap.size + 1) := by
  have hlt := h.lt
  obtain ⟨es, clock, hb, hkeys, hst⟩ := h
  refine Eff.of (v := .pointer (some ⟨w.heap.size, 0, none⟩)) (w' := w.alloc (.mapIter (some bm) clock #[] clock)) (fun ac hac d ty pos aft gd => ?_) ⟨rfl, ⟨es, clock, ?_⟩, (Chg.refl _ _).alloc _, by simp⟩
  · simp [execOp, hac.eval hx, run_range_map w t k e bm es clock ht hb]
  · exact ⟨by rw [heap_alloc_old w _ hlt]; exact hb, heap_alloc_new w _, hkeys, hst, by simp, by simp, fun e he => by simp⟩
theorem nodup_inj {α β : Type} {f : α → β} : ∀ {l : List α}, (l.map f).Nodup → ∀ {x y : α}, x ∈ l → y ∈ l → f x = f y → x = y
  | a :: l, hn, x, y, hx, hy, h => by
    rw [List.map_cons, List.nodup_cons] at hn
    rcases List.mem_cons.1 hx with rfl | hx
    · rcases List.mem_cons.1 hy with rfl | hy
      · rfl
      · exact absurd (List.mem_map.2 ⟨y, hy, h.symm⟩) hn.1
    · rcases List.mem_cons.1 hy with e | hy
      · rw [e] at h; exact absurd (List.mem_map.2 ⟨x, hx, h⟩) hn.1
      · exact nodup_inj hn.2 hx hy h
theorem Eff.next {bm r : Nat} {ks out : List Int} {es : Array MapEntry} {clock : Nat} {seen : Array Nat} (hx : ev E x = some (.pointer (some ⟨r, 0, none⟩))) (h : IT w bm r ks out es clock seen) :
    Eff G n (.next x false) E w (fun v w' => ((leftOf es seen).size = 0 ∧ v = .tuple #[.bool false] ∧ w' = w) ∨
      ∃ (a : Int) (val : Value) (seen' : Array Nat), v = .tuple #[.bool true, .int .i64 a, val] ∧ IT w' bm r ks (out ++ [a]) es clock seen' ∧ (leftOf es seen').size < (leftOf es seen).size ∧ Chg (fun k => k = r) w w' ∧ w'.heap.size = w.heap.size ∧ (Instr.entry (.pointer (some ⟨r, 0, none⟩))).run G.P w' = .ok (.tuple #[.int .i64 a, val]) w') := by
  refine ⟨fun ac hac d ty pos aft gd => ?_⟩
  simp only [execOp, hac.eval hx]
  have hbr : bm ≠ r := fun e => by
    have h1 := h.hb; rw [e, h.hr] at h1; cases h1
  rcases run_next_at (P := G.P) w ty r bm clock clock seen es clock h.hr h.hb h.st.1 (Nat.le_refl _) with ⟨h0, hrun⟩ | ⟨e, he, w1, hw1, hrun⟩
  · simp only [Sem.run_bind, hrun, Result.andThen]
    simp only [Sem.run_pure, effUp]
    exact .inl ⟨h0, by simp⟩
  · obtain ⟨he1, he2⟩ := mem_left he
    have hkm : e.key ∈ ks.map (Value.int .i64) := by rw [← h.keys]; exact List.mem_map.2 ⟨e, he1, rfl⟩
    obtain ⟨a, hak, ea⟩ := List.mem_map.1 hkm
    have hb1 : w1.heap = w.heap := by rcases hw1 with rfl | rfl <;> rfl
    have hc1 : Chg (fun k => k = r) w w1 := by rcases hw1 with rfl | rfl; exact Chg.refl _ _; exact (Chg.refl _ _).drew
    have hc2 : Chg (fun k => k = r) w (setBlock w1 r (.mapIter (some bm) clock (seen.push e.born) clock)) := hc1.trans (Chg.setBlock _ _ _)
    have hit : IT (setBlock w1 r (.mapIter (some bm) clock (seen.push e.born) clock)) bm r ks (out ++ [a]) es clock (seen.push e.born) := by
      have hout : a ∉ out := fun hm => by
        have := (h.met e he1).2 (List.mem_map.2 ⟨a, hm, ea⟩)
        rw [he2] at this; cases this
      refine ⟨by rw [hc2.block _ h.lt.1 hbr]; exact h.hb, by simp [ChangeMaps.setBlock, hb1, h.lt.2], h.keys, h.st, ?_, ?_, ?_⟩
      · rw [List.nodup_append]
        exact ⟨h.nd, by simp, fun x hx y hy e2 => by simp at hy; subst hy; subst e2; exact hout hx⟩
      · intro b hb
        rcases List.mem_append.1 hb with hb | hb
        · exact h.sub b hb
        · simp at hb; subst hb; exact ⟨e, he1, ea.symm⟩
      · intro e' he'
        rw [contains_push, List.map_append, List.mem_append, Bool.or_eq_true, h.met e' he']
        simp only [List.map_cons, List.map_nil, List.mem_singleton, beq_iff_eq]
        constructor
        · rintro (h1 | h1)
          · exact .inl h1
          · right; rw [nodup_inj h.st.2.1 he' he1 h1]; exact ea.symm
        · rintro (h1 | h1)
          · exact .inl h1
          · right
            have : e'.key = e.key := by rw [h1]; exact ea
            rw [nodup_inj h.st.2.2 he' he1 this]
    have hen := run_entry_at (P := G.P) _ r bm clock seen es clock e hit.hr hit.hb he1 h.st.2.1
    rw [← ea] at hen
    simp only [Sem.run_bind, hrun, Result.andThen]
    simp only [Sem.run_pure, effUp]
    refine .inr ⟨a, e.val, seen.push e.born, by rw [ea], hit, left_shrinks es seen e he, hc2, by simp [ChangeMaps.setBlock, hb1], hen⟩
theorem Eff.entry {r : Nat} {u : Value} (hx : ev E x = some (.pointer (some ⟨r, 0, none⟩))) (h : (Instr.entry (.pointer (some ⟨r, 0, none⟩))).run G.P w = .ok u w) : Eff G n (.entry x) E w (fun v w' => v = u ∧ w' = w) := by
  refine Eff.of (v := u) (w' := w) (fun ac hac d ty pos aft gd => ?_) ⟨rfl, rfl⟩
  simp [execOp, hac.eval hx, h]
end
open Go.ChangeMaps (setBlock)
open Go.MapKept (Stamped)
theorem R64_wf {a : Int} (h : R64 a) : (Lit.int .i64 a).wf = true := by
  have e1 : IntKind.i64.min = -9223372036854775808 := by decide
  have e2 : IntKind.i64.max = 9223372036854775807 := by decide
  simp only [Lit.wf, e1, e2, Bool.and_eq_true, decide_eq_true_eq]
  exact h
def IV (w : World) (bm : Nat) (g : Int → Option Value) : Prop := ∃ es clock, w.heap[bm]? = some (.map es clock) ∧ (∀ e ∈ es.toList, ∃ b, e.key = .int .i64 b ∧ (Lit.int .i64 b).wf = true) ∧ (∀ a u, g a = some u ↔ ∃ e ∈ es.toList, e.key = .int .i64 a ∧ e.val = u) ∧ Stamped es clock
theorem IV.lt {w : World} {bm : Nat} {g : Int → Option Value} (h : IV w bm g) : bm < w.heap.size := by
  obtain ⟨es, clock, hb, _⟩ := h
  exact (Array.getElem?_eq_some_iff.1 hb).1
theorem IV.chg {S : Nat → Prop} {w w' : World} {bm : Nat} {g : Int → Option Value} (h : IV w bm g) (hc : Chg S w w') (hS : ¬ S bm) : IV w' bm g := by
  have hl := h.lt
  obtain ⟨es, clock, hb, h2⟩ := h
  exact ⟨es, clock, by rw [hc.block bm hl hS]; exact hb, h2⟩
def Res.iv (bm : Nat) (g : Int → Option Value) : Res := ⟨fun k => k = bm, fun w => IV w bm g, fun h hc hd => h.chg hc (hd bm h.lt rfl)⟩
def put (g : Int → Option Value) (a : Int) (v : Value) : Int → Option Value := fun b => if b = a then some v else g b
section
variable {n : Nat} {E : Env} {w : World} {t : TypeId} {x y z : Operand} {C : World → Prop}
theorem iv_update {k e : TypeId} (ht : G.P.underlying t = some (.map k e)) (hk : G.P.underlying k = some (.int .i64)) {bm : Nat} {g : Int → Option Value} (h : IV w bm g) {a : Int} (ha : (Lit.int .i64 a).wf = true) (val : Value) :
    ∃ w', (Instr.mapUpdate t (.map (some bm)) (.int .i64 a) val).run G.P w = .ok () w' ∧ IV w' bm (put g a val) ∧ Chg (fun k => k = bm) w w' ∧ w'.heap.size = w.heap.size := by
  obtain ⟨es, clock, hb, hkeys, hg, hst⟩ := h
  have hlt : bm < w.heap.size := (Array.getElem?_eq_some_iff.1 hb).1
  have K := Maps.int_keyed (P := G.P) (k := k) hk
  have hkey := Maps.keyOf_int_mk hk ha
  have hall : ∀ e ∈ es.toList, ∃ l, keyOf G.P k e.key = some l := fun e he => by
    obtain ⟨b, e1, hw⟩ := hkeys e he
    exact ⟨_, by rw [e1]; exact Maps.keyOf_int_mk hk hw⟩
  have hset : ∀ o, (setBlock w bm o).heap[bm]? = some o := fun o => by simp [ChangeMaps.setBlock, hlt]
  have hsz : ∀ o, (setBlock w bm o).heap.size = w.heap.size := fun o => by simp [ChangeMaps.setBlock]
  rcases K.find w hkey es.toList hall with ⟨h1, h2⟩ | ⟨j, e0, h1, h2, h3⟩
  · refine ⟨setBlock w bm (.map (es.push ⟨.int .i64 a, val, clock⟩) (clock + 1)), ?_, ⟨_, _, hset _, ?_, ?_, MapKept.stamped_push hst h2⟩, Chg.setBlock _ _ _, hsz _⟩
    · simp [Instr.mapUpdate, run_underlying ht, MapKept.run_getObj_map hb, K.check w false hkey, h1, MapKept.run_setObj_map _ hb, Result.andThen, ChangeMaps.setBlock]
    · intro e he
      rw [Array.toList_push, List.mem_append, List.mem_singleton] at he
      rcases he with he | rfl
      · exact hkeys e he
      · exact ⟨a, rfl, ha⟩
    · intro b u
      unfold put
      rw [Array.toList_push]
      simp only [List.mem_append, List.mem_singleton]
      by_cases e : b = a
      · subst e
        rw [if_pos rfl]
        constructor
        · intro hu; cases hu; exact ⟨_, .inr rfl, rfl, rfl⟩
        · rintro ⟨e', he | rfl, e1, e2⟩
          · exact absurd e1 (h2 e' he)
          · exact congrArg some e2
      · rw [if_neg e, hg]
        constructor
        · rintro ⟨e', he, e1, e2⟩; exact ⟨e', .inl he, e1, e2⟩
        · rintro ⟨e', he | rfl, e1, e2⟩
          · exact ⟨e', he, e1, e2⟩
          · cases e1; exact absurd rfl e
  · have hj : es[j]? = some e0 := by simpa using h2
    have hmod : ∀ i : Nat, (es.modify j (fun e' => { e' with key := Value.int .i64 a, val := val })).toList[i]? = if j = i then (es.toList[i]?).map (fun e' => { e' with key := Value.int .i64 a, val := val }) else es.toList[i]? := fun i => by
      rw [Array.toList_modify, List.getElem?_modify]
      by_cases e : j = i <;> simp [e]
    have huniq : ∀ i e', es.toList[i]? = some e' → e'.key = .int .i64 a → i = j := fun i e' hi he => by
      have hnd := hst.2.2
      have q1 : (es.toList.map (·.key))[i]? = some (.int .i64 a) := by rw [List.getElem?_map, hi]; exact congrArg some he
      have q2 : (es.toList.map (·.key))[j]? = some (.int .i64 a) := by rw [List.getElem?_map, h2]; exact congrArg some h3
      obtain ⟨l1, l2⟩ := List.getElem?_eq_some_iff.1 q1
      obtain ⟨l3, l4⟩ := List.getElem?_eq_some_iff.1 q2
      have hpw := List.pairwise_iff_getElem.1 hnd
      rcases Nat.lt_trichotomy i j with h | h | h
      · exact absurd (l2.trans l4.symm) (hpw i j l1 l3 h)
      · exact h
      · exact absurd (l4.trans l2.symm) (hpw j i l3 l1 h)
    refine ⟨setBlock w bm (.map (es.modify j (fun e' => { e' with key := .int .i64 a, val := val })) clock), ?_, ⟨_, _, hset _, ?_, ?_, MapKept.stamped_modify hst _ _ (fun _ _ => rfl) (fun e' _ he' => by rw [hj] at he'; cases he'; exact h3.symm)⟩, Chg.setBlock _ _ _, hsz _⟩
    · simp [Instr.mapUpdate, run_underlying ht, MapKept.run_getObj_map hb, K.check w false hkey, h1, hj, h3, K.stays w hkey, MapKept.run_setObj_map _ hb, Result.andThen, ChangeMaps.setBlock]
    · intro e he
      obtain ⟨i, hi⟩ := List.mem_iff_getElem?.1 he
      rw [hmod] at hi
      by_cases ei : j = i
      · subst ei
        rw [if_pos rfl, h2, Option.map_some] at hi
        cases hi; exact ⟨a, rfl, ha⟩
      · rw [if_neg ei] at hi
        exact hkeys e (List.mem_of_getElem? hi)
    · intro b u
      unfold put
      by_cases e : b = a
      · subst e
        rw [if_pos rfl]
        constructor
        · intro hu; cases hu
          exact ⟨_, List.mem_of_getElem? (by rw [hmod, if_pos rfl, h2]; rfl), rfl, rfl⟩
        · rintro ⟨e', he, e1, e2⟩
          obtain ⟨i, hi⟩ := List.mem_iff_getElem?.1 he
          rw [hmod] at hi
          by_cases ei : j = i
          · subst ei
            rw [if_pos rfl, h2, Option.map_some] at hi
            cases hi; exact congrArg some e2
          · rw [if_neg ei] at hi
            exact absurd (huniq i e' hi e1) (fun h => ei h.symm)
      · rw [if_neg e, hg]
        constructor
        · rintro ⟨e', he, e1, e2⟩
          obtain ⟨i, hi⟩ := List.mem_iff_getElem?.1 he
          have ei : ¬ j = i := fun ei => by
            subst ei; rw [h2] at hi; cases hi; rw [h3] at e1; cases e1; exact e rfl
          exact ⟨e', List.mem_of_getElem? (by rw [hmod, if_neg ei]; exact hi), e1, e2⟩
        · rintro ⟨e', he, e1, e2⟩
          obtain ⟨i, hi⟩ := List.mem_iff_getElem?.1 he
          rw [hmod] at hi
          by_cases ei : j = i
          · subst ei
            rw [if_pos rfl, h2, Option.map_some] at hi
            cases hi; cases e1; exact absurd rfl e
          · rw [if_neg ei] at hi
            exact ⟨e', List.mem_of_getElem? hi, e1, e2⟩
theorem iv_lookup {k e : TypeId} {zv : Value} (ht : G.P.underlying t = some (.map k e)) (hk : G.P.underlying k = some (.int .i64)) (hz : ∀ w, (zeroValue e).run G.P w = .ok zv w) {bm : Nat} {g : Int → Option Value} (h : IV w bm g) {a : Int} (ha : (Lit.int .i64 a).wf = true) :
    (Instr.lookup t (.map (some bm)) (.int .i64 a) false).run G.P w = .ok ((g a).getD zv) w := by
  obtain ⟨es, clock, hb, hkeys, hg, hst⟩ := h
  have K := Maps.int_keyed (P := G.P) (k := k) hk
  have hkey := Maps.keyOf_int_mk hk ha
  have hall : ∀ e ∈ es.toList, ∃ l, keyOf G.P k e.key = some l := fun e he => by
    obtain ⟨b, e1, hw⟩ := hkeys e he
    exact ⟨_, by rw [e1]; exact Maps.keyOf_int_mk hk hw⟩
  rcases K.find w hkey es.toList hall with ⟨h1, h2⟩ | ⟨j, e0, h1, h2, h3⟩
  · have hn : g a = none := by
      cases hga : g a with
      | none => rfl
      | some u =>
        obtain ⟨e', he, e1, _⟩ := (hg a u).1 hga
        exact absurd e1 (h2 e' he)
    simp [Instr.lookup, run_underlying ht, MapKept.run_getObj_map hb, K.check w _ hkey, h1, hz, hn]
  · have hs : g a = some e0.val := (hg a e0.val).2 ⟨e0, List.mem_of_getElem? h2, h3, rfl⟩
    simp [Instr.lookup, run_underlying ht, MapKept.run_getObj_map hb, K.check w _ hkey, h1, hs]
end
section
variable {ops : Array Oper} {Q : Exit → Act → World → Prop} {n : Nat} {E : Env} {M M' : List Res} {R : List (World → Prop)} {rest l : List Oper} {op : Op} {d : Nat} {ty : TypeId} {pos : String} {aft : Array Edge} {v : Value} {x y z : Operand} {t : TypeId}
theorem HE.makeMap : HE n (.makeMap t none) E M R (fun _ : Nat => True) (fun b => .map (some b)) (fun b => .iv b (fun _ => none) :: M) (fun _ => R) :=
  ⟨fun w hw => ⟨fun a ha d ty pos aft gd => by
    have hr : (execOp a.eval ⟨d, .makeMap t none, ty, pos, aft, gd⟩).run G.P w = .ok (.value (.map (some w.heap.size))) (w.alloc (.map #[] 0)) := by simp [execOp, Instr.makeMap]
    rw [hr]
    refine ⟨w.heap.size, trivial, rfl, hw.push (q := .iv w.heap.size (fun _ => none)) ((Chg.refl _ _).alloc _) ⟨#[], 0, heap_alloc_new w _, by simp, by simp, by simp [Stamped]⟩ (fun k hk => ?_)⟩
    have : k = w.heap.size := hk
    simp; omega⟩⟩
theorem HE0.mapUpdate {k e : TypeId} {bm : Nat} {g : Int → Option Value} {a : Int} {val : Value} (ht : G.P.underlying t = some (.map k e)) (hk : G.P.underlying k = some (.int .i64)) (hx : ev E x = some (.map (some bm))) (hy : ev E y = some (.int .i64 a)) (hz : ev E z = some val) (ha : R64 a)
    (hM : Up (.iv bm g) (.iv bm (put g a val)) M M') : HE0 n (.mapUpdate t x y z) E M R (fun _ : Unit => True) (fun _ => M') (fun _ => R) :=
  ⟨fun w hw => by
    have hiv : IV w bm g := (hw.m _ hM.mem).1
    obtain ⟨w', hr, h1, h2, h3⟩ := iv_update ht hk hiv (R64_wf ha) val
    refine Eff.ofS (w' := w') (fun ac hac d ty pos aft gd => ?_) ⟨(), trivial, hw.upd hM h2 h1 (fun k hk => ?_)⟩
    · simp [execOp, hac.eval hx, hac.eval hy, hac.eval hz, hr]
    · have : k = bm := hk
      have := hiv.lt
      exact ⟨by omega, fun _ => hk⟩⟩
theorem Yl.lookupH {k e : TypeId} {zv : Value} {bm : Nat} {g : Int → Option Value} {a : Int} (ht : G.P.underlying t = some (.map k e)) (hk : G.P.underlying k = some (.int .i64)) (hzv : ∀ w, (zeroValue e).run G.P w = .ok zv w) (hx : ev E x = some (.map (some bm))) (hy : ev E y = some (.int .i64 a)) (ha : R64 a)
    (hM : Res.iv bm g ∈ M) : Yl G n (.lookup t x y false) E (Ok M R) ((g a).getD zv) :=
  ⟨fun w hw ac hac d ty pos aft gd => by
    have := iv_lookup (t := t) ht hk hzv (hw.m _ hM).1 (R64_wf ha)
    simp [execOp, hac.eval hx, hac.eval hy, this]⟩
theorem OpsS.pure {Mc : List Res} {Rc : List (World → Prop)} {φ : Prop} (hp : ∀ w, Ok M R w → φ) (h : φ → OpsS ops Q Mc Rc n l E M R) : OpsS ops Q Mc Rc n l E M R := ⟨fun w hw => (h (hp w hw)).h w hw⟩
theorem own_one {w : World} {B T s m : Nat} {v : Value} {xs : List Value} (h : w.ownsRow B T s v m xs) : v.oneCell' = true := by obtain ⟨p, c, rfl, _⟩ := own_slice h; rfl
theorem Ok.front {w : World} {q : Res} (h : Ok M R w) (hr : Rm q M M') : Ok (q :: M') R w := by
  refine h.step (Chg.refl _ w) (fun x hx => ?_) (List.pairwise_cons.2 ⟨hr.dis h.d, h.d.sublist hr.sub⟩) (fun k ⟨x, hx, hk⟩ _ => ?_)
  · rcases List.mem_cons.1 hx with rfl | hx
    · exact h.m _ hr.mem
    · exact h.m x (hr.sub.subset hx)
  · rcases List.mem_cons.1 hx with rfl | hx
    · exact ⟨_, hr.mem, hk⟩
    · exact ⟨x, hr.sub.subset hx, hk⟩
theorem OpsH.front {q : Res} (hr : Rm q M M') (h : OpsH ops Q n l E (q :: M') R) : OpsH ops Q n l E M R := ⟨fun w hw => h.h w (hw.front hr)⟩
theorem CdH.front {c : Code} {q : Res} (hr : Rm q M M') (h : CdH Q n c E (q :: M') R) : CdH Q n c E M R := ⟨fun w hw => h.h w (hw.front hr)⟩
theorem Ok.frame {M0 M1 Mr : List Res} {w w' : World} (h : Ok (M0 ++ Mr) R w) (h1 : Ok M1 [] w') (hc : Chg (Mb M0) w w') (ho : ∀ k, Mb M1 k → k < w.heap.size → Mb M0 k) : Ok (M1 ++ Mr) R w' := by
  have hd := List.pairwise_append.1 h.d
  have hmr : ∀ q, q ∈ Mr → ∀ k, q.F k → ¬ Mb M0 k := fun q hq k hk ⟨q0, hq0, hk0⟩ => hd.2.2 q0 hq0 q hq k hk0 hk
  refine h.step (hc.mono fun k _ ⟨q, hq, hk⟩ => ⟨q, List.mem_append_left _ hq, hk⟩) (fun q hq => ?_) (List.pairwise_append.2 ⟨h1.d, hd.2.1, fun a ha b hb k hk hk' => ?_⟩) (fun k ⟨q, hq, hk⟩ hlt => ?_)
  · rcases List.mem_append.1 hq with hq | hq
    · exact h1.m q hq
    · have := h.m q (List.mem_append_right _ hq)
      exact ⟨q.st this.1 hc (fun k _ hk => hmr q hq k hk), fun k hk => Nat.lt_of_lt_of_le (this.2 k hk) hc.size⟩
  · have hlt := (h.m b (List.mem_append_right _ hb)).2 k hk'
    exact hmr b hb k hk' (ho k ⟨a, ha, hk⟩ hlt)
  · rcases List.mem_append.1 hq with hq | hq
    · obtain ⟨q0, hq0, hk0⟩ := ho k ⟨q, hq, hk⟩ hlt
      exact ⟨q0, List.mem_append_left _ hq0, hk0⟩
    · exact ⟨q, List.mem_append_right _ hq, hk⟩
theorem Ok.origin {S : Nat → Prop} {w0 w : World} (h : Ok M R w) (hS : Chg S w0 ∈ R) : ∀ k, Mb M k → k < w0.heap.size → S k := by
  intro k hk hlt
  by_cases hs : S k
  · exact hs
  · exfalso
    have h1 : Chg S w0 w := h.get hS
    have hkw : k < w.heap.size := Nat.lt_of_lt_of_le hlt h1.size
    have key : ∀ o : Obj, w.heap[k]? = some o := fun o => by
      have hc : Chg (Mb M) w (setBlock w k o) := (Chg.setBlock w k o).mono (fun i _ e => by subst e; exact hk)
      have h2 : Chg S w0 (setBlock w k o) := h.r _ hS _ hc
      have e1 := h2.block k hlt hs
      have e2 := h1.block k hlt hs
      rw [e2, ← e1]; simp [ChangeMaps.setBlock, hkw]
    have a := key (.map #[] 0)
    have b := key (.map #[] 1)
    rw [a] at b; cases b
def MutPost {β : Type} (M0 : List Res) (w : World) (tf : β → Value) (φ : β → Prop) (M1 : β → List Res) (e : Ending) (w' : World) : Prop :=
  ∃ x, e = .returned (tf x) ∧ φ x ∧ Ok (M1 x) [] w' ∧ Chg (Mb M0) w w' ∧ ∀ k, Mb (M1 x) k → k < w.heap.size → Mb M0 k
theorem MutPost.of {β : Type} {M0 : List Res} {w w' : World} {tf : β → Value} {φ : β → Prop} {M1 : β → List Res} (x : β) (hφ : φ x) (h : Ok M R w') (hM : M1 x = M) (hR : Chg (Mb M0) w ∈ R) : MutPost M0 w tf φ M1 (.returned (tf x)) w' := by
  subst hM
  exact ⟨x, rfl, hφ, h.sub (List.Sublist.refl _) (fun p hp => absurd hp (by simp)), h.get hR, h.origin hR⟩
theorem HE.callM {β : Type} {M0 Mr : List Res} {tf : β → Value} {φ : β → Prop} {M1 : β → List Res} {f : Nat} {args : List Operand} {tys : Array TypeId} {vs : List Value} (hf : G.fb[f]? = some true) (ha : evs E args = some vs)
    (hc : ∀ w, Ok M0 R w → Calls G.P f vs.toArray w (MutPost M0 w tf φ M1)) : HE n (.call ⟨.value (.func f), args.toArray, tys⟩) E (M0 ++ Mr) R φ tf (fun x => M1 x ++ Mr) (fun _ => R) :=
  HE.call tf hf ha fun w hw => (hc w (hw.sub (List.sublist_append_left _ _) (fun _ h => h))).mono fun _e _w' ⟨x, e1, h1, h2, h3, h4⟩ => ⟨x, e1, h1, hw.frame h2 h3 h4⟩
theorem Ok.startM {w : World} (h : Ok M R w) : Ok M (Chg (Mb M) w :: R) w := h.add fun _ hc => hc
end
end Go.Proofs.YtgbgnipidakdhaaGreatDoor
