/- Walks of the reference of layer 36: Preds. -/
import Derived.Test.YtfeakkicihlplaaR6
namespace Go.Proofs.Ytfeakkicihlplaa
open Go.RowKit

/-- the blocks that lead to block i, among the first k -/
def predTo (bs : List Bk) (i k : Nat) : List Int := ((List.range k).filter (fun j => (ix bs j).next.contains (i : Int))).map (fun j : Nat => (j : Int))
def predsR (bs : List Bk) : List (List Int) := (List.range bs.length).map (fun i => predTo bs i bs.length)
theorem predTo_len (bs : List Bk) (i k : Nat) : (predTo bs i k).length ≤ k := by
  unfold predTo; rw [List.length_map]; have := List.length_filter_le (fun j => (ix bs j).next.contains (i : Int)) (List.range k); simpa using this
theorem predTo_succ (bs : List Bk) (i k : Nat) : predTo bs i (k + 1) = if (ix bs k).next.contains (i : Int) then predTo bs i k ++ [(k : Int)] else predTo bs i k := by
  unfold predTo
  rw [List.range_succ, List.filter_append, List.map_append]
  by_cases h : (ix bs k).next.contains (i : Int) = true
  · rw [if_pos h, List.filter_cons_of_pos (by exact h)]; rfl
  · rw [if_neg h, List.filter_cons_of_neg (by exact h)]; simp

/-- rows of slices of the call's own, read -/
theorem OwnF.rows {base T n : Nat} {w : World} {v : Value} {f : Nat → List Value} (h : OwnF base T 1 w v n f) {F : Nat → Prop} {rs : List (List Int)} {rvs : List Value} (hn : n = rs.length) (hl : n ≤ 1000000000) (hf : ∀ i, i < n → f i = [ix rvs i])
    (hx : ∀ i, i < n → IntsR F w (ix rvs i) (ix rs i)) (hF : ∀ k, v.ownBlock = some k → F k) : RowsR F w v rs := by
  subst hn
  obtain ⟨p, cap, rfl, h1, h2, h3⟩ := h.slice
  refine ⟨p, cap, rfl, by omega, ?_⟩
  by_cases h0 : rs = []
  · exact .inl h0
  · obtain ⟨g, rfl, h4, h5⟩ := h3 (List.length_pos_iff.2 h0)
    refine .inr ⟨g, 0, rfl, hF g rfl, fun i hi => ⟨ix rvs i, ?_, hx i hi⟩⟩
    have := h.cell (i := i) (j := 0) (u := ix rvs i) hi (by rw [hf i hi]; rfl)
    simpa using this

theorem ix_append_left {α : Type} [Inhabited α] {l m : List α} {i : Nat} (h : i < l.length) : ix (l ++ m) i = ix l i := by
  rw [ix_eq h, ix_eq (by rw [List.length_append]; omega), List.getElem_append_left h]
theorem ix_append_last {α : Type} [Inhabited α] {l : List α} {a : α} {i : Nat} (h : i = l.length) : ix (l ++ [a]) i = a := by
  subst h; rw [ix_eq (by simp)]; simp
theorem ix_map_range {α : Type} [Inhabited α] {n : Nat} {f : Nat → α} {i : Nat} (h : i < n) : ix ((List.range n).map f) i = f i := by
  rw [ix_eq (by simpa using h)]; simp
theorem ix_set_same {α : Type} [Inhabited α] {l : List α} {i : Nat} {a : α} (h : i < l.length) : ix (l.set i a) i = a := by
  rw [ix_eq (by simpa using h)]; simp
theorem ix_set_other {α : Type} [Inhabited α] {l : List α} {i j : Nat} {a : α} (h : j ≠ i) : ix (l.set i a) j = ix l j := by
  unfold ix; rw [List.getD_eq_getElem?_getD, List.getD_eq_getElem?_getD, List.getElem?_set_ne (Ne.symm h)]

set_option maxRecDepth 100000 in
theorem ref36_Preds (bs : List Bk) (nvs : List Value) (lv : Value) (w : World) (hb : BlocksN (fun _ => True) w lv bs nvs) (hsm : bs.length ≤ 1000000) :
    Calls G.P 22 #[lv] w fun e w' => ∃ r, e = .returned r ∧ RowsR (fun _ => True) w' r (predsR bs) ∧ Ext w w' := by
  obtain ⟨p, cap, rfl, hl⟩ := hb.slice
  refine enter (G := G) Try.func22 rfl Try.ntmps22 rfl ?_
  refine wgo ?_
  refine Cd.loop (σ := Nat × Value × List Value) (fun s => [(0, .slice p bs.length cap), (3, s.2.1), (4, .int .i64 s.1)])
    (fun s wr => s.1 ≤ bs.length ∧ s.2.2.length = s.1 ∧ OwnF w.heap.size 33 1 wr s.2.1 s.1 (fun j => [ix s.2.2 j]) ∧ (∀ j, j < s.1 → IntsR (fun k => s.2.1.ownBlock ≠ some k) wr (ix s.2.2 j) (predTo bs j bs.length)) ∧ Ext w wr) (fun s => bs.length - s.1) (0, _, []) wsub
    ⟨Nat.zero_le _, rfl, OwnF.nil _ _ _ _ _, fun j hj => by dsimp only at hj; omega, Chg.refl _ _⟩ ?_
  rintro ⟨i, o, rvs⟩ wr ⟨hi, hrl, hown, hrows, hext⟩
  dsimp only at hi hrl hown hrows hext ⊢
  by_cases hlt : i < bs.length
  · refine wgo ?_
    refine Cd.loop (σ := Nat × Value) (fun s => [(0, .slice p bs.length cap), (3, o), (4, .int .i64 i), (5, s.2), (6, .int .i64 s.1)])
      (fun s w2 => s.1 ≤ bs.length ∧ OwnI wr.heap.size w2 s.2 (predTo bs i s.1) ∧ Ext wr w2) (fun s => bs.length - s.1) (0, _) wsub ⟨Nat.zero_le _, OwnI.nil _ _, Chg.refl _ _⟩ ?_
    rintro ⟨k, f⟩ w2 ⟨hk, hf, hx2⟩
    dsimp only at hk hf hx2 ⊢
    have hxw : Ext w w2 := hext.trans hx2
    have hpl := predTo_len bs i k
    by_cases hlt2 : k < bs.length
    · obtain ⟨b, off, rfl, -, hI⟩ := hb.at hlt2
      have hnx := hxw.cell (hI k hlt2).nx
      have hnr : IntsR (fun _ => True) w2 (ix nvs k) (ix bs k).next := (hI k hlt2).next.chg hxw (fun _ _ _ h => h)
      have hps := predTo_succ bs i k
      refine wgo ?_
      refine Ops.call rfl rfl rfl (ref_has _ _ _ w2 hnr) ?_
      rintro _ _ ⟨rfl, rfl⟩
      refine ⟨_, rfl, ?_⟩
      cases hcn : (ix bs k).next.contains (i : Int) with
      | true =>
        rw [hcn, if_pos rfl] at hps
        refine wgo ?_
        refine Ops.e (Eff.buildSlice (cs := [.int .i64 k]) (e := 3) rfl (by kernel_rfl)) rfl ?_
        rintro _ w4 ⟨rfl, hn4⟩
        refine Ops.e (Eff.appI rfl rfl (hf.ext hn4.ext) (by have := hx2.size; have := hn4.size; omega) (hn4.blk.cell rfl) (by omega)) rfl ?_
        rintro v5 w5 ⟨hown5, hc5⟩
        refine wgo ?_
        refine Fin.next (k + 1, v5) wsub ⟨by omega, by rw [hps]; exact hown5, (hx2.trans hn4.ext).trans' hc5 (fun i hi h => by have := (hf.lt i h).1; omega)⟩ (by dsimp only; omega)
      | false =>
        rw [hcn] at hps
        simp only [Bool.false_eq_true, if_false] at hps
        refine wgo ?_
        refine Fin.next (k + 1, f) wsub ⟨by omega, by rw [hps]; exact hf, hx2⟩ (by dsimp only; omega)
    · obtain rfl : k = bs.length := by omega
      obtain ⟨pf, cf, rfl, hcf, hcmf, hgf⟩ := own_slice hf
      refine wgo ?_
      refine Ops.e (Eff.buildSlice (cs := [.slice pf (predTo bs i bs.length).length cf]) (e := 33) rfl (by kernel_rfl)) rfl ?_
      rintro _ w4 ⟨rfl, hn4⟩
      have hx4 : Ext wr w4 := hx2.trans hn4.ext
      refine Ops.e (OwnF.appB (hown.ext hx4) rfl rfl rfl rfl rfl (by decide) (by decide) rfl rfl (by have := hext.size; have := hx4.size; omega) hn4.blk rfl (by simp [Value.oneCell']) (by omega)) rfl ?_
      rintro v5 w5 ⟨hown5, hc5, hb5⟩
      refine wgo ?_
      have hold : ∀ k, o.ownBlock = some k → k < wr.heap.size := fun k hk => (hown.lt k hk).2
      refine Fin.next (i + 1, v5, rvs ++ [.slice pf (predTo bs i bs.length).length cf]) wsub ⟨by omega, by simp [hrl], ?_, ?_, ?_⟩ (by dsimp only; omega)
      · refine hown5.congr (fun j hj => ?_)
        by_cases e : j = i
        · subst e; rw [upd_same, ix_append_last hrl.symm]
        · rw [upd_other _ _ e, ix_append_left (by omega)]
      · intro j hj
        dsimp only at hj ⊢
        by_cases e : j = i
        · subst e
          rw [ix_append_last hrl.symm]
          have h1 := (hf.ext hn4.ext).reads (by omega)
          refine (h1.chg hc5 (fun k hk h1 h2 => ?_)).mono (fun k hk h1 h2 => ?_)
          · have := hold k h2; have := (hf.lt k h1).1; omega
          · rcases hb5 with h | h
            · rw [h] at h2; have := hold k h2; have := (hf.lt k h1).1; omega
            · rw [h] at h2; cases h2; have := (hf.lt _ h1).2; have := hn4.size; omega
        · rw [ix_append_left (by omega)]
          have h1 := (hrows j (by omega)).mono (H := fun k => o.ownBlock ≠ some k ∧ k < wr.heap.size) (fun k hk h => ⟨h, hk⟩)
          refine ((h1.chg hx4 (fun _ _ _ h => h)).chg hc5 (fun k _ h1 h2 => h1.1 h2)).mono (fun k _ h1 h2 => ?_)
          rcases hb5 with h | h
          · rw [h] at h2; exact h1.1 h2
          · rw [h] at h2; cases h2; have := hx4.size; omega
      · exact (hext.trans hx4).trans' hc5 (fun k hk h => by have := (hown.lt k h).1; omega)
  · obtain rfl : i = bs.length := by omega
    refine wgo ?_
    refine Fin.ret1 rfl rfl ⟨_, rfl, ?_, hext⟩
    refine hown.rows (rvs := rvs) (by simp [predsR]) (by omega) (fun _ _ => rfl) (fun j hj => ?_) (fun _ _ => trivial)
    rw [predsR, ix_map_range hj]
    exact (hrows j hj).mono (fun _ _ _ => trivial)
end Go.Proofs.Ytfeakkicihlplaa
