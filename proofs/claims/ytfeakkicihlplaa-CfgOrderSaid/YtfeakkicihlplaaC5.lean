/- Walk of cfg.Preds. -/
import Derived.Test.YtfeakkicihlplaaC4
namespace Go.Proofs.Ytfeakkicihlplaa
open Go.RowKit

/-- the predecessors of r after the blocks below i and m successors of block i -/
def rowsAt (bs : List Bk) (i m r : Nat) : List Int := predTo bs r i ++ (if ((ix bs i).next.take m).contains (r : Int) then [(i : Int)] else [])
theorem predTo_lt {bs : List Bk} {r i : Nat} {a : Int} (h : a ∈ predTo bs r i) : 0 ≤ a ∧ a < i := by
  unfold predTo at h
  obtain ⟨j, hj, rfl⟩ := List.mem_map.1 h
  have := List.mem_range.1 (List.mem_filter.1 hj).1
  omega
theorem rowsAt_has (bs : List Bk) (i m r : Nat) : (rowsAt bs i m r).contains (i : Int) = ((ix bs i).next.take m).contains (r : Int) := by
  unfold rowsAt
  have h1 : (predTo bs r i).contains (i : Int) = false := by
    rw [Bool.eq_false_iff]; intro h
    have := predTo_lt (List.contains_iff_mem.1 h); omega
  cases h : ((ix bs i).next.take m).contains (r : Int) with
  | true => simp
  | false => simp [List.contains_eq_mem] at h1 ⊢; exact h1
theorem rowsAt_zero (bs : List Bk) (i r : Nat) : rowsAt bs i 0 r = predTo bs r i := by simp [rowsAt]
theorem rowsAt_end (bs : List Bk) (i r : Nat) : rowsAt bs i (ix bs i).next.length r = predTo bs r (i + 1) := by
  unfold rowsAt
  rw [List.take_length, predTo_succ]
  split <;> simp
theorem rowsAt_other {bs : List Bk} {i m r : Nat} (hm : m < (ix bs i).next.length) (h : ix (ix bs i).next m ≠ (r : Int)) : rowsAt bs i (m + 1) r = rowsAt bs i m r := by
  unfold rowsAt
  rw [take_succ_ix hm]
  have e : (((ix bs i).next.take m) ++ [ix (ix bs i).next m]).contains (r : Int) = ((ix bs i).next.take m).contains (r : Int) := by
    simp [List.contains_eq_mem]
    intro e; exact absurd e.symm h
  rw [e]
theorem rowsAt_same {bs : List Bk} {i m r : Nat} (hm : m < (ix bs i).next.length) (h : ix (ix bs i).next m = (r : Int)) : rowsAt bs i (m + 1) r = if ((ix bs i).next.take m).contains (r : Int) then rowsAt bs i m r else rowsAt bs i m r ++ [(i : Int)] := by
  unfold rowsAt
  rw [take_succ_ix hm, h]
  have e : (((ix bs i).next.take m) ++ [(r : Int)]).contains (r : Int) = true := by simp
  rw [e]
  cases ((ix bs i).next.take m).contains (r : Int) <;> simp
theorem rowsAt_len (bs : List Bk) (i m r : Nat) : (rowsAt bs i m r).length ≤ i + 1 := by
  have := predTo_len bs r i
  unfold rowsAt
  split <;> simp <;> omega

/-- rows of the call's own, each in a block of its own -/
structure PS (B go n : Nat) (w : World) (rvs : List Value) (row : Nat → List Int) : Prop where
  rl : rvs.length = n
  own : OwnF B 33 1 w (.slice (some ⟨go, 0, none⟩) n n) n (fun j => [ix rvs j])
  rows : ∀ j, j < n → OwnI B w (ix rvs j) (row j)
  sep : ∀ j, j < n → ∀ k, (ix rvs j).ownBlock = some k → k ≠ go ∧ ∀ j', j' < n → j' ≠ j → (ix rvs j').ownBlock ≠ some k

theorem PS.chg {S : Nat → Prop} {B go n : Nat} {w w' : World} {rvs : List Value} {row : Nat → List Int} (h : PS B go n w rvs row) (hc : Chg S w w') (hS : ∀ k, k < w.heap.size → ¬ S k) : PS B go n w' rvs row :=
  ⟨h.rl, h.own.chg hc (fun k hk => hS k (h.own.lt k hk).2), fun j hj => own_chg (h.rows j hj) hc (fun k hk => hS k ((h.rows j hj).lt k hk).2), h.sep⟩
theorem PS.congr {B go n : Nat} {w : World} {rvs : List Value} {row row' : Nat → List Int} (h : PS B go n w rvs row) (e : ∀ j, j < n → row j = row' j) : PS B go n w rvs row' :=
  ⟨h.rl, h.own, fun j hj => by rw [← e j hj]; exact h.rows j hj, h.sep⟩
theorem PS.app {B go n r : Nat} {w w' : World} {rvs : List Value} {row : Nat → List Int} {v' : Value} {l : List Int} (h : PS B go n w rvs row) (hr : r < n) (ho : OwnI B w' v' l) (hc : Chg (fun k => (ix rvs r).ownBlock = some k) w w') (hb : v'.ownBlock = (ix rvs r).ownBlock ∨ v'.ownBlock = some w.heap.size) :
    PS B go n (w'.setCell ⟨go, 0 + r, none⟩ v') (rvs.set r v') (fun j => if j = r then l else row j) ∧ Chg (fun k => k = go) w' (w'.setCell ⟨go, 0 + r, none⟩ v') := by
  have hgo := h.own.lt go rfl
  have hsep := h.sep r hr
  have hown := h.own.chg hc (fun k hk hs => by have e2 : go = k := Option.some.inj hk; exact (hsep k hs).1 e2.symm)
  obtain ⟨hs1, hc1⟩ := hown.set (i := r) (j := 0) hr (by omega) v'
  rw [show 0 + r * 1 + 0 = 0 + r by omega] at hs1 hc1
  have hv : ∀ k, v'.ownBlock = some k → k ≠ go := fun k hk e => by
    rcases hb with e2 | e2
    · rw [e2] at hk; exact (hsep k hk).1 e
    · rw [e2] at hk; cases hk; omega
  have hoth : ∀ j, j < n → j ≠ r → ∀ k, (ix rvs j).ownBlock = some k → v'.ownBlock ≠ some k := fun j hj hjr k hk e => by
    rcases hb with e2 | e2
    · rw [e2] at e; exact (hsep k e).2 j hj hjr hk
    · rw [e2] at e; cases e; have := ((h.rows j hj).lt _ hk).2; omega
  refine ⟨⟨by simpa using h.rl, hs1.congr (fun j hj => ?_), fun j hj => ?_, fun j hj k hk => ?_⟩, hc1⟩
  · by_cases e : j = r
    · subst e; rw [upd_same, ix_set_same (by rw [h.rl]; exact hr)]; rfl
    · rw [upd_other _ _ e, ix_set_other e]
  · by_cases e : j = r
    · subst e
      simp only [if_true]
      rw [ix_set_same (by rw [h.rl]; exact hr)]
      exact own_chg ho hc1 (fun k hk => hv k hk)
    · simp only [if_neg e]
      rw [ix_set_other e]
      exact own_chg (own_chg (h.rows j hj) hc (fun k hk hs => (hsep k hs).2 j hj e hk)) hc1 (fun k hk => (h.sep j hj k hk).1)
  · by_cases e : j = r
    · subst e
      rw [ix_set_same (by rw [h.rl]; exact hr)] at hk
      refine ⟨hv k hk, fun j' hj' hne e2 => ?_⟩
      rw [ix_set_other hne] at e2
      exact hoth j' hj' hne k e2 hk
    · rw [ix_set_other e] at hk
      refine ⟨(h.sep j hj k hk).1, fun j' hj' hne e2 => ?_⟩
      by_cases e3 : j' = r
      · subst e3
        rw [ix_set_same (by rw [h.rl]; exact hr)] at e2
        exact hoth j hj e k hk e2
      · rw [ix_set_other e3] at e2
        exact (h.sep j hj k hk).2 j' hj' hne e2

set_option maxRecDepth 100000 in
theorem cfg_Preds (bs : List Bk) (nvs : List Value) (lv : Value) (w : World) (hb : BlocksN (fun _ => True) w lv bs nvs) (hnl : ∀ i, i < bs.length → (ix bs i).next.length ≤ 1000000000) (hsm : bs.length ≤ 1000000) :
    Calls G.P 21 #[lv] w fun e w' => ∃ r, e = .returned r ∧ RowsR (fun _ => True) w' r (predsR bs) ∧ Ext w w' := by
  obtain ⟨p, cap, rfl, hl⟩ := hb.slice
  refine enter (G := G) Try.func21 rfl Try.ntmps21 rfl ?_
  refine wgo ?_
  refine Ops.e (Eff.make (base := w.heap.size) rfl rfl rfl rfl (by show 24 * bs.length ≤ _; omega) (by unfold maxLen; omega) (Nat.le_refl _)) rfl ?_
  rintro _ w1 ⟨rfl, hm1, hx1, hsz1⟩
  have hps0 : PS w.heap.size w.heap.size bs.length w1 (List.replicate bs.length (.slice none 0 0)) (fun j => rowsAt bs 0 0 j) := by
    have hix : ∀ j, j < bs.length → ix (List.replicate bs.length (Value.slice none 0 0)) j = .slice none 0 0 := fun j hj => by rw [ix_eq (by simpa using hj)]; simp
    refine ⟨by simp, ⟨?_, fun _ _ => rfl⟩, fun j hj => ?_, fun j hj k hk => ?_⟩
    · have h3 : w1.ownsRow w.heap.size 33 1 (.slice (some ⟨w.heap.size, 0, none⟩) bs.length bs.length) bs.length (madeCells #[.slice none 0 0] (bs.length * 1)).toList := hm1
      rw [Nat.mul_one, toList_madeCells_one] at h3
      have e : (List.range bs.length).flatMap (fun j => [ix (List.replicate bs.length (Value.slice none 0 0)) j]) = List.replicate bs.length (.slice none 0 0) := by
        rw [flat_congr (g := fun _ => [Value.slice none 0 0]) (fun j hj => by rw [hix j hj])]
        clear h3 hm1
        induction bs.length with
        | zero => rfl
        | succ n ih => rw [List.range_succ, List.flatMap_append, ih, List.replicate_succ']; rfl
      rw [e]; exact h3
    · rw [hix j hj, rowsAt_zero]; exact OwnI.nil _ _
    · rw [hix j hj] at hk; cases hk
  generalize hgo : w.heap.size = go at hps0
  refine wgo ?_
  refine Cd.loop (σ := Nat × List Value) (fun s => [(0, .slice p bs.length cap), (3, .slice (some ⟨go, 0, none⟩) bs.length bs.length), (11, .slice p bs.length cap), (12, .int .i64 bs.length), (13, .int .i64 s.1)])
    (fun s wr => s.1 ≤ bs.length ∧ PS w.heap.size go bs.length wr s.2 (fun j => predTo bs j s.1) ∧ Ext w wr) (fun s => bs.length - s.1) (0, List.replicate bs.length (.slice none 0 0)) (by rw [← hgo]; exact wsub)
    ⟨Nat.zero_le _, by rw [hgo]; exact hps0.congr (fun j hj => rowsAt_zero bs 0 j), hx1⟩ ?_
  rintro ⟨i, rvs0⟩ wr ⟨hi, hps, hext⟩
  dsimp only at hi hps hext ⊢
  by_cases hlt : i < bs.length
  · obtain ⟨b, off, rfl, -, hI⟩ := hb.at hlt
    have hx := hI i hlt
    obtain ⟨pn, cn, hnv, -⟩ := hx.next.slice
    have h1 := hext.cell hx.fr
    have h2 := hext.cell hx.to
    have h3 := hext.cell hx.live
    have h4 := hext.cell hx.nx
    rw [hnv] at h4
    have hnr : IntsR (fun _ => True) w (.slice pn (ix bs i).next.length cn) (ix bs i).next := by rw [← hnv]; exact hx.next
    have hnli := hnl i hlt
    refine wgo ?_
    refine Ops.y (Yl.loadA (s := 4) (cs := [.int .i64 (ix bs i).fr, .int .i64 (ix bs i).to, .slice pn (ix bs i).next.length cn, .bool (ix bs i).live]) rfl rfl rfl rfl rfl (by
      intro _ hw_; cases hw_; intro j hj
      match j, hj with
      | 0, _ => exact h1
      | 1, _ => exact h2
      | 2, _ => exact h4
      | 3, _ => exact h3)) rfl ?_
    refine Ops.e (Eff.alloc rfl) rfl ?_
    rintro _ w2 ⟨rfl, hn2⟩
    refine wgo ?_
    refine Ops.e0 (Eff.storeB rfl rfl rfl rfl rfl (by simp [Value.oneCell']) hn2.blk rfl) ?_
    rintro _ w3 ⟨hb3, hc3, hs3⟩
    have hx3 : Ext wr w3 := hn2.ext.trans' hc3 (fun k hk e => by omega)
    have hps3 := hps.chg hx3 (fun _ _ h => h)
    have hext3 : Ext w w3 := hext.trans hx3
    have hnc : w3.cell? ⟨wr.heap.size, 0 + 2, none⟩ = _ := hb3.cell (j := 2) rfl
    refine wgo ?_
    refine Cd.loop (σ := Nat × List Value) (fun s => [(0, .slice (some ⟨b, off, none⟩) bs.length cap), (3, .slice (some ⟨go, 0, none⟩) bs.length bs.length), (4, .int .i64 i), (11, .slice (some ⟨b, off, none⟩) bs.length cap), (12, .int .i64 bs.length), (13, .int .i64 i), (19, .slice pn (ix bs i).next.length cn), (20, .int .i64 (ix bs i).next.length), (21, .int .i64 s.1)])
      (fun s wr => s.1 ≤ (ix bs i).next.length ∧ PS w.heap.size go bs.length wr s.2 (rowsAt bs i s.1) ∧ Ext w wr) (fun s => (ix bs i).next.length - s.1) (0, rvs0) wsub
      ⟨Nat.zero_le _, hps3.congr (fun j hj => (rowsAt_zero bs i j).symm), hext3⟩ ?_
    rintro ⟨m, rvs⟩ w4 ⟨hm, hp4, hx4⟩
    dsimp only at hm hp4 hx4 ⊢
    by_cases hlm : m < (ix bs i).next.length
    · obtain ⟨bn, on_, rfl, -, hN⟩ := hnr.at hlm
      have hNk := hx4.cell (hN m hlm)
      have skip : (ix (ix bs i).next m < 0 ∨ (bs.length : Int) ≤ ix (ix bs i).next m) → PS w.heap.size go bs.length w4 rvs (rowsAt bs i (m + 1)) := fun h => hp4.congr (fun j hj => (rowsAt_other hlm (fun e => by omega)).symm)
      have hoth : ∀ r : Nat, ix (ix bs i).next m = (r : Int) → ∀ j, j ≠ r → rowsAt bs i (m + 1) j = rowsAt bs i m j := fun r hr j hj => rowsAt_other hlm (by rw [hr]; omega)
      have hsame : ∀ r : Nat, ix (ix bs i).next m = (r : Int) → _ := fun r hr => rowsAt_same (bs := bs) (i := i) (m := m) (r := r) hlm hr
      generalize ix (ix bs i).next m = a at *
      by_cases ha0 : a < 0
      · refine wgo ?_
        exact Fin.next (m + 1, rvs) wsub ⟨by omega, skip (.inl ha0), hx4⟩ (by dsimp only; omega)
      · by_cases ha1 : (bs.length : Int) ≤ a
        · refine wgo ?_
          exact Fin.next (m + 1, rvs) wsub ⟨by omega, skip (.inr ha1), hx4⟩ (by dsimp only; omega)
        · obtain ⟨r, rfl⟩ := Int.eq_ofNat_of_zero_le (Int.not_lt.1 ha0)
          have hr : r < bs.length := by omega
          have hrow := hp4.rows r hr
          have hrl := rowsAt_len bs i m r
          have hsr := hsame r rfl
          have hor := hoth r rfl
          have hcell : w4.cell? ⟨go, 0 + r, none⟩ = some (ix rvs r) := by
            have := hp4.own.cell (i := r) (j := 0) (u := ix rvs r) hr rfl
            simpa using this
          obtain ⟨pr, cr, hrv, -⟩ := own_slice hrow
          refine wgo ?_
          refine Ops.callg rfl rfl rfl rfl (slices_Contains _ _ _ w4 ((hrow.reads (by omega)).mono (fun _ _ _ => trivial))) ?_
          rintro _ _ ⟨rfl, rfl⟩
          refine ⟨_, rfl, ?_⟩
          have hhas := rowsAt_has bs i m r
          rw [hhas]
          cases hcn : ((ix bs i).next.take m).contains (r : Int) with
          | true =>
            rw [hcn, if_pos rfl] at hsr
            refine wgo ?_
            refine Fin.next (m + 1, rvs) wsub ⟨by omega, hp4.congr (fun j hj => ?_), hx4⟩ (by dsimp only; omega)
            by_cases e : j = r
            · subst e; exact hsr.symm
            · exact (hor j e).symm
          | false =>
            rw [hcn] at hsr
            simp only [Bool.false_eq_true, if_false] at hsr
            rw [hrv] at hcell
            refine wgo ?_
            refine Ops.e (Eff.buildSlice (cs := [.int .i64 i]) (e := 3) rfl (by kernel_rfl)) rfl ?_
            rintro _ w5 ⟨rfl, hn5⟩
            have hp5 := hp4.chg hn5.ext (fun _ _ h => h)
            have hz5 := hn5.size
            have hz4 := hx4.size
            have hrow5 := hp5.rows r hr
            rw [hrv] at hrow5
            refine Ops.e (Eff.appIB rfl rfl hrow5 (by omega) (hn5.blk.cell rfl) (by omega)) rfl ?_
            rintro v6 w6 ⟨hown6, hc6, hb6⟩
            rw [← hrv] at hc6 hb6
            obtain ⟨hp7, hc7⟩ := hp5.app hr hown6 hc6 hb6
            obtain ⟨p6, k6, rfl, -⟩ := own_slice hown6
            have hgo6 : w6.cell? ⟨go, 0 + r, none⟩ = some (ix rvs r) := hc6.cell (fun e => ((hp5.sep r hr _ e).1 rfl)) (by rw [hrv]; exact hn5.ext.cell hcell)
            refine wgo ?_
            refine Ops.e0 (Eff.store rfl rfl rfl rfl rfl hgo6 ((hp5.own.chg hc6 (fun k hk hs => by have e2 : go = k := Option.some.inj hk; exact (hp5.sep r hr k hs).1 e2.symm)).free _)) ?_
            rintro _ w7 hw7
            rw [← hw7] at hp7 hc7
            refine wgo ?_
            refine Fin.next (m + 1, _) wsub ⟨by omega, hp7.congr (fun j hj => ?_), ?_⟩ (by dsimp only; omega)
            · by_cases e : j = r
              · subst e; simp only [if_true]; exact hsr.symm
              · simp only [if_neg e]; exact (hor j e).symm
            · refine ((hx4.trans hn5.ext).trans' hc6 (fun k hk e => ?_)).trans' hc7 (fun k hk e => by omega)
              have := (hrow.lt k e).1; omega
    · obtain rfl : m = (ix bs i).next.length := by omega
      refine wgo ?_
      exact Fin.next (i + 1, rvs) wsub ⟨by omega, hp4.congr (fun j hj => rowsAt_end bs i j), hx4⟩ (by dsimp only; omega)
  · obtain rfl : i = bs.length := by omega
    refine wgo ?_
    refine Fin.ret1 rfl rfl ⟨_, rfl, ?_, hext⟩
    refine hps.own.rows (rvs := rvs0) (by simp [predsR]) (by omega) (fun _ _ => rfl) (fun j hj => ?_) (fun _ _ => trivial)
    rw [predsR, ix_map_range hj]
    exact ((hps.rows j hj).reads (by have := predTo_len bs j bs.length; omega)).mono (fun _ _ _ => trivial)
end Go.Proofs.Ytfeakkicihlplaa
