/- Walks of the reference of layer 36: begins, to, done, after. -/
import Derived.Test.YtmkgfccfnpmcjaaGreatDoorJR4
import Derived.Test.YtmkgfccfnpmcjaaGreatDoorJS
namespace Go.Proofs.YtmkgfccfnpmcjaaGreatDoor
open Go.RowKit

/-- a block begins at p -/
def startB (xs : List Ins) (p : Nat) : Bool := p == 0 || (ix xs p).op == 11 || endsB (ix xs (p - 1)).op

theorem ref36_begins (xs : List Ins) (v : Value) (p : Nat) (w : World) (hb : Body w v xs) (hp : p < xs.length) :
    Calls G.P 79 #[v, .int .i64 p] w fun e w' => e = .returned (.bool (startB xs p)) ∧ w = w' := by
  obtain ⟨q, cap, rfl, hl⟩ := hb.slice
  obtain ⟨b, off, rfl, -, hI⟩ := hb.at hp
  have hop := (hI p hp).op
  refine enter (G := G) Tryz.func79 rfl Tryz.ntmps79 rfl ?_
  by_cases h0 : p = 0
  · refine wgo ?_
    exact Fin.ret1 rfl rfl ⟨by simp [startB, h0], rfl⟩
  · by_cases h11 : (ix xs p).op = 11
    · refine wgo ?_
      exact Fin.ret1 rfl rfl ⟨by simp [startB, h11], rfl⟩
    · obtain ⟨m, rfl⟩ : ∃ m, p = m + 1 := ⟨p - 1, by omega⟩
      have hop2 := (hI m (by omega)).op
      refine wgo ?_
      refine Ops.y (Yl.idx rfl rfl rfl rfl rfl (i := m) (by omega) (by omega)) rfl ?_
      have hs : startB xs (m + 1) = endsB (ix xs m).op := by simp [startB, h11]
      rw [hs]
      generalize (ix xs m).op = op at *
      rcases (show op = 3 ∨ op = 4 ∨ op = 5 ∨ op = 12 ∨ op = 13 ∨ op = 14 ∨ op = 15 ∨ op = 0 ∨ (op ≠ 3 ∧ op ≠ 4 ∧ op ≠ 5 ∧ op ≠ 12 ∧ op ≠ 13 ∧ op ≠ 14 ∧ op ≠ 15 ∧ op ≠ 0) from by omega) with hc_ | hc_ | hc_ | hc_ | hc_ | hc_ | hc_ | hc_ | ⟨hc3_, hc4_, hc5_, hc12_, hc13_, hc14_, hc15_, hc0_⟩
      all_goals
        refine wgo ?_
        refine Fin.ret1 rfl rfl ⟨?_, rfl⟩
        simp [endsB, *]

/-- where a branch goes, or -1 -/
def toR (xs : List Ins) (p : Nat) (l : Int) : Int := (targetR xs p l).getD (-1)

theorem ref36_to (xs : List Ins) (v : Value) (p : Nat) (l : Int) (w : World) (hb : Body w v xs) (hok : (checkR xs).2 = 0) (hp : p < xs.length) :
    Calls G.P 111 #[v, .int .i64 p, .int .i64 l] w fun e w' => e = .returned (.int .i64 (toR xs p l)) ∧ Ext w w' := by
  obtain ⟨q, cap, rfl, hl⟩ := hb.slice
  refine enter (G := G) Tryz.func111 rfl Tryz.ntmps111 rfl ?_
  refine wgo ?_
  refine Ops.call rfl rfl rfl (ref09_Target xs _ p l w hb hok hp) ?_
  rintro _ w1 ⟨rfl, hx1⟩
  refine ⟨_, rfl, ?_⟩
  cases ht : targetR xs p l with
  | none =>
    simp only [Option.getD_none, Option.isSome_none]
    refine wgo ?_
    exact Fin.ret1 rfl rfl ⟨by simp [toR, ht], hx1⟩
  | some a =>
    simp only [Option.getD_some, Option.isSome_some]
    refine wgo ?_
    exact Fin.ret1 rfl rfl ⟨by simp [toR, ht], hx1⟩

/-- the end of the if whose else stands at p -/
def doneFrom (xs : List Ins) (p : Int) : Nat → Nat → Int
  | 0, _ => -1
  | f + 1, i => if ix (elsesR xs) i = p then ix (endsR xs) i else doneFrom xs p f (i + 1)
def doneR (xs : List Ins) (p : Nat) : Int := doneFrom xs p xs.length 0

theorem elsesR_len (xs : List Ins) : (elsesR xs).length = xs.length := elsesTo_len xs _
theorem endsR_len (xs : List Ins) : (endsR xs).length = xs.length := endsTo_len xs _

theorem ref36_done (xs : List Ins) (v : Value) (p : Nat) (w : World) (hb : Body w v xs) (hok : (checkR xs).2 = 0) :
    Calls G.P 110 #[v, .int .i64 p] w fun e w' => e = .returned (.int .i64 (doneR xs p)) ∧ Ext w w' := by
  obtain ⟨q, cap, rfl, hl⟩ := hb.slice
  refine enter (G := G) Tryz.func110 rfl Tryz.ntmps110 rfl ?_
  refine wgo ?_
  refine Ops.call rfl rfl rfl (ref09_Elses xs _ w hb hok) ?_
  rintro _ w1 ⟨r, rfl, hown, hx1⟩
  refine ⟨_, rfl, ?_⟩
  obtain ⟨pr, cr, rfl, hcr, hcm, hg⟩ := own_slice hown
  have hel := elsesR_len xs
  refine wgo ?_
  refine Cd.loop (σ := Nat) (fun k => [(0, .slice q xs.length cap), (1, .int .i64 p), (5, .slice pr (elsesR xs).length cr), (6, .int .i64 k)]) (fun k wr => k ≤ xs.length ∧ doneR xs p = doneFrom xs p (xs.length - k) k ∧ wr = w1) (fun k => xs.length - k) 0 wsub ⟨Nat.zero_le _, rfl, rfl⟩ ?_
  rintro k wr ⟨hk, hn, rfl⟩
  by_cases hlt : k < xs.length
  · rw [show xs.length - k = (xs.length - (k + 1)) + 1 by omega, doneFrom] at hn
    obtain ⟨g, rfl, hg1, hg2⟩ := hg (by omega)
    have hc := hown.get (i := k) (by omega)
    by_cases he : ix (elsesR xs) k = p
    · rw [if_pos he] at hn
      refine wgo ?_
      refine Ops.call rfl rfl rfl (ref09_Ends xs _ wr (hb.ext hx1) hok) ?_
      rintro _ w2 ⟨r2, rfl, hown2, hx2⟩
      refine ⟨_, rfl, ?_⟩
      have hen := endsR_len xs
      obtain ⟨pe, ce, rfl, hce, hcme, hge⟩ := own_slice hown2
      obtain ⟨g2, rfl, hg3, hg4⟩ := hge (by omega)
      have hc2 := hown2.get (i := k) (by omega)
      refine wgo ?_
      exact Fin.ret1 rfl rfl ⟨by rw [hn], hx1.trans hx2⟩
    · rw [if_neg he] at hn
      refine wgo ?_
      exact Fin.next (k + 1) wsub ⟨by omega, hn, rfl⟩ (by omega)
  · rw [show xs.length - k = 0 by omega, doneFrom] at hn
    refine wgo ?_
    exact Fin.ret1 rfl rfl ⟨by rw [hn], hx1⟩

/-- the cells of an instruction -/
def insC (x : Ins) (tv lv : Value) : List Value := [.int .i64 x.op, .int .i64 x.a, .int .i64 x.b, .int .u64 x.n, .int .i64 x.kind, .int .i64 x.val, .int .i64 x.index, tv, lv]
theorem InsR.cells {F : Nat → Prop} {w : World} {b o : Nat} {x : Ins} (h : InsR F w b o x) : ∃ pt ct pl cl, IntsR F w (.slice pt x.types.length ct) x.types ∧ IntsR F w (.slice pl x.labels.length cl) x.labels ∧
    ∀ j, j < 9 → w.cell? ⟨b, o + j, none⟩ = (insC x (.slice pt x.types.length ct) (.slice pl x.labels.length cl))[j]? := by
  obtain ⟨tv, h1, h2⟩ := h.types
  obtain ⟨lv, h3, h4⟩ := h.labels
  obtain ⟨pt, ct, rfl, _⟩ := h2.slice
  obtain ⟨pl, cl, rfl, _⟩ := h4.slice
  refine ⟨pt, ct, pl, cl, h2, h4, fun j hj => ?_⟩
  match j, hj with
  | 0, _ => exact h.op
  | 1, _ => exact h.a
  | 2, _ => exact h.b
  | 3, _ => exact h.n
  | 4, _ => exact h.kind
  | 5, _ => exact h.val
  | 6, _ => exact h.index
  | 7, _ => exact h1
  | 8, _ => exact h3

/-- the places at which the body goes on behind p -/
def afterR (xs : List Ins) (p : Nat) : List Int :=
  let x := ix xs p
  if x.op = 4 then (if 0 ≤ ix (elsesR xs) p then [(p : Int) + 1, ix (elsesR xs) p + 1] else [(p : Int) + 1, ix (endsR xs) p])
  else if x.op = 5 then [doneR xs p]
  else if x.op = 12 then [toR xs p x.a]
  else if x.op = 13 then [toR xs p x.a, (p : Int) + 1]
  else if x.op = 14 then x.labels.map (toR xs p) ++ [toR xs p x.a]
  else if x.op = 15 ∨ x.op = 0 then []
  else if xs.length ≤ p + 1 then [] else [(p : Int) + 1]

theorem elsesTo_rng (xs : List Ins) (k : Nat) (hk : k ≤ xs.length) : ∀ a ∈ elsesTo xs k, -1 ≤ a ∧ a < xs.length := by
  induction k with
  | zero => intro a ha; simp [elsesTo] at ha; omega
  | succ k ih =>
    intro a ha
    simp only [elsesTo] at ha
    split at ha
    · rcases List.mem_or_eq_of_mem_set ha with h | h
      · exact ih (by omega) a h
      · omega
    · exact ih (by omega) a ha
theorem endsTo_rng (xs : List Ins) (k : Nat) (hk : k ≤ xs.length) : ∀ a ∈ endsTo xs k, -1 ≤ a ∧ a < xs.length := by
  induction k with
  | zero => intro a ha; simp [endsTo] at ha; omega
  | succ k ih =>
    intro a ha
    simp only [endsTo] at ha
    split at ha
    · rcases List.mem_or_eq_of_mem_set ha with h | h
      · exact ih (by omega) a h
      · omega
    · exact ih (by omega) a ha
theorem elsesR_rng {xs : List Ins} {p : Nat} (hp : p < xs.length) : -1 ≤ ix (elsesR xs) p ∧ ix (elsesR xs) p < xs.length := by
  have : p < (elsesR xs).length := by rw [elsesR_len]; exact hp
  exact elsesTo_rng xs xs.length (Nat.le_refl _) _ (by rw [ix_eq this]; exact List.getElem_mem _)
theorem endsR_rng {xs : List Ins} {p : Nat} (hp : p < xs.length) : -1 ≤ ix (endsR xs) p ∧ ix (endsR xs) p < xs.length := by
  have : p < (endsR xs).length := by rw [endsR_len]; exact hp
  exact endsTo_rng xs xs.length (Nat.le_refl _) _ (by rw [ix_eq this]; exact List.getElem_mem _)

set_option maxRecDepth 100000 in
theorem ref36_after (xs : List Ins) (v : Value) (p : Nat) (w : World) (hb : Body w v xs) (hok : (checkR xs).2 = 0) (hp : p < xs.length) (hlab : (ix xs p).labels.length ≤ 1000000) :
    Calls G.P 80 #[v, .int .i64 p] w fun e w' => ∃ r, e = .returned r ∧ OwnI w.heap.size w' r (afterR xs p) ∧ Ext w w' := by
  obtain ⟨q, cap, rfl, hl⟩ := hb.slice
  obtain ⟨b, off, rfl, -, hI⟩ := hb.at hp
  obtain ⟨pt, ct, pl, cl, hti, hli, hcells⟩ := (hI p hp).cells
  have hA : afterR xs p = if (ix xs p).op = 4 then (if 0 ≤ ix (elsesR xs) p then [(p : Int) + 1, ix (elsesR xs) p + 1] else [(p : Int) + 1, ix (endsR xs) p])
    else if (ix xs p).op = 5 then [doneR xs p]
    else if (ix xs p).op = 12 then [toR xs p (ix xs p).a]
    else if (ix xs p).op = 13 then [toR xs p (ix xs p).a, (p : Int) + 1]
    else if (ix xs p).op = 14 then (ix xs p).labels.map (toR xs p) ++ [toR xs p (ix xs p).a]
    else if (ix xs p).op = 15 ∨ (ix xs p).op = 0 then []
    else if xs.length ≤ p + 1 then [] else [(p : Int) + 1] := rfl
  have hra := (hI p hp).ra
  unfold R64 at hra
  refine enter (G := G) Tryz.func80 rfl Tryz.ntmps80 rfl ?_
  refine wgo ?_
  refine Ops.y (Yl.loadA (s := 9) rfl rfl rfl rfl rfl (by intro _ hw_; cases hw_; exact hcells)) rfl ?_
  refine Ops.e (Eff.alloc rfl) rfl ?_
  rintro _ w1 ⟨rfl, hn1⟩
  refine Ops.e0 (Eff.storeB rfl rfl rfl rfl rfl (by simp [insC, Value.oneCell']) hn1.blk rfl) ?_
  rintro _ w2 ⟨hb2, hc2, hs2⟩
  have hx2 : Ext w w2 := hn1.ext.trans' hc2 (fun i hi e => by omega)
  have hsz2 : w.heap.size < w2.heap.size := by have := hn1.size; omega
  generalize hgb : w.heap.size = gb at *
  have hop : w2.cell? ⟨gb, 0, none⟩ = some (.int .i64 (ix xs p).op) := hb2.cell rfl
  have hla : w2.cell? ⟨gb, 0 + 1, none⟩ = some (.int .i64 (ix xs p).a) := hb2.cell rfl
  have hll : w2.cell? ⟨gb, 0 + 8, none⟩ = some (.slice pl (ix xs p).labels.length cl) := hb2.cell rfl
  have hbody : Body w2 _ xs := hb.ext hx2
  refine wgo ?_
  rcases (show (ix xs p).op = 4 ∨ (ix xs p).op = 5 ∨ (ix xs p).op = 12 ∨ (ix xs p).op = 13 ∨ (ix xs p).op = 14 ∨ ((ix xs p).op = 15 ∨ (ix xs p).op = 0) ∨ ((ix xs p).op ≠ 4 ∧ (ix xs p).op ≠ 5 ∧ (ix xs p).op ≠ 12 ∧ (ix xs p).op ≠ 13 ∧ (ix xs p).op ≠ 14 ∧ (ix xs p).op ≠ 15 ∧ (ix xs p).op ≠ 0) from by omega) with h4 | h5 | h12 | h13 | h14 | h15 | h0
  · rw [if_pos h4] at hA
    refine wgo ?_
    refine Ops.call rfl rfl rfl (ref09_Elses xs _ w2 hbody hok) ?_
    rintro _ w3 ⟨r, rfl, hown, hx3⟩
    refine ⟨_, rfl, ?_⟩
    have hel := elsesR_len xs
    obtain ⟨pr, cr, rfl, hcr, hcm, hg⟩ := own_slice hown
    obtain ⟨g, rfl, hg1, hg2⟩ := hg (by omega)
    have hc := hown.get (i := p) (by omega)
    have hr := elsesR_rng hp
    by_cases h : 0 ≤ ix (elsesR xs) p
    · rw [if_pos h] at hA
      refine wgo ?_
      refine Ops.e (Eff.buildSlice (cs := [.int .i64 ((p : Int) + 1), .int .i64 (ix (elsesR xs) p + 1)]) (e := 3) rfl (by kernel_rfl)) rfl ?_
      rintro _ w4 ⟨rfl, hn4⟩
      refine wgo ?_
      refine Fin.ret1 rfl rfl ⟨_, rfl, ?_, (hx2.trans hx3).trans hn4.ext⟩
      rw [hA]; exact OwnI.ofNew hn4 rfl (by have := hx2.size; have := hx3.size; omega) (by simp [maxLen])
    · rw [if_neg h] at hA
      refine wgo ?_
      refine Ops.call rfl rfl rfl (ref09_Ends xs _ w3 (hbody.ext hx3) hok) ?_
      rintro _ w4 ⟨r2, rfl, hown2, hx4⟩
      refine ⟨_, rfl, ?_⟩
      have hen := endsR_len xs
      obtain ⟨pe, ce, rfl, hce, hcme, hge⟩ := own_slice hown2
      obtain ⟨g2, rfl, hg3, hg4⟩ := hge (by omega)
      have hc2 := hown2.get (i := p) (by omega)
      refine wgo ?_
      refine Ops.e (Eff.buildSlice (cs := [.int .i64 ((p : Int) + 1), .int .i64 (ix (endsR xs) p)]) (e := 3) rfl (by kernel_rfl)) rfl ?_
      rintro _ w5 ⟨rfl, hn5⟩
      refine wgo ?_
      refine Fin.ret1 rfl rfl ⟨_, rfl, ?_, ((hx2.trans hx3).trans hx4).trans hn5.ext⟩
      rw [hA]; exact OwnI.ofNew hn5 rfl (by have := hx2.size; have := hx3.size; have := hx4.size; omega) (by simp [maxLen])
  · rw [if_neg (by omega), if_pos h5] at hA
    refine wgo ?_
    refine Ops.call rfl rfl rfl (ref36_done xs _ p w2 hbody hok) ?_
    rintro _ w3 ⟨rfl, hx3⟩
    refine ⟨_, rfl, ?_⟩
    refine Ops.e (Eff.buildSlice (cs := [.int .i64 (doneR xs p)]) (e := 3) rfl (by kernel_rfl)) rfl ?_
    rintro _ w4 ⟨rfl, hn4⟩
    refine wgo ?_
    refine Fin.ret1 rfl rfl ⟨_, rfl, ?_, (hx2.trans hx3).trans hn4.ext⟩
    rw [hA]; exact OwnI.ofNew hn4 rfl (by have := hx2.size; have := hx3.size; omega) (by simp [maxLen])
  · rw [if_neg (by omega), if_neg (by omega), if_pos h12] at hA
    refine wgo ?_
    refine Ops.call rfl rfl rfl (ref36_to xs _ p _ w2 hbody hok hp) ?_
    rintro _ w3 ⟨rfl, hx3⟩
    refine ⟨_, rfl, ?_⟩
    refine Ops.e (Eff.buildSlice (cs := [.int .i64 (toR xs p (ix xs p).a)]) (e := 3) rfl (by kernel_rfl)) rfl ?_
    rintro _ w4 ⟨rfl, hn4⟩
    refine wgo ?_
    refine Fin.ret1 rfl rfl ⟨_, rfl, ?_, (hx2.trans hx3).trans hn4.ext⟩
    rw [hA]; exact OwnI.ofNew hn4 rfl (by have := hx2.size; have := hx3.size; omega) (by simp [maxLen])
  · rw [if_neg (by omega), if_neg (by omega), if_neg (by omega), if_pos h13] at hA
    refine wgo ?_
    refine Ops.call rfl rfl rfl (ref36_to xs _ p _ w2 hbody hok hp) ?_
    rintro _ w3 ⟨rfl, hx3⟩
    refine ⟨_, rfl, ?_⟩
    refine wgo ?_
    refine Ops.e (Eff.buildSlice (cs := [.int .i64 (toR xs p (ix xs p).a), .int .i64 ((p : Int) + 1)]) (e := 3) rfl (by kernel_rfl)) rfl ?_
    rintro _ w4 ⟨rfl, hn4⟩
    refine wgo ?_
    refine Fin.ret1 rfl rfl ⟨_, rfl, ?_, (hx2.trans hx3).trans hn4.ext⟩
    rw [hA]; exact OwnI.ofNew hn4 rfl (by have := hx2.size; have := hx3.size; omega) (by simp [maxLen])
  · rw [if_neg (by omega), if_neg (by omega), if_neg (by omega), if_neg (by omega), if_pos h14] at hA
    refine wgo ?_
    refine Cd.loop (σ := Nat × Value) (fun s => [(0, .slice (some ⟨b, off, none⟩) xs.length cap), (1, .int .i64 p), (5, .pointer (some ⟨gb, 0, none⟩)), (7, s.2), (8, .int .i64 s.1)]) (fun s wr => s.1 ≤ (ix xs p).labels.length ∧ OwnI w2.heap.size wr s.2 (((ix xs p).labels.take s.1).map (toR xs p)) ∧ Ext w2 wr) (fun s => (ix xs p).labels.length - s.1) (0, _) wsub
      ⟨Nat.zero_le _, OwnI.nil _ _, Chg.refl _ _⟩ ?_
    rintro ⟨k, o⟩ wr ⟨hk, hown, hext⟩
    dsimp only at hk hown hext ⊢
    have hl2 := hext.cell hll
    have ha2 := hext.cell hla
    have hcount : (((ix xs p).labels.take k).map (toR xs p)).length = k := by simp; omega
    by_cases hlt : k < (ix xs p).labels.length
    · obtain ⟨bl, ol, rfl, -, hL⟩ := hli.at hlt
      have hlk := hext.cell (hx2.cell (hL k hlt))
      refine wgo ?_
      refine Ops.call rfl rfl rfl (ref36_to xs _ p _ wr (hbody.ext hext) hok hp) ?_
      rintro _ w3 ⟨rfl, hx3⟩
      refine ⟨_, rfl, ?_⟩
      refine Ops.e (Eff.buildSlice (cs := [.int .i64 (toR xs p (ix (ix xs p).labels k))]) (e := 3) rfl (by kernel_rfl)) rfl ?_
      rintro _ w4 ⟨rfl, hn4⟩
      refine Ops.e (Eff.appI rfl rfl ((hown.ext hx3).ext hn4.ext) (by have := hext.size; have := hx3.size; have := hn4.size; omega) (hn4.blk.cell rfl) (by rw [hcount]; omega)) rfl ?_
      rintro v5 w5 ⟨hown5, hc5⟩
      refine wgo ?_
      refine Fin.next (k + 1, _) wsub ⟨by omega, ?_, ((hext.trans hx3).trans hn4.ext).trans' hc5 (fun i hi h => by have := (hown.lt i h).1; omega)⟩ (by dsimp only; omega)
      dsimp only
      rw [take_succ_ix hlt, List.map_append]; exact hown5
    · obtain rfl : k = (ix xs p).labels.length := by omega
      rw [List.take_length] at hown hcount
      refine wgo ?_
      refine Ops.call rfl rfl rfl (ref36_to xs _ p _ wr (hbody.ext hext) hok hp) ?_
      rintro _ w3 ⟨rfl, hx3⟩
      refine ⟨_, rfl, ?_⟩
      refine Ops.e (Eff.buildSlice (cs := [.int .i64 (toR xs p (ix xs p).a)]) (e := 3) rfl (by kernel_rfl)) rfl ?_
      rintro _ w4 ⟨rfl, hn4⟩
      refine Ops.e (Eff.appI rfl rfl ((hown.ext hx3).ext hn4.ext) (by have := hext.size; have := hx3.size; have := hn4.size; omega) (hn4.blk.cell rfl) (by rw [hcount]; omega)) rfl ?_
      rintro v5 w5 ⟨hown5, hc5⟩
      refine wgo ?_
      refine Fin.ret1 rfl rfl ⟨_, rfl, ?_, hx2.trans (((hext.trans hx3).trans hn4.ext).trans' hc5 (fun i hi h => by have := (hown.lt i h).1; omega))⟩
      rw [hA]
      exact own_base hown5 (fun k hk => by have := (hown5.lt k hk).1; omega)
  · rw [if_neg (by omega), if_neg (by omega), if_neg (by omega), if_neg (by omega), if_neg (by omega), if_pos h15] at hA
    rcases h15 with h15 | h15
    all_goals
      refine wgo ?_
      exact Fin.ret1 rfl rfl ⟨_, rfl, by rw [hA]; exact OwnI.nil _ _, hx2⟩
  · rw [if_neg (by omega), if_neg (by omega), if_neg (by omega), if_neg (by omega), if_neg (by omega), if_neg (by omega)] at hA
    by_cases hle : xs.length ≤ p + 1
    · rw [if_pos hle] at hA
      refine wgo ?_
      exact Fin.ret1 rfl rfl ⟨_, rfl, by rw [hA]; exact OwnI.nil _ _, hx2⟩
    · rw [if_neg hle] at hA
      refine wgo ?_
      refine Ops.e (Eff.buildSlice (cs := [.int .i64 ((p : Int) + 1)]) (e := 3) rfl (by kernel_rfl)) rfl ?_
      rintro _ w4 ⟨rfl, hn4⟩
      refine wgo ?_
      refine Fin.ret1 rfl rfl ⟨_, rfl, ?_, hx2.trans hn4.ext⟩
      rw [hA]; exact OwnI.ofNew hn4 rfl (by have := hx2.size; omega) (by simp [maxLen])
end Go.Proofs.YtmkgfccfnpmcjaaGreatDoor
