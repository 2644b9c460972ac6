/- Walks of goer.labels; the plain law of an else's end. -/
import Derived.Test.YtfeakkicihlplaaN3
namespace Go.Proofs.Ytfeakkicihlplaa
open Go.RowKit

/-- what labels gives -/
def LabPost (w : World) (xs : List Ins) (a : Nat) (ls : List Int) (e : Ending) (w' : World) : Prop :=
  Ext w w' ∧ (((∀ t ∈ ls, (targetR xs a t).isSome = true) ∧ ∃ r, e = .returned (.tuple #[r, .bool true]) ∧ OwnI w.heap.size w' r (ls.map (toR xs a))) ∨ ((∃ t ∈ ls, (targetR xs a t).isSome = false) ∧ e = .returned (.tuple #[.slice none 0 0, .bool false])))

theorem goer_labels (xs : List Ins) (bv v2 v3 v4 : Value) (a : Nat) (ls : List Int) (lv : Value) (w : World) (hb : Body w bv xs) (hsm : xs.length ≤ 1000000000) (hok : (checkR xs).2 = 0) (ha : a < xs.length) (hl : IntsR (fun _ => True) w lv ls) (hll : ls.length ≤ 1000000000)
    (hcs : (Value.agg #[bv, v2, v3, v4]).cells = #[bv, v2, v3, v4]) :
    Calls G.P 45 #[.agg #[bv, v2, v3, v4], .int .i64 a, lv] w (LabPost w xs a ls) := by
  obtain ⟨p, cap, rfl, -⟩ := hl.slice
  refine enter (G := G) Try.func45 rfl Try.ntmps45 rfl ?_
  refine wgo ?_
  refine Ops.e (Eff.box (cs := [bv, v2, v3, v4]) rfl hcs) rfl ?_
  rintro _ w1 ⟨rfl, hn1⟩
  have hz1 := hn1.size
  refine wgo ?_
  refine Cd.loop (σ := Nat × Value) (fun s => [(1, .int .i64 a), (3, .pointer (some ⟨w.heap.size, 0, none⟩)), (8, s.2), (13, .slice p ls.length cap), (14, .int .i64 ls.length), (15, .int .i64 s.1)])
    (fun s wr => s.1 ≤ ls.length ∧ OwnI w.heap.size wr s.2 ((ls.take s.1).map (toR xs a)) ∧ (∀ k, s.2.ownBlock = some k → k ≠ w.heap.size) ∧ (∀ t ∈ ls.take s.1, (targetR xs a t).isSome = true) ∧ Ext w wr ∧ Blk wr w.heap.size [bv, v2, v3, v4] 63) (fun s => ls.length - s.1) (0, _) wsub
    ⟨Nat.zero_le _, OwnI.nil _ _, fun k hk => (by cases hk), fun t ht => by simp at ht, hn1.ext, hn1.blk⟩ ?_
  rintro ⟨k, o⟩ wr ⟨hk, hown, hne, hall, hext, hblk⟩
  dsimp only at hk hown hext hall hne ⊢
  by_cases hlt : k < ls.length
  · obtain ⟨b, off, rfl, -, hI⟩ := hl.at hlt
    have hc := hext.cell (hI k hlt)
    have hg : wr.cell? ⟨w.heap.size, 0, none⟩ = some bv := hblk.cell rfl
    refine wgo ?_
    refine Ops.call rfl rfl rfl (nest_Target xs bv a (ix ls k) wr (hb.ext hext) hsm hok ha) ?_
    rintro _ w2 ⟨rfl, hx2⟩
    refine ⟨_, rfl, ?_⟩
    have hext2 : Ext w w2 := hext.trans hx2
    cases hT : (targetR xs a (ix ls k)).isSome with
    | false =>
      refine wgo ?_
      exact Fin.ret2 rfl rfl rfl ⟨hext2, .inr ⟨⟨ix ls k, by rw [ix_eq hlt]; exact List.getElem_mem _, hT⟩, rfl⟩⟩
    | true =>
      refine wgo ?_
      refine Ops.e (Eff.buildSlice (cs := [.int .i64 ((targetR xs a (ix ls k)).getD 0)]) (e := 3) rfl (by kernel_rfl)) rfl ?_
      rintro _ w3 ⟨rfl, hn3⟩
      have hx3 : Ext wr w3 := hx2.trans hn3.ext
      have hsz := hext.size
      have hsz3 := hx3.size
      refine Ops.e (Eff.appIB rfl rfl (hown.ext hx3) (by omega) (hn3.blk.cell rfl) (by simp; omega)) rfl ?_
      rintro v5 w5 ⟨hown5, hc5, hb5⟩
      refine wgo ?_
      have hget : (targetR xs a (ix ls k)).getD 0 = toR xs a (ix ls k) := by
        unfold toR
        cases h : targetR xs a (ix ls k) with
        | none => rw [h] at hT; cases hT
        | some v => rfl
      refine Fin.next (k + 1, v5) wsub ⟨by omega, ?_, ?_, ?_, (hext.trans hx3).trans' hc5 (fun i hi h => by have := (hown.lt i h).1; omega), (hblk.chg hx3 (fun h => h)).chg hc5 (fun h => hne _ h rfl)⟩ (by dsimp only; omega)
      · dsimp only; rw [take_succ_ix hlt, List.map_append, List.map_singleton, ← hget]; exact hown5
      · intro q hq e
        have hlb := Blk.lt hblk
        rcases hb5 with h | h
        · rw [h] at hq; exact hne q hq e
        · rw [h] at hq; cases hq; omega
      · dsimp only; rw [take_succ_ix hlt]
        intro t ht
        rcases List.mem_append.1 ht with h | h
        · exact hall t h
        · simp at h; rw [h]; exact hT
  · refine wgo ?_
    obtain rfl : k = ls.length := by omega
    rw [List.take_length] at hown hall
    exact Fin.ret2 rfl rfl rfl ⟨hext, .inl ⟨hall, _, rfl, hown⟩⟩

theorem elsesTo_keep {xs : List Ins} (hall : ∀ j, j < xs.length → checkAt xs j = none) {p h : Nat} (h5 : (ix xs p).op = 5) (hl : lastI (roundR xs p) = h) : ∀ k, p < k → k ≤ xs.length → ix (elsesTo xs k) h = p
  | 0, hp, _ => by omega
  | k + 1, hp, hk => by
    have hpl : p < xs.length := by omega
    have hz := checkAt_len (hall p hpl)
    have hlast := lastR hz
    rw [hl] at hlast
    by_cases e : p = k
    · subst e
      rw [elsesTo, if_pos h5, hl, Int.toNat_natCast, ix_set_same (by rw [elsesTo_len]; omega)]
    · rw [elsesTo]
      split
      · rename_i h5k
        have hck := checkAt_else (hall k (by omega)) h5k
        by_cases e2 : (lastI (roundR xs k)).toNat = h
        · have := hck.2.2
          rw [e2, elsedR_true (i := p) (by omega) (by simp only [elseAt, decide_eq_true_eq]; exact ⟨by omega, h5, hz, hl⟩)] at this
          cases this
        · rw [ix_set_other (fun e3 => e2 e3.symm)]; exact elsesTo_keep hall h5 hl k (by omega) (by omega)
      · exact elsesTo_keep hall h5 hl k (by omega) (by omega)
theorem elsesTo_who {xs : List Ins} {i : Nat} (hi : i < xs.length) : ∀ (k p : Nat), ix (elsesTo xs k) i = p → (lastI (roundR xs p)).toNat = i
  | 0, p, h => by
    rw [elsesTo, ix_eq (by simpa using hi)] at h; simp at h
  | k + 1, p, h => by
    rw [elsesTo] at h
    split at h
    · by_cases e : (lastI (roundR xs k)).toNat = i
      · rw [e, ix_set_same (by rw [elsesTo_len]; exact hi)] at h
        have : k = p := by omega
        subst this; exact e
      · rw [ix_set_other (fun e2 => e e2.symm)] at h; exact elsesTo_who hi k p h
    · exact elsesTo_who hi k p h
theorem doneFrom_eq {xs : List Ins} {p : Int} {h : Nat} (hh : ix (elsesR xs) h = p) (hu : ∀ i, i < h → ix (elsesR xs) i ≠ p) : ∀ f i, i ≤ h → h < i + f → doneFrom xs p f i = ix (endsR xs) h
  | 0, i, h1, h2 => by omega
  | f + 1, i, h1, h2 => by
    rw [doneFrom]
    by_cases e : i = h
    · subst e; rw [if_pos hh]
    · rw [if_neg (hu i (by omega))]; exact doneFrom_eq hh hu f (i + 1) (by omega) (by omega)
/-- the end of the if round an else -/
theorem doneR_eq {xs : List Ins} (hok : (checkR xs).2 = 0) {p : Nat} (hp : p < xs.length) (h5 : (ix xs p).op = 5) : 0 ≤ lastI (roundR xs p) ∧ lastI (roundR xs p) < p ∧ doneR xs p = ix (endsR xs) (lastI (roundR xs p)).toNat := by
  obtain ⟨hall, -⟩ := check_ok hok
  have h0 := (checkAt_else (hall p hp) h5).1
  have hl := lastR (checkAt_len (hall p hp))
  refine ⟨h0, hl.2, ?_⟩
  obtain ⟨h, hh⟩ := Int.eq_ofNat_of_zero_le h0
  rw [hh, Int.toNat_natCast]
  have h1 : ix (elsesR xs) h = (p : Int) := elsesTo_keep hall h5 hh xs.length hp (Nat.le_refl _)
  exact doneFrom_eq h1 (fun i hi e => by
    have := elsesTo_who (by omega) _ _ e
    rw [hh] at this; simp at this; omega) xs.length 0 (Nat.zero_le _) (by omega)
end Go.Proofs.Ytfeakkicihlplaa
