/- The law CfgOrder. -/
import Derived.Test.YtfeakkicihlplaaL1
import Derived.Test.YtfeakkicihlplaaP1
namespace Go.Proofs.Ytfeakkicihlplaa
open Go.RowKit

theorem mem_predTo {bs : List Bk} {r n : Nat} {a : Int} : a ∈ predTo bs r n ↔ ∃ j : Nat, j < n ∧ (r : Int) ∈ (ix bs j).next ∧ a = j := by
  unfold predTo
  rw [List.mem_map]
  constructor
  · rintro ⟨j, hj, rfl⟩
    obtain ⟨h1, h2⟩ := List.mem_filter.1 hj
    exact ⟨j, List.mem_range.1 h1, by simpa using h2, rfl⟩
  · rintro ⟨j, h1, h2, rfl⟩
    exact ⟨j, List.mem_filter.2 ⟨List.mem_range.2 h1, by simpa using h2⟩, rfl⟩
theorem take_mem {l : List Int} {i j : Nat} (hj : j < i) (hl : j < l.length) : ix l j ∈ l.take i := by
  rw [ix_eq hl]
  exact List.mem_take_iff_getElem.2 ⟨j, by omega, rfl⟩
theorem take_not {l : List Int} {i : Nat} (hl : i < l.length) (h : ∀ a b, a < b → b < l.length → ix l a ≠ ix l b) : (l.take i).contains (ix l i) = false := by
  rw [Bool.eq_false_iff, ne_eq, List.contains_iff_mem]
  intro hm
  obtain ⟨j, hj, e⟩ := List.mem_take_iff_getElem.1 hm
  exact h j i (by omega) hl (by rw [ix_eq (by omega), e])

set_option maxRecDepth 100000 in
set_option maxHeartbeats 4000000 in
theorem law_CfgOrder (bs : List Bk) (nvs : List Value) (v : Value) (w : World) (hb : BlocksN (fun _ => True) w v bs nvs) :
    Calls G.P 7 #[v] w fun e w' => e = .returned (.bool true) ∧ Ext w w' := by
  obtain ⟨p, cap, rfl, hl⟩ := hb.slice
  refine enter (G := G) Try.func7 rfl Try.ntmps7 rfl ?_
  refine wgo ?_
  refine Ops.call rfl rfl rfl (law_small bs nvs _ w hb) ?_
  rintro _ _ ⟨b, rfl, hsmall, rfl⟩
  refine ⟨_, rfl, ?_⟩
  have hcase : b = false ∨ (b = true ∧ bs.length = 0) ∨ (b = true ∧ 0 < bs.length) := by
    cases b
    · exact .inl rfl
    · rcases Nat.eq_zero_or_pos bs.length with h | h
      · exact .inr (.inl ⟨rfl, h⟩)
      · exact .inr (.inr ⟨rfl, h⟩)
  rcases hcase with rfl | ⟨rfl, hz⟩ | ⟨rfl, hz⟩
  iterate 2
    · have hzl : (orderR []).length = 0 := by simp [orderR, deepR]
      refine wgo ?_
      refine Ops.call rfl rfl rfl (cfg_Order [] [] _ w (BlocksN.none w) (by simp) (by simp)) ?_
      rintro _ w1 ⟨ov, rfl, hov, hx1⟩
      refine ⟨_, rfl, ?_⟩
      obtain ⟨po, co, rfl, -⟩ := own_slice hov
      refine wgo ?_
      refine Ops.callg rfl rfl rfl rfl (law_alive _) ?_
      rintro _ w2 ⟨rfl, hx2⟩
      refine ⟨_, rfl, ?_⟩
      refine wgo ?_
      exact Fin.ret1 rfl rfl ⟨rfl, hx1.trans hx2⟩
  · obtain ⟨hlen, hnx⟩ := hsmall rfl
    have hnl : ∀ i, i < bs.length → (ix bs i).next.length ≤ 1000000000 := fun i hi => by have := hnx i hi; omega
    clear hsmall hnx
    refine wgo ?_
    refine Ops.call rfl rfl rfl (law_given bs nvs _ w (by omega) hb) ?_
    rintro _ w1 ⟨g, rfl, hg, hx1⟩
    refine ⟨_, rfl, ?_⟩
    refine wgo ?_
    refine Ops.call rfl rfl rfl (cfg_Order bs nvs g w1 hg hnl (by omega)) ?_
    rintro _ w2 ⟨ov, rfl, hov, hx2⟩
    refine ⟨_, rfl, ?_⟩
    refine wgo ?_
    refine Ops.call rfl rfl rfl (cfg_Preds bs nvs g w2 (hg.ext hx2) hnl (by omega)) ?_
    rintro _ w3 ⟨rv, rfl, hrv, hx3⟩
    refine ⟨_, rfl, ?_⟩
    have hO := order_ok hz
    have hol := hO.len
    have hop := hO.pos
    have ho3 : IntsR (fun _ => True) w3 ov (orderR bs) := ((hov.ext hx3).reads (by omega)).mono (fun _ _ _ => trivial)
    have hpl : (predsR bs).length = bs.length := by simp [predsR]
    have hb3 := hb.ext ((hx1.trans hx2).trans hx3)
    obtain ⟨po, co, rfl, -⟩ := ho3.slice
    obtain ⟨bo, oo, rfl, -, hOc⟩ := ho3.at (i := 0) hop
    obtain ⟨pr, cr, rfl, -⟩ := hrv.slice
    obtain ⟨br, or_, rfl, -, hRc⟩ := hrv.at (i := 0) (by omega)
    obtain ⟨bl, ol, rfl, -, hLc⟩ := hb3.at (i := 0) hz
    have hx03 : Ext w w3 := (hx1.trans hx2).trans hx3
    clear hov hrv hb3 hg hx1 hx2 hx3 hb
    have z0 := hOc 0 hop
    rw [hO.zero] at z0
    refine wgo ?_
    refine Cd.loop (σ := Nat × Value) (fun s => [(0, .slice (some ⟨bl, ol, none⟩) bs.length cap), (4, .slice (some ⟨bo, oo, none⟩) (orderR bs).length co), (5, .slice (some ⟨br, or_, none⟩) (predsR bs).length cr), (6, s.2), (7, .int .i64 s.1)]) (fun s wr => s.1 ≤ (orderR bs).length ∧ Ext w3 wr ∧ OwnI w3.heap.size wr s.2 ((orderR bs).take s.1)) (fun s => (orderR bs).length - s.1) (0, .slice none 0 0) wsub ⟨Nat.zero_le _, Chg.refl _ _, by rw [List.take_zero]; exact OwnI.nil _ _⟩ ?_
    rintro ⟨i, sv⟩ wr ⟨hi, hxr, hsv⟩
    dsimp only at hi hsv ⊢
    by_cases hlt : i < (orderR bs).length
    · have hrg := hO.rng i hlt
      have hnot := take_not hlt hO.inj
      have hledP : 0 < i → ∃ k, k < (ix (predsR bs) (ix (orderR bs) i).toNat).length ∧ (((orderR bs).take i).contains (ix (ix (predsR bs) (ix (orderR bs) i).toNat) k)) = true := fun h0 => by
        obtain ⟨j, hj, hm⟩ := hO.led i h0 hlt
        have hrj := hO.rng j (by omega)
        have e : ix (predsR bs) (ix (orderR bs) i).toNat = predTo bs (ix (orderR bs) i).toNat bs.length := by unfold predsR; exact ix_map_range (by omega)
        rw [e]
        have hmem : ix (orderR bs) j ∈ predTo bs (ix (orderR bs) i).toNat bs.length := mem_predTo.2 ⟨(ix (orderR bs) j).toNat, by omega, by rw [Int.toNat_of_nonneg hrg.1]; exact hm, by omega⟩
        obtain ⟨k, hk, ek⟩ := List.getElem_of_mem hmem
        refine ⟨k, hk, ?_⟩
        rw [ix_eq hk, ek, List.contains_iff_mem]
        exact take_mem hj (by omega)
      obtain ⟨u, hu, hrow⟩ := hRc (ix (orderR bs) i).toNat (by omega)
      have a0 := hxr.cell (hOc i hlt)
      have hrow' := hrow.chg hxr (fun _ _ _ h => h)
      generalize ix (predsR bs) (ix (orderR bs) i).toNat = row at *
      generalize ha : ix (orderR bs) i = a at *
      obtain ⟨an, rfl⟩ := Int.eq_ofNat_of_zero_le hrg.1
      rw [Int.toNat_natCast] at hu
      obtain ⟨pw, cw, rfl, hrl⟩ := hrow'.slice
      have a1 := hxr.cell hu
      have hsr : IntsR (fun _ => True) wr sv ((orderR bs).take i) := (hsv.reads (by rw [List.length_take]; omega)).mono (fun _ _ _ => trivial)
      refine wgo ?_
      refine Ops.callg rfl rfl rfl rfl (law_contains ((orderR bs).take i) _ an wr hsr) ?_
      rintro _ _ ⟨rfl, rfl⟩
      refine ⟨_, rfl, ?_⟩
      rw [hnot]
      have tail : ∀ (bz : Bool), bz = decide (i = 0) → True := fun _ _ => trivial
      refine wgo ?_
      refine Ops.y (Yl.eqlB rfl rfl) rfl ?_
      refine wgo ?_
      refine Cd.loop (σ := Nat × Bool) (fun s => [(0, .slice (some ⟨bl, ol, none⟩) bs.length cap), (4, .slice (some ⟨bo, oo, none⟩) (orderR bs).length co), (5, .slice (some ⟨br, or_, none⟩) (predsR bs).length cr), (6, sv), (7, .int .i64 i), (8, .bool s.2), (9, .int .i64 s.1)]) (fun s wq => s.1 ≤ row.length ∧ (i = 0 → s.2 = true) ∧ (∀ k, k < s.1 → ((orderR bs).take i).contains (ix row k) = true → s.2 = true) ∧ wr = wq) (fun s => row.length - s.1) (0, ((i : Int) == 0)) wsub ⟨Nat.zero_le _, fun h => by subst h; rfl, by omega, rfl⟩ ?_
      rintro ⟨k, led⟩ wq ⟨hk, hl0, hlk, rfl⟩
      dsimp only at hk hl0 hlk ⊢
      by_cases hkl : k < row.length
      · obtain ⟨bw, ow, rfl, -, hWc⟩ := hrow'.at hkl
        have a2 := hWc k hkl
        cases led with
        | true =>
          refine wgo ?_
          refine Fin.next (k + 1, true) wsub ⟨by omega, fun _ => rfl, fun _ _ _ => rfl, rfl⟩ (by dsimp only; omega)
        | false =>
          refine wgo ?_
          refine Ops.callg rfl rfl rfl rfl (law_contains ((orderR bs).take i) _ (ix row k) wr hsr) ?_
          rintro _ _ ⟨rfl, rfl⟩
          refine ⟨_, rfl, ?_⟩
          refine wgo ?_
          refine Fin.next (k + 1, ((orderR bs).take i).contains (ix row k)) wsub ⟨by dsimp only; omega, fun h => absurd (hl0 h) (by simp), fun k' hk' hc => ?_, rfl⟩ (by dsimp only; omega)
          dsimp only at hk' ⊢
          rcases Nat.lt_or_ge k' k with h | h
          · exact absurd (hlk k' h hc) (by simp)
          · have : k' = k := by omega
            subst this; exact hc
      · have hled : led = true := by
          rcases Nat.eq_zero_or_pos i with h | h
          · exact hl0 h
          · obtain ⟨k', h1, h2⟩ := hledP h
            exact hlk k' (by omega) h2
        subst hled
        obtain ⟨ps, cs, rfl, -⟩ := hsr.slice
        refine wgo ?_
        refine Ops.e (Eff.buildSlice (cs := [.int .i64 (an : Int)]) (e := 3) rfl (by kernel_rfl)) rfl ?_
        rintro _ w5 ⟨rfl, hn5⟩
        have hx5 : Ext wr w5 := hn5.ext
        refine Ops.e (Eff.appI (xs := (orderR bs).take i) (a := an) (base := w3.heap.size) rfl rfl (hsv.ext hx5) (Nat.le_trans hxr.size hx5.size) (hn5.blk.cell rfl) (by rw [List.length_take]; omega)) rfl ?_
        rintro sv' w6 ⟨hs6, hx6⟩
        have hx6' : Ext w3 w6 := Chg.trans' (hxr.trans hx5) hx6 (fun k hk e => by
          have := (hsv.lt k e).1; omega)
        refine wgo ?_
        refine Fin.next (i + 1, sv') wsub ⟨by dsimp only; omega, hx6', ?_⟩ (by dsimp only; omega)
        dsimp only
        rw [take_succ_ix hlt, ha]; exact hs6
    · have hie : i = (orderR bs).length := by omega
      subst hie
      rw [List.take_length] at hsv
      have hsr : IntsR (fun _ => True) wr sv (orderR bs) := (hsv.reads (by omega)).mono (fun _ _ _ => trivial)
      refine wgo ?_
      refine Cd.loop (σ := Nat) (fun i => [(0, .slice (some ⟨bl, ol, none⟩) bs.length cap), (4, .slice (some ⟨bo, oo, none⟩) (orderR bs).length co), (6, sv), (10, .int .i64 i)]) (fun i wq => i ≤ (orderR bs).length ∧ wr = wq) (fun i => (orderR bs).length - i) 0 wsub ⟨Nat.zero_le _, rfl⟩ ?_
      rintro i wq ⟨hi, rfl⟩
      by_cases hlt : i < (orderR bs).length
      · have hrg := hO.rng i hlt
        have a0 := hxr.cell (hOc i hlt)
        have hcl := hO.closed i hlt
        generalize ix (orderR bs) i = a at *
        obtain ⟨an, rfl⟩ := Int.eq_ofNat_of_zero_le hrg.1
        rw [Int.toNat_natCast] at hcl
        have hbk := hLc an (by omega)
        have a1 := hxr.cell hbk.nx
        have hrow := hbk.next.chg hxr (fun _ _ _ h => h)
        generalize (ix bs an).next = row at *
        generalize ix nvs an = u at *
        obtain ⟨pw, cw, rfl, hrl⟩ := hrow.slice
        refine wgo ?_
        refine Cd.loop (σ := Nat) (fun k => [(0, .slice (some ⟨bl, ol, none⟩) bs.length cap), (4, .slice (some ⟨bo, oo, none⟩) (orderR bs).length co), (6, sv), (10, .int .i64 i), (11, .int .i64 k)]) (fun k wq => k ≤ row.length ∧ wr = wq) (fun k => row.length - k) 0 wsub ⟨Nat.zero_le _, rfl⟩ ?_
        rintro k wq ⟨hk, rfl⟩
        by_cases hkl : k < row.length
        · obtain ⟨bw, ow, rfl, -, hWc⟩ := hrow.at hkl
          have a2 := hWc k hkl
          have hcm := hcl (ix row k) (ix_mem hkl)
          generalize ix row k = n at *
          rcases (show n < 0 ∨ (0 ≤ n ∧ (bs.length : Int) ≤ n) ∨ (0 ≤ n ∧ n < bs.length) by omega) with h | ⟨h1, h2⟩ | ⟨h1, h2⟩
          iterate 2
            · refine wgo ?_
              refine Fin.next (k + 1) wsub ⟨by omega, rfl⟩ (by omega)
          · refine wgo ?_
            refine Ops.callg rfl rfl rfl rfl (law_contains (orderR bs) _ n wr hsr) ?_
            rintro _ _ ⟨rfl, rfl⟩
            refine ⟨_, rfl, ?_⟩
            rw [List.contains_iff_mem.2 (hcm h1 h2)]
            refine wgo ?_
            refine Fin.next (k + 1) wsub ⟨by omega, rfl⟩ (by omega)
        · refine wgo ?_
          refine Fin.next (i + 1) wsub ⟨by omega, rfl⟩ (by omega)
      · refine wgo ?_
        refine Ops.call rfl rfl rfl (law_alive _) ?_
        rintro _ w9 ⟨rfl, hx9⟩
        refine ⟨_, rfl, ?_⟩
        refine wgo ?_
        exact Fin.ret1 rfl rfl ⟨rfl, (hx03.trans hxr).trans hx9⟩
end Go.Proofs.Ytfeakkicihlplaa
