/- Walk of cfg.begins. -/
import Derived.Test.YtfeakkicihlplaaT2
namespace Go.Proofs.Ytfeakkicihlplaa
open Go.RowKit

theorem nonempty_of_ok {xs : List Ins} (hok : (checkR xs).2 = 0) : 0 < xs.length := by
  rcases Nat.eq_zero_or_pos xs.length with h | h
  · have := (check_ok hok).2
    rw [h] at this; simp [roundR] at this
  · exact h

set_option maxRecDepth 100000 in
theorem cfg_begins (xs : List Ins) (v : Value) (w : World) (hb : Body w v xs) (hsm : xs.length ≤ 100000000) (h0 : 0 < xs.length) :
    Calls G.P 29 #[v] w fun e w' => ∃ r, e = .returned r ∧ OwnI w.heap.size w' r (startsR xs) ∧ Ext w w' := by
  obtain ⟨p, cap, rfl, hl⟩ := hb.slice
  refine enter (G := G) Try.func29 rfl Try.ntmps29 rfl ?_
  refine wgo ?_
  refine Ops.e Eff.makeMap rfl ?_
  rintro _ w1 ⟨rfl, hm1, hx1, hz1⟩
  refine Ops.e0 (Eff.insert Try.underlying80 Try.underlying3 rfl rfl rfl hm1 (wf64 (by omega) (by omega)) (by simp)) ?_
  rintro _ w2 ⟨hm2, hc2, hz2⟩
  have hx2 : Ext w w2 := hx1.trans' hc2 (fun i hi e => by omega)
  generalize hbm : w.heap.size = bm at *
  refine wgo ?_
  refine Cd.loop (σ := Nat) (fun s => [(0, .slice p xs.length cap), (3, .map (some bm)), (10, .slice p xs.length cap), (11, .int .i64 xs.length), (12, .int .i64 s)])
    (fun s wr => s ≤ xs.length ∧ IM wr bm (keysTo xs s) ∧ Ext w wr) (fun s => xs.length - s) 0 wsub ⟨Nat.zero_le _, hm2, hx2⟩ ?_
  rintro i wr ⟨hi, hm, hext⟩
  by_cases hlt : i < xs.length
  · have hbr : Body wr _ xs := hb.ext hext
    obtain ⟨b, off, rfl, -, hI⟩ := hbr.at hlt
    obtain ⟨pt, ct, pl, cl, hti, hli, hcells⟩ := (hI i hlt).cells
    have hlm := hm.lt
    refine wgo ?_
    refine Ops.y (Yl.loadA (s := 9) rfl rfl rfl rfl rfl (by intro _ hw_; cases hw_; exact hcells)) rfl ?_
    refine Ops.e (Eff.alloc rfl) rfl ?_
    rintro _ wx ⟨rfl, hnx⟩
    refine wgo ?_
    refine Ops.e0 (Eff.storeB rfl rfl rfl rfl rfl (by simp [insC, Value.oneCell']) hnx.blk rfl) ?_
    rintro _ wy ⟨hby, hcy, hsy⟩
    have hx : Ext wr wy := hnx.ext.trans' hcy (fun k hk e => by omega)
    have hmy := hm.chg hx (fun h => h)
    have hexty : Ext w wy := hext.trans hx
    generalize hxb : wr.heap.size = xb at *
    have hop : wy.cell? ⟨xb, 0, none⟩ = some (.int .i64 (ix xs i).op) := hby.cell rfl
    have hks : ∀ a ∈ keysTo xs i, (Lit.int .i64 a).wf = true := fun a ha => by
      have := keysTo_rng hi ha
      exact wf64 this.1 (by omega)
    have hK : keysTo xs (i + 1) = if endsB (ix xs i).op = true ∧ i + 1 < xs.length then ins (if (ix xs i).op = 11 then ins (keysTo xs i) i else keysTo xs i) ((i : Int) + 1) else (if (ix xs i).op = 11 then ins (keysTo xs i) i else keysTo xs i) := rfl
    by_cases h11 : (ix xs i).op = 11
    · have he : endsB (ix xs i).op = false := by rw [h11]; rfl
      rw [if_neg (by simp [he]), if_pos h11] at hK
      refine wgo ?_
      refine Ops.e0 (Eff.mapUpdate Try.underlying80 Try.underlying3 rfl rfl rfl hmy (wf64 (by omega) (by omega)) hks) ?_
      rintro _ wm ⟨hmm, hcm, hzm⟩
      have hop2 : wm.cell? ⟨xb, 0, none⟩ = some (.int .i64 (ix xs i).op) := hcm.cell (by show ¬ xb = bm; omega) hop
      refine wgo ?_
      refine Ops.call rfl rfl rfl (cfg_ends (ix xs i).op wm) ?_
      rintro _ _ ⟨rfl, rfl⟩
      refine ⟨_, rfl, ?_⟩
      rw [he]
      refine wgo ?_
      exact Fin.next (i + 1) wsub ⟨by omega, by rw [hK]; exact hmm, hexty.trans' hcm (fun k hk e => by omega)⟩ (by omega)
    · rw [if_neg h11] at hK
      refine wgo ?_
      refine Ops.call rfl rfl rfl (cfg_ends (ix xs i).op wy) ?_
      rintro _ _ ⟨rfl, rfl⟩
      refine ⟨_, rfl, ?_⟩
      cases he : endsB (ix xs i).op with
      | false =>
        rw [if_neg (by simp [he])] at hK
        refine wgo ?_
        exact Fin.next (i + 1) wsub ⟨by omega, by rw [hK]; exact hmy, hexty⟩ (by omega)
      | true =>
        by_cases hln : i + 1 < xs.length
        · rw [if_pos ⟨he, hln⟩] at hK
          refine wgo ?_
          refine Ops.e0 (Eff.mapUpdate Try.underlying80 Try.underlying3 rfl rfl rfl hmy (wf64 (by omega) (by omega)) hks) ?_
          rintro _ wm ⟨hmm, hcm, hzm⟩
          refine wgo ?_
          exact Fin.next (i + 1) wsub ⟨by omega, by rw [hK]; exact hmm, hexty.trans' hcm (fun k hk e => by omega)⟩ (by omega)
        · rw [if_neg (by simp [hln])] at hK
          refine wgo ?_
          exact Fin.next (i + 1) wsub ⟨by omega, by rw [hK]; exact hmy, hexty⟩ (by omega)
  · obtain rfl : i = xs.length := by omega
    refine wgo ?_
    refine Ops.e (Eff.range Try.underlying80 rfl hm) rfl ?_
    rintro _ w3 ⟨rfl, ⟨es, clock, hit⟩, hx3, hz3⟩
    have hes : es.size = (keysTo xs xs.length).length := by
      have := congrArg List.length hit.keys
      simpa using this
    have hkl := keysTo_len xs xs.length
    have hext3 : Ext w w3 := hext.trans hx3
    have hbl := hm.lt
    have hszr := hext.size
    generalize hr : wr.heap.size = r at *
    refine wgo ?_
    refine Cd.loop (σ := List Int × Value × Array Nat) (fun s => [(6, s.2.1), (40, .pointer (some ⟨r, 0, none⟩))])
      (fun s wr => IT wr bm r (keysTo xs xs.length) s.1 es clock s.2.2 ∧ OwnI (r + 1) wr s.2.1 s.1 ∧ s.1.length + (leftOf es s.2.2).size ≤ es.size ∧ Ext w wr) (fun s => (leftOf es s.2.2).size) ([], _, #[]) wsub
      ⟨hit, OwnI.nil _ _, by simp only [List.length_nil, Nat.zero_add]; exact Array.size_filter_le, hext3⟩ ?_
    rintro ⟨L, o, seen⟩ w4 ⟨hit4, hown4, hlen4, hext4⟩
    dsimp only at hit4 hown4 hlen4 hext4 ⊢
    have hlr := hit4.lt
    refine wgo ?_
    refine Ops.e (Eff.next rfl hit4) rfl ?_
    rintro _ w5 (⟨hz, rfl, rfl⟩ | ⟨a, val, seen', rfl, hit5, hsh, hc5, hs5, hen⟩)
    · have hall := hit4.all hz
      have hsort := sort_starts h0 hit4.nd hall
      have hLpos : 0 < L.length := by
        have : (0 : Int) ∈ L := (hall 0).2 ((mem_keysTo xs xs.length 0).2 ⟨0, rfl, .inl rfl⟩)
        exact List.length_pos_of_mem this
      refine wgo ?_
      refine Ops.call rfl rfl rfl (slices_Sort L o _ w5 hown4 hLpos (by omega)) ?_
      rintro _ w6 ⟨rfl, hown6, hc6⟩
      refine ⟨_, rfl, ?_⟩
      rw [hsort] at hown6
      refine wgo ?_
      refine Fin.ret1 rfl rfl ⟨_, rfl, own_base hown6 (fun k hk => by have := (hown6.lt k hk).1; omega), hext4.trans' hc6 (fun k hk e => by have := (hown4.lt k e).1; omega)⟩
    · have hown5 : OwnI (r + 1) w5 o L := own_chg hown4 hc5 (fun k hk e => by have := (hown4.lt k hk).1; omega)
      refine wgo ?_
      refine Ops.e (Eff.entry rfl hen) rfl ?_
      rintro _ _ ⟨rfl, rfl⟩
      refine wgo ?_
      refine Ops.e (Eff.buildSlice (cs := [.int .i64 a]) (e := 3) rfl (by kernel_rfl)) rfl ?_
      rintro _ w6 ⟨rfl, hn6⟩
      have hz6 := hn6.size
      refine Ops.e (Eff.appIB rfl rfl (hown5.ext hn6.ext) (by omega) (hn6.blk.cell rfl) (by omega)) rfl ?_
      rintro v7 w7 ⟨hown7, hc7, hb7⟩
      refine wgo ?_
      refine Fin.next (L ++ [a], v7, seen') wsub ⟨(hit5.chg hn6.ext (fun h => h) (fun h => h)).chg hc7 (fun e => by have := (hown5.lt _ e).1; omega) (fun e => by have := (hown5.lt _ e).1; omega), hown7, by simp; omega, ?_⟩ hsh
      exact ((hext4.trans' hc5 (fun k hk e => by omega)).trans hn6.ext).trans' hc7 (fun k hk e => by have := (hown5.lt k e).1; omega)
end Go.Proofs.Ytfeakkicihlplaa
