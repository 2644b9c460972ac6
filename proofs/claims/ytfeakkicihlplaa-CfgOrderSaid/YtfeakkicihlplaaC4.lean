/- Walks of the reference's Same and Rows (on equal rows), of cfg.At with its closure, and of cfg.Preds. -/
import Derived.Test.YtfeakkicihlplaaC3
import Derived.Test.YtfeakkicihlplaaS
namespace Go.Proofs.Ytfeakkicihlplaa
open Go.RowKit

theorem IntsR.drewN {F : Nat → Prop} {w : World} {v : Value} {xs : List Int} (h : IntsR F w v xs) (q : Nat) : IntsR F (w.drewN q) v xs := h.chg (S := fun _ => False) (Ext.drewN w q) (fun _ _ _ h => h)

theorem ref_Ints_C {xs : List Int} {v u : Value} {w0 : World} (hb : IntsR (fun _ => True) w0 v xs) (hc : IntsR (fun _ => True) w0 u xs) : ∀ w, (∃ k, w = w0.drewN k) → Calls G.P 17 #[v, u] w (fun e w' => e = .returned (.bool true) ∧ ∃ k, w' = w0.drewN k) := by
  rintro _ ⟨k, rfl⟩
  refine (ref_Ints xs xs v u _ (hb.drewN k) (hc.drewN k)).mono ?_
  rintro e w' ⟨rfl, q, rfl⟩
  exact ⟨by simp, _, drewN_drewN w0 k q⟩

theorem ref_Rows (rs : List (List Int)) (v u : Value) (w : World) (hb : RowsR (fun _ => True) w v rs) (hc : RowsR (fun _ => True) w u rs) :
    Calls G.P 20 #[v, u] w fun e w' => e = .returned (.bool true) ∧ ∃ q, w' = w.drewN q := by
  obtain ⟨p, cap, rfl, hl⟩ := hb.slice
  obtain ⟨p2, cap2, rfl, -⟩ := hc.slice
  refine enter (G := G) Try.func20 rfl Try.ntmps20 rfl ?_
  refine wgo ?_
  refine Cd.loop (σ := Nat) (fun k => [(0, .slice p rs.length cap), (1, .slice p2 rs.length cap2), (5, .int .i64 k)]) (fun k wr => k ≤ rs.length ∧ ∃ q, wr = w.drewN q) (fun k => rs.length - k) 0 wsub ⟨Nat.zero_le _, 0, rfl⟩ ?_
  rintro k wr ⟨hk, q, rfl⟩
  by_cases hlt : k < rs.length
  · obtain ⟨b, off, rfl, -, hI⟩ := hb.at hlt
    obtain ⟨b2, off2, rfl, -, hI2⟩ := hc.at hlt
    obtain ⟨x1, hx1, hr1⟩ := hI k hlt
    obtain ⟨x2, hx2, hr2⟩ := hI2 k hlt
    refine wgo ?_
    refine Ops.callQ rfl rfl rfl (ref_Ints_C hr1 hr2) ?_
    refine wgo ?_
    refine Ops.nilQ ?_
    rintro _ ⟨q2, rfl⟩
    refine wgo ?_
    exact Fin.next (k + 1) wsub ⟨by omega, _, rfl⟩ (by omega)
  · refine wgo ?_
    exact Fin.ret1 rfl rfl ⟨rfl, _, rfl⟩

set_option maxRecDepth 100000 in
theorem ref_Same (bs : List Bk) (nvs nvs2 : List Value) (v u : Value) (w : World) (hb : BlocksN (fun _ => True) w v bs nvs) (hc : BlocksN (fun _ => True) w u bs nvs2) :
    Calls G.P 12 #[v, u] w fun e w' => e = .returned (.bool true) ∧ ∃ q, w' = w.drewN q := by
  obtain ⟨p, cap, rfl, hl⟩ := hb.slice
  obtain ⟨p2, cap2, rfl, -⟩ := hc.slice
  refine enter (G := G) Try.func12 rfl Try.ntmps12 rfl ?_
  refine wgo ?_
  refine Cd.loop (σ := Nat) (fun k => [(0, .slice p bs.length cap), (1, .slice p2 bs.length cap2), (5, .int .i64 k)]) (fun k wr => k ≤ bs.length ∧ ∃ q, wr = w.drewN q) (fun k => bs.length - k) 0 wsub ⟨Nat.zero_le _, 0, rfl⟩ ?_
  rintro k wr ⟨hk, q, rfl⟩
  by_cases hlt : k < bs.length
  · obtain ⟨b, off, rfl, -, hI⟩ := hb.at hlt
    obtain ⟨b2, off2, rfl, -, hI2⟩ := hc.at hlt
    have hx := hI k hlt
    have hy := hI2 k hlt
    have h1 := hx.fr
    have h2 := hx.to
    have h3 := hx.live
    have h4 := hx.nx
    have k1 := hy.fr
    have k2 := hy.to
    have k3 := hy.live
    have k4 := hy.nx
    cases hlv : (ix bs k).live with
    | true =>
      rw [hlv] at h3 k3
      refine wgo ?_
      refine Ops.callQg rfl rfl rfl rfl (ref_Ints_C hx.next hy.next) ?_
      refine wgo ?_
      refine Ops.nilQ ?_
      rintro _ ⟨q2, rfl⟩
      refine wgo ?_
      exact Fin.next (k + 1) wsub ⟨by omega, _, rfl⟩ (by omega)
    | false =>
      rw [hlv] at h3 k3
      refine wgo ?_
      refine Ops.callQg rfl rfl rfl rfl (ref_Ints_C hx.next hy.next) ?_
      refine wgo ?_
      refine Ops.nilQ ?_
      rintro _ ⟨q2, rfl⟩
      refine wgo ?_
      exact Fin.next (k + 1) wsub ⟨by omega, _, rfl⟩ (by omega)
  · refine wgo ?_
    exact Fin.ret1 rfl rfl ⟨rfl, _, rfl⟩

theorem cfg_At1 (fr to q : Int) (pn : Option Addr) (ln cn : Nat) (lv : Bool) (pb : Nat) (w : World) (hp : w.cell? ⟨pb, 0, none⟩ = some (.int .i64 q)) :
    Calls G.P 36 #[.agg #[.int .i64 fr, .int .i64 to, .slice pn ln cn, .bool lv], .pointer (some ⟨pb, 0, none⟩)] w fun e w' => e = .returned (.bool (decide (fr ≤ q) && decide (q < to))) ∧ Ext w w' := by
  refine enter (G := G) Try.func36 rfl Try.ntmps36 rfl ?_
  refine wgo ?_
  refine Ops.e (Eff.box (cs := [.int .i64 fr, .int .i64 to, .slice pn ln cn, .bool lv]) rfl rfl) rfl ?_
  rintro _ w1 ⟨rfl, hn1⟩
  have hp1 := hn1.ext.cell hp
  have h0 : w1.cell? ⟨w.heap.size, 0, none⟩ = _ := hn1.blk.cell (j := 0) rfl
  have h1 : w1.cell? ⟨w.heap.size, 0 + 1, none⟩ = _ := hn1.blk.cell (j := 1) rfl
  by_cases hc1 : fr ≤ q
  · by_cases hc2 : q < to
    · refine wgo ?_
      exact Fin.ret1 rfl rfl ⟨by simp [hc1, hc2], hn1.ext⟩
    · refine wgo ?_
      exact Fin.ret1 rfl rfl ⟨by simp [hc1, hc2], hn1.ext⟩
  · refine wgo ?_
    exact Fin.ret1 rfl rfl ⟨by simp [hc1], hn1.ext⟩

theorem slices_IndexFunc_At (bs : List Bk) (nvs : List Value) (v : Value) (q : Int) (pb : Nat) (w : World) (hb : BlocksN (fun _ => True) w v bs nvs) (hp : w.cell? ⟨pb, 0, none⟩ = some (.int .i64 q)) :
    Calls G.P 35 #[v, .func (.func 36) #[] #[.pointer (some ⟨pb, 0, none⟩)]] w fun e w' => e = .returned (.int .i64 (atB bs q)) ∧ Ext w w' := by
  obtain ⟨p, cap, rfl, hl⟩ := hb.slice
  refine enter (G := G) Try.func35 rfl Try.ntmps35 rfl ?_
  refine wgo ?_
  refine Cd.loop (σ := Nat) (fun k => [(0, .slice p bs.length cap), (1, .func (.func 36) #[] #[.pointer (some ⟨pb, 0, none⟩)]), (6, .slice p bs.length cap), (7, .int .i64 bs.length), (8, .int .i64 k)]) (fun k wr => k ≤ bs.length ∧ atB bs q = atFrom bs q (bs.length - k) k ∧ Ext w wr) (fun k => bs.length - k) 0 wsub ⟨Nat.zero_le _, rfl, Chg.refl _ _⟩ ?_
  rintro k wr ⟨hk, hn, hext⟩
  by_cases hlt : k < bs.length
  · obtain ⟨b, off, rfl, -, hI⟩ := hb.at hlt
    have hx := hI k hlt
    obtain ⟨pn, cn, hnv, -⟩ := hx.next.slice
    have h1 := hext.cell hx.fr
    have h2 := hext.cell hx.to
    have h3 := hext.cell hx.live
    have h4 := hext.cell hx.nx
    rw [hnv] at h4
    have hs : bs.length - k = (bs.length - (k + 1)) + 1 := by omega
    refine wgo ?_
    refine Ops.y (Yl.loadA (s := 4) (cs := [.int .i64 (ix bs k).fr, .int .i64 (ix bs k).to, .slice pn (ix bs k).next.length cn, .bool (ix bs k).live]) rfl rfl rfl rfl rfl (by
      intro _ hw_; cases hw_; intro j hj
      match j, hj with
      | 0, _ => exact h1
      | 1, _ => exact h2
      | 2, _ => exact h4
      | 3, _ => exact h3)) rfl ?_
    refine Ops.callV (cap := [.pointer (some ⟨pb, 0, none⟩)]) rfl rfl rfl rfl (cfg_At1 (ix bs k).fr (ix bs k).to q pn (ix bs k).next.length cn (ix bs k).live pb wr (hext.cell hp)) ?_
    rintro _ w2 ⟨rfl, hx2⟩
    refine ⟨_, rfl, ?_⟩
    by_cases hc : (ix bs k).fr ≤ q ∧ q < (ix bs k).to
    · rw [show (decide ((ix bs k).fr ≤ q) && decide (q < (ix bs k).to)) = true by simp [hc.1, hc.2]]
      refine wgo ?_
      refine Fin.ret1 rfl rfl ⟨?_, hext.trans hx2⟩
      rw [hn, hs, atFrom, if_pos hc]
    · rw [show (decide ((ix bs k).fr ≤ q) && decide (q < (ix bs k).to)) = false by simp; intro h; have := fun h2 => hc ⟨h, h2⟩; omega]
      refine wgo ?_
      refine Fin.next (k + 1) wsub ⟨by omega, ?_, hext.trans hx2⟩ (by omega)
      rw [hn, hs, atFrom, if_neg hc]
  · refine wgo ?_
    refine Fin.ret1 rfl rfl ⟨?_, hext⟩
    rw [hn, show bs.length - k = 0 by omega]; rfl

theorem cfg_At (bs : List Bk) (nvs : List Value) (v : Value) (q : Int) (w : World) (hb : BlocksN (fun _ => True) w v bs nvs) :
    Calls G.P 14 #[v, .int .i64 q] w fun e w' => e = .returned (.int .i64 (atB bs q)) ∧ Ext w w' := by
  obtain ⟨p, cap, rfl, hl⟩ := hb.slice
  refine enter (G := G) Try.func14 rfl Try.ntmps14 rfl ?_
  refine wgo ?_
  refine Ops.e (Eff.box (cs := [.int .i64 q]) rfl rfl) rfl ?_
  rintro _ w1 ⟨rfl, hn1⟩
  refine wgo ?_
  refine Ops.call rfl rfl rfl (slices_IndexFunc_At bs nvs _ q w.heap.size w1 (hb.chg hn1.ext (fun _ _ _ h => h)) (hn1.blk.cell rfl)) ?_
  rintro _ w2 ⟨rfl, hx2⟩
  refine ⟨_, rfl, ?_⟩
  refine wgo ?_
  exact Fin.ret1 rfl rfl ⟨rfl, hn1.ext.trans hx2⟩
end Go.Proofs.Ytfeakkicihlplaa
