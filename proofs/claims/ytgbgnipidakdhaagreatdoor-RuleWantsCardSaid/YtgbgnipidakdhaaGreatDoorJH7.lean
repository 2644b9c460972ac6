/- opcode.Sig. Printed by gen_h7.py. -/
import Derived.Test.YtgbgnipidakdhaaGreatDoorJH6
namespace Go.Proofs.YtgbgnipidakdhaaGreatDoor
open Go.RowKit
set_option maxRecDepth 100000
def sigO (op : Int) : Option ApiFunc :=
  if op = 1 ∨ op = 64525 ∨ op = 64521 then some ⟨[], []⟩
  else if op = 65 ∨ op = 63 ∨ op = 64528 then some ⟨[], [1]⟩
  else if op = 66 then some ⟨[], [2]⟩
  else if op = 210 then some ⟨[], [3]⟩
  else if op = 64 then some ⟨[1], [1]⟩
  else if op = 64523 ∨ op = 64522 ∨ op = 64520 ∨ op = 64526 ∨ op = 64524 then some ⟨[1, 1, 1], []⟩
  else if op = 167 then some ⟨[2], [1]⟩
  else if op = 172 ∨ op = 173 then some ⟨[1], [2]⟩
  else if hasPre (by_ (nameO op)) [105, 51, 50, 46] = true ∨ hasPre (by_ (nameO op)) [105, 54, 52, 46] = true then some (numO op (begO (by_ (nameO op))) ((by_ (nameO op)).drop 4))
  else none
theorem hasPre_len {s p : List UInt8} (h : hasPre s p = true) : p.length ≤ s.length := by
  unfold hasPre at h; simp only [Bool.and_eq_true, decide_eq_true_eq] at h; exact h.1
def SigPost (w : World) (r : Option ApiFunc) (e : Ending) (w' : World) : Prop := (∃ v, e = .returned (.tuple #[v, .bool r.isSome]) ∧ FnR w.heap.size w' v (r.getD ⟨[], []⟩)) ∧ Ext w w'
set_option maxHeartbeats 4000000 in
theorem opcode_Sig (op : Int) (w : World) (h0 : Env0 w) : Calls G.P 85 #[.int .i64 op] w (SigPost w (sigO op)) := by
  refine enter (G := G) Tryz.func85 rfl Tryz.ntmps85 rfl ?_
  refine wgx ?_
  refine Ops.e (Eff.alloc rfl) rfl ?_
  rintro _ w1 ⟨rfl, hn1⟩
  have hs1 := hn1.size
  refine wgx ?_
  refine Ops.e (Eff.buildSlice (cs := [.int .i64 1, .int .i64 1, .int .i64 1]) (e := 37) rfl (by kernel_rfl)) rfl ?_
  rintro _ w2 ⟨rfl, hn2⟩
  have hb1 := hn1.blk.chg hn2.ext id
  have r3 : IntsR (fun k => w1.heap.size ≤ k) w2 (.slice (some ⟨w1.heap.size, 0, none⟩) 3 3) [1, 1, 1] := IntsR.ofNew hn2 rfl (by omega) (by simp)
  have r1 : IntsR (fun k => w1.heap.size ≤ k) w2 (.slice (some ⟨w1.heap.size, 0, none⟩) 1 3) [1] := ⟨_, _, rfl, by simp, .inr ⟨_, 0, rfl, Nat.le_refl _, fun i hi => by
    obtain rfl : i = 0 := by simpa using hi
    exact hn2.blk.cell rfl⟩⟩
  have hxw2 : Ext w w2 := hn1.ext.trans hn2.ext
  have hx2 : Ext w2 w2 := Chg.refl _ _
  rcases (show op = 1 ∨ op = 64525 ∨ op = 64521 ∨ op = 65 ∨ op = 63 ∨ op = 64528 ∨ op = 66 ∨ op = 210 ∨ op = 64 ∨ op = 64523 ∨ op = 64522 ∨ op = 64520 ∨ op = 64526 ∨ op = 64524 ∨ op = 167 ∨ op = 172 ∨ op = 173 ∨ (op ≠ 1 ∧ op ≠ 64525 ∧ op ≠ 64521 ∧ op ≠ 65 ∧ op ≠ 63 ∧ op ≠ 64528 ∧ op ≠ 66 ∧ op ≠ 210 ∧ op ≠ 64 ∧ op ≠ 64523 ∧ op ≠ 64522 ∧ op ≠ 64520 ∧ op ≠ 64526 ∧ op ≠ 64524 ∧ op ≠ 167 ∧ op ≠ 172 ∧ op ≠ 173) from by omega) with hc_ | hc_ | hc_ | hc_ | hc_ | hc_ | hc_ | hc_ | hc_ | hc_ | hc_ | hc_ | hc_ | hc_ | hc_ | hc_ | hc_ | ⟨hc1_, hc64525_, hc64521_, hc65_, hc63_, hc64528_, hc66_, hc210_, hc64_, hc64523_, hc64522_, hc64520_, hc64526_, hc64524_, hc167_, hc172_, hc173_⟩
  · have hsg : sigO op = some ⟨[], []⟩ := by rw [hc_]; rfl
    refine wgx ?_
    refine Ops.e0 (Eff.storeB (ti := ti47) (cs := [.slice none 0 0, .slice none 0 0]) rfl rfl rfl rfl rfl (by simp [Value.oneCell']) hb1 rfl) ?_
    rintro _ wD ⟨hbD, hcD, -⟩
    refine wgx ?_
    have hxD : Ext w wD := Chg.trans' hxw2 hcD (fun k hk e => by omega)
    refine Fin.ret2c (.inl rfl) rfl rfl rfl rfl rfl hbD rfl rfl ⟨⟨_, by rw [hsg]; rfl, ?_⟩, hxD⟩
    rw [hsg]
    refine ⟨_, rfl, _, _, rfl, ?_, ?_⟩
    · exact IntsR.nil0 _ _
    · exact IntsR.nil0 _ _
  · have hsg : sigO op = some ⟨[], []⟩ := by rw [hc_]; rfl
    refine wgx ?_
    refine Ops.e0 (Eff.storeB (ti := ti47) (cs := [.slice none 0 0, .slice none 0 0]) rfl rfl rfl rfl rfl (by simp [Value.oneCell']) hb1 rfl) ?_
    rintro _ wD ⟨hbD, hcD, -⟩
    refine wgx ?_
    have hxD : Ext w wD := Chg.trans' hxw2 hcD (fun k hk e => by omega)
    refine Fin.ret2c (.inl rfl) rfl rfl rfl rfl rfl hbD rfl rfl ⟨⟨_, by rw [hsg]; rfl, ?_⟩, hxD⟩
    rw [hsg]
    refine ⟨_, rfl, _, _, rfl, ?_, ?_⟩
    · exact IntsR.nil0 _ _
    · exact IntsR.nil0 _ _
  · have hsg : sigO op = some ⟨[], []⟩ := by rw [hc_]; rfl
    refine wgx ?_
    refine Ops.e0 (Eff.storeB (ti := ti47) (cs := [.slice none 0 0, .slice none 0 0]) rfl rfl rfl rfl rfl (by simp [Value.oneCell']) hb1 rfl) ?_
    rintro _ wD ⟨hbD, hcD, -⟩
    refine wgx ?_
    have hxD : Ext w wD := Chg.trans' hxw2 hcD (fun k hk e => by omega)
    refine Fin.ret2c (.inl rfl) rfl rfl rfl rfl rfl hbD rfl rfl ⟨⟨_, by rw [hsg]; rfl, ?_⟩, hxD⟩
    rw [hsg]
    refine ⟨_, rfl, _, _, rfl, ?_, ?_⟩
    · exact IntsR.nil0 _ _
    · exact IntsR.nil0 _ _
  · have hsg : sigO op = some ⟨[], [1]⟩ := by rw [hc_]; rfl
    refine wgx ?_
    refine Ops.e (Eff.buildSlice (cs := [.int .i64 1]) (e := 37) rfl (by kernel_rfl)) rfl ?_
    rintro _ wR ⟨rfl, hnR⟩
    have qR : IntsR (fun k => w1.heap.size ≤ k) wR _ [1] := IntsR.ofNew hnR rfl (by have := hn2.ext.size; have := hx2.size; omega) (by simp)
    have hxR : Ext w2 wR := hx2.trans hnR.ext
    refine wgx ?_
    refine Ops.call rfl rfl rfl (opcode_of _ _ _ _ _ _ wR) ?_
    rintro _ wC ⟨rfl, hxC⟩
    refine ⟨_, rfl, ?_⟩
    have hxwC : Ext w2 wC := hxR.trans hxC
    refine wgx ?_
    refine Ops.e0 (Eff.storeB (ti := ti47) (cs := [_, _]) rfl rfl rfl rfl rfl (by simp [Value.oneCell']) (hb1.chg hxwC id) rfl) ?_
    rintro _ wD ⟨hbD, hcD, -⟩
    refine wgx ?_
    have hxD : Ext w wD := Chg.trans' (hxw2.trans hxwC) hcD (fun k hk e => by omega)
    refine Fin.ret2c (.inl rfl) rfl rfl rfl rfl rfl hbD rfl rfl ⟨⟨_, by rw [hsg]; rfl, ?_⟩, hxD⟩
    rw [hsg]
    refine ⟨_, rfl, _, _, rfl, ?_, ?_⟩
    · exact IntsR.nil0 _ _
    · exact ((qR.chg hxC (fun _ _ _ h => h)).chg hcD (fun k _ h e => by omega)).mono (fun k _ h => by omega)
  · have hsg : sigO op = some ⟨[], [1]⟩ := by rw [hc_]; rfl
    refine wgx ?_
    refine Ops.e (Eff.buildSlice (cs := [.int .i64 1]) (e := 37) rfl (by kernel_rfl)) rfl ?_
    rintro _ wR ⟨rfl, hnR⟩
    have qR : IntsR (fun k => w1.heap.size ≤ k) wR _ [1] := IntsR.ofNew hnR rfl (by have := hn2.ext.size; have := hx2.size; omega) (by simp)
    have hxR : Ext w2 wR := hx2.trans hnR.ext
    refine wgx ?_
    refine Ops.call rfl rfl rfl (opcode_of _ _ _ _ _ _ wR) ?_
    rintro _ wC ⟨rfl, hxC⟩
    refine ⟨_, rfl, ?_⟩
    have hxwC : Ext w2 wC := hxR.trans hxC
    refine wgx ?_
    refine Ops.e0 (Eff.storeB (ti := ti47) (cs := [_, _]) rfl rfl rfl rfl rfl (by simp [Value.oneCell']) (hb1.chg hxwC id) rfl) ?_
    rintro _ wD ⟨hbD, hcD, -⟩
    refine wgx ?_
    have hxD : Ext w wD := Chg.trans' (hxw2.trans hxwC) hcD (fun k hk e => by omega)
    refine Fin.ret2c (.inl rfl) rfl rfl rfl rfl rfl hbD rfl rfl ⟨⟨_, by rw [hsg]; rfl, ?_⟩, hxD⟩
    rw [hsg]
    refine ⟨_, rfl, _, _, rfl, ?_, ?_⟩
    · exact IntsR.nil0 _ _
    · exact ((qR.chg hxC (fun _ _ _ h => h)).chg hcD (fun k _ h e => by omega)).mono (fun k _ h => by omega)
  · have hsg : sigO op = some ⟨[], [1]⟩ := by rw [hc_]; rfl
    refine wgx ?_
    refine Ops.e (Eff.buildSlice (cs := [.int .i64 1]) (e := 37) rfl (by kernel_rfl)) rfl ?_
    rintro _ wR ⟨rfl, hnR⟩
    have qR : IntsR (fun k => w1.heap.size ≤ k) wR _ [1] := IntsR.ofNew hnR rfl (by have := hn2.ext.size; have := hx2.size; omega) (by simp)
    have hxR : Ext w2 wR := hx2.trans hnR.ext
    refine wgx ?_
    refine Ops.call rfl rfl rfl (opcode_of _ _ _ _ _ _ wR) ?_
    rintro _ wC ⟨rfl, hxC⟩
    refine ⟨_, rfl, ?_⟩
    have hxwC : Ext w2 wC := hxR.trans hxC
    refine wgx ?_
    refine Ops.e0 (Eff.storeB (ti := ti47) (cs := [_, _]) rfl rfl rfl rfl rfl (by simp [Value.oneCell']) (hb1.chg hxwC id) rfl) ?_
    rintro _ wD ⟨hbD, hcD, -⟩
    refine wgx ?_
    have hxD : Ext w wD := Chg.trans' (hxw2.trans hxwC) hcD (fun k hk e => by omega)
    refine Fin.ret2c (.inl rfl) rfl rfl rfl rfl rfl hbD rfl rfl ⟨⟨_, by rw [hsg]; rfl, ?_⟩, hxD⟩
    rw [hsg]
    refine ⟨_, rfl, _, _, rfl, ?_, ?_⟩
    · exact IntsR.nil0 _ _
    · exact ((qR.chg hxC (fun _ _ _ h => h)).chg hcD (fun k _ h e => by omega)).mono (fun k _ h => by omega)
  · have hsg : sigO op = some ⟨[], [2]⟩ := by rw [hc_]; rfl
    refine wgx ?_
    refine Ops.e (Eff.buildSlice (cs := [.int .i64 2]) (e := 37) rfl (by kernel_rfl)) rfl ?_
    rintro _ wR ⟨rfl, hnR⟩
    have qR : IntsR (fun k => w1.heap.size ≤ k) wR _ [2] := IntsR.ofNew hnR rfl (by have := hn2.ext.size; have := hx2.size; omega) (by simp)
    have hxR : Ext w2 wR := hx2.trans hnR.ext
    refine wgx ?_
    refine Ops.call rfl rfl rfl (opcode_of _ _ _ _ _ _ wR) ?_
    rintro _ wC ⟨rfl, hxC⟩
    refine ⟨_, rfl, ?_⟩
    have hxwC : Ext w2 wC := hxR.trans hxC
    refine wgx ?_
    refine Ops.e0 (Eff.storeB (ti := ti47) (cs := [_, _]) rfl rfl rfl rfl rfl (by simp [Value.oneCell']) (hb1.chg hxwC id) rfl) ?_
    rintro _ wD ⟨hbD, hcD, -⟩
    refine wgx ?_
    have hxD : Ext w wD := Chg.trans' (hxw2.trans hxwC) hcD (fun k hk e => by omega)
    refine Fin.ret2c (.inl rfl) rfl rfl rfl rfl rfl hbD rfl rfl ⟨⟨_, by rw [hsg]; rfl, ?_⟩, hxD⟩
    rw [hsg]
    refine ⟨_, rfl, _, _, rfl, ?_, ?_⟩
    · exact IntsR.nil0 _ _
    · exact ((qR.chg hxC (fun _ _ _ h => h)).chg hcD (fun k _ h e => by omega)).mono (fun k _ h => by omega)
  · have hsg : sigO op = some ⟨[], [3]⟩ := by rw [hc_]; rfl
    refine wgx ?_
    refine Ops.e (Eff.buildSlice (cs := [.int .i64 3]) (e := 37) rfl (by kernel_rfl)) rfl ?_
    rintro _ wR ⟨rfl, hnR⟩
    have qR : IntsR (fun k => w1.heap.size ≤ k) wR _ [3] := IntsR.ofNew hnR rfl (by have := hn2.ext.size; have := hx2.size; omega) (by simp)
    have hxR : Ext w2 wR := hx2.trans hnR.ext
    refine wgx ?_
    refine Ops.call rfl rfl rfl (opcode_of _ _ _ _ _ _ wR) ?_
    rintro _ wC ⟨rfl, hxC⟩
    refine ⟨_, rfl, ?_⟩
    have hxwC : Ext w2 wC := hxR.trans hxC
    refine wgx ?_
    refine Ops.e0 (Eff.storeB (ti := ti47) (cs := [_, _]) rfl rfl rfl rfl rfl (by simp [Value.oneCell']) (hb1.chg hxwC id) rfl) ?_
    rintro _ wD ⟨hbD, hcD, -⟩
    refine wgx ?_
    have hxD : Ext w wD := Chg.trans' (hxw2.trans hxwC) hcD (fun k hk e => by omega)
    refine Fin.ret2c (.inl rfl) rfl rfl rfl rfl rfl hbD rfl rfl ⟨⟨_, by rw [hsg]; rfl, ?_⟩, hxD⟩
    rw [hsg]
    refine ⟨_, rfl, _, _, rfl, ?_, ?_⟩
    · exact IntsR.nil0 _ _
    · exact ((qR.chg hxC (fun _ _ _ h => h)).chg hcD (fun k _ h e => by omega)).mono (fun k _ h => by omega)
  · have hsg : sigO op = some ⟨[1], [1]⟩ := by rw [hc_]; rfl
    refine wgx ?_
    refine Ops.y (Yl.sliceHi rfl rfl rfl rfl rfl (i := 1) rfl (by omega)) rfl ?_
    refine wgx ?_
    refine Ops.e (Eff.buildSlice (cs := [.int .i64 1]) (e := 37) rfl (by kernel_rfl)) rfl ?_
    rintro _ wR ⟨rfl, hnR⟩
    have qR : IntsR (fun k => w1.heap.size ≤ k) wR _ [1] := IntsR.ofNew hnR rfl (by have := hn2.ext.size; have := hx2.size; omega) (by simp)
    have hxR : Ext w2 wR := hx2.trans hnR.ext
    refine wgx ?_
    refine Ops.call rfl rfl rfl (opcode_of _ _ _ _ _ _ wR) ?_
    rintro _ wC ⟨rfl, hxC⟩
    refine ⟨_, rfl, ?_⟩
    have hxwC : Ext w2 wC := hxR.trans hxC
    refine wgx ?_
    refine Ops.e0 (Eff.storeB (ti := ti47) (cs := [_, _]) rfl rfl rfl rfl rfl (by simp [Value.oneCell']) (hb1.chg hxwC id) rfl) ?_
    rintro _ wD ⟨hbD, hcD, -⟩
    refine wgx ?_
    have hxD : Ext w wD := Chg.trans' (hxw2.trans hxwC) hcD (fun k hk e => by omega)
    refine Fin.ret2c (.inl rfl) rfl rfl rfl rfl rfl hbD rfl rfl ⟨⟨_, by rw [hsg]; rfl, ?_⟩, hxD⟩
    rw [hsg]
    refine ⟨_, rfl, _, _, rfl, ?_, ?_⟩
    · exact (((r1.chg hnR.ext (fun _ _ _ h => h)).chg hxC (fun _ _ _ h => h)).chg hcD (fun k _ h e => by omega)).mono (fun k _ h => by omega)
    · exact ((qR.chg hxC (fun _ _ _ h => h)).chg hcD (fun k _ h e => by omega)).mono (fun k _ h => by omega)
  · have hsg : sigO op = some ⟨[1, 1, 1], []⟩ := by rw [hc_]; rfl
    refine wgx ?_
    refine Ops.call rfl rfl rfl (opcode_of _ _ _ _ _ _ w2) ?_
    rintro _ wC ⟨rfl, hxC⟩
    refine ⟨_, rfl, ?_⟩
    have hxwC : Ext w2 wC := hx2.trans hxC
    refine wgx ?_
    refine Ops.e0 (Eff.storeB (ti := ti47) (cs := [_, _]) rfl rfl rfl rfl rfl (by simp [Value.oneCell']) (hb1.chg hxwC id) rfl) ?_
    rintro _ wD ⟨hbD, hcD, -⟩
    refine wgx ?_
    have hxD : Ext w wD := Chg.trans' (hxw2.trans hxwC) hcD (fun k hk e => by omega)
    refine Fin.ret2c (.inl rfl) rfl rfl rfl rfl rfl hbD rfl rfl ⟨⟨_, by rw [hsg]; rfl, ?_⟩, hxD⟩
    rw [hsg]
    refine ⟨_, rfl, _, _, rfl, ?_, ?_⟩
    · exact ((r3.chg hxC (fun _ _ _ h => h)).chg hcD (fun k _ h e => by omega)).mono (fun k _ h => by omega)
    · exact IntsR.nil0 _ _
  · have hsg : sigO op = some ⟨[1, 1, 1], []⟩ := by rw [hc_]; rfl
    refine wgx ?_
    refine Ops.call rfl rfl rfl (opcode_of _ _ _ _ _ _ w2) ?_
    rintro _ wC ⟨rfl, hxC⟩
    refine ⟨_, rfl, ?_⟩
    have hxwC : Ext w2 wC := hx2.trans hxC
    refine wgx ?_
    refine Ops.e0 (Eff.storeB (ti := ti47) (cs := [_, _]) rfl rfl rfl rfl rfl (by simp [Value.oneCell']) (hb1.chg hxwC id) rfl) ?_
    rintro _ wD ⟨hbD, hcD, -⟩
    refine wgx ?_
    have hxD : Ext w wD := Chg.trans' (hxw2.trans hxwC) hcD (fun k hk e => by omega)
    refine Fin.ret2c (.inl rfl) rfl rfl rfl rfl rfl hbD rfl rfl ⟨⟨_, by rw [hsg]; rfl, ?_⟩, hxD⟩
    rw [hsg]
    refine ⟨_, rfl, _, _, rfl, ?_, ?_⟩
    · exact ((r3.chg hxC (fun _ _ _ h => h)).chg hcD (fun k _ h e => by omega)).mono (fun k _ h => by omega)
    · exact IntsR.nil0 _ _
  · have hsg : sigO op = some ⟨[1, 1, 1], []⟩ := by rw [hc_]; rfl
    refine wgx ?_
    refine Ops.call rfl rfl rfl (opcode_of _ _ _ _ _ _ w2) ?_
    rintro _ wC ⟨rfl, hxC⟩
    refine ⟨_, rfl, ?_⟩
    have hxwC : Ext w2 wC := hx2.trans hxC
    refine wgx ?_
    refine Ops.e0 (Eff.storeB (ti := ti47) (cs := [_, _]) rfl rfl rfl rfl rfl (by simp [Value.oneCell']) (hb1.chg hxwC id) rfl) ?_
    rintro _ wD ⟨hbD, hcD, -⟩
    refine wgx ?_
    have hxD : Ext w wD := Chg.trans' (hxw2.trans hxwC) hcD (fun k hk e => by omega)
    refine Fin.ret2c (.inl rfl) rfl rfl rfl rfl rfl hbD rfl rfl ⟨⟨_, by rw [hsg]; rfl, ?_⟩, hxD⟩
    rw [hsg]
    refine ⟨_, rfl, _, _, rfl, ?_, ?_⟩
    · exact ((r3.chg hxC (fun _ _ _ h => h)).chg hcD (fun k _ h e => by omega)).mono (fun k _ h => by omega)
    · exact IntsR.nil0 _ _
  · have hsg : sigO op = some ⟨[1, 1, 1], []⟩ := by rw [hc_]; rfl
    refine wgx ?_
    refine Ops.call rfl rfl rfl (opcode_of _ _ _ _ _ _ w2) ?_
    rintro _ wC ⟨rfl, hxC⟩
    refine ⟨_, rfl, ?_⟩
    have hxwC : Ext w2 wC := hx2.trans hxC
    refine wgx ?_
    refine Ops.e0 (Eff.storeB (ti := ti47) (cs := [_, _]) rfl rfl rfl rfl rfl (by simp [Value.oneCell']) (hb1.chg hxwC id) rfl) ?_
    rintro _ wD ⟨hbD, hcD, -⟩
    refine wgx ?_
    have hxD : Ext w wD := Chg.trans' (hxw2.trans hxwC) hcD (fun k hk e => by omega)
    refine Fin.ret2c (.inl rfl) rfl rfl rfl rfl rfl hbD rfl rfl ⟨⟨_, by rw [hsg]; rfl, ?_⟩, hxD⟩
    rw [hsg]
    refine ⟨_, rfl, _, _, rfl, ?_, ?_⟩
    · exact ((r3.chg hxC (fun _ _ _ h => h)).chg hcD (fun k _ h e => by omega)).mono (fun k _ h => by omega)
    · exact IntsR.nil0 _ _
  · have hsg : sigO op = some ⟨[1, 1, 1], []⟩ := by rw [hc_]; rfl
    refine wgx ?_
    refine Ops.call rfl rfl rfl (opcode_of _ _ _ _ _ _ w2) ?_
    rintro _ wC ⟨rfl, hxC⟩
    refine ⟨_, rfl, ?_⟩
    have hxwC : Ext w2 wC := hx2.trans hxC
    refine wgx ?_
    refine Ops.e0 (Eff.storeB (ti := ti47) (cs := [_, _]) rfl rfl rfl rfl rfl (by simp [Value.oneCell']) (hb1.chg hxwC id) rfl) ?_
    rintro _ wD ⟨hbD, hcD, -⟩
    refine wgx ?_
    have hxD : Ext w wD := Chg.trans' (hxw2.trans hxwC) hcD (fun k hk e => by omega)
    refine Fin.ret2c (.inl rfl) rfl rfl rfl rfl rfl hbD rfl rfl ⟨⟨_, by rw [hsg]; rfl, ?_⟩, hxD⟩
    rw [hsg]
    refine ⟨_, rfl, _, _, rfl, ?_, ?_⟩
    · exact ((r3.chg hxC (fun _ _ _ h => h)).chg hcD (fun k _ h e => by omega)).mono (fun k _ h => by omega)
    · exact IntsR.nil0 _ _
  · have hsg : sigO op = some ⟨[2], [1]⟩ := by rw [hc_]; rfl
    refine wgx ?_
    refine Ops.e (Eff.buildSlice (cs := [.int .i64 2]) (e := 37) rfl (by kernel_rfl)) rfl ?_
    rintro _ wP ⟨rfl, hnP⟩
    have qP : IntsR (fun k => w1.heap.size ≤ k) wP _ [2] := IntsR.ofNew hnP rfl (by have := hn2.ext.size; have := hx2.size; omega) (by simp)
    have hxP : Ext w2 wP := hx2.trans hnP.ext
    refine wgx ?_
    refine Ops.e (Eff.buildSlice (cs := [.int .i64 1]) (e := 37) rfl (by kernel_rfl)) rfl ?_
    rintro _ wR ⟨rfl, hnR⟩
    have qR : IntsR (fun k => w1.heap.size ≤ k) wR _ [1] := IntsR.ofNew hnR rfl (by have := hn2.ext.size; have := hxP.size; omega) (by simp)
    have hxR : Ext w2 wR := hxP.trans hnR.ext
    refine wgx ?_
    refine Ops.call rfl rfl rfl (opcode_of _ _ _ _ _ _ wR) ?_
    rintro _ wC ⟨rfl, hxC⟩
    refine ⟨_, rfl, ?_⟩
    have hxwC : Ext w2 wC := hxR.trans hxC
    refine wgx ?_
    refine Ops.e0 (Eff.storeB (ti := ti47) (cs := [_, _]) rfl rfl rfl rfl rfl (by simp [Value.oneCell']) (hb1.chg hxwC id) rfl) ?_
    rintro _ wD ⟨hbD, hcD, -⟩
    refine wgx ?_
    have hxD : Ext w wD := Chg.trans' (hxw2.trans hxwC) hcD (fun k hk e => by omega)
    refine Fin.ret2c (.inl rfl) rfl rfl rfl rfl rfl hbD rfl rfl ⟨⟨_, by rw [hsg]; rfl, ?_⟩, hxD⟩
    rw [hsg]
    refine ⟨_, rfl, _, _, rfl, ?_, ?_⟩
    · exact (((qP.chg hnR.ext (fun _ _ _ h => h)).chg hxC (fun _ _ _ h => h)).chg hcD (fun k _ h e => by omega)).mono (fun k _ h => by omega)
    · exact ((qR.chg hxC (fun _ _ _ h => h)).chg hcD (fun k _ h e => by omega)).mono (fun k _ h => by omega)
  · have hsg : sigO op = some ⟨[1], [2]⟩ := by rw [hc_]; rfl
    refine wgx ?_
    refine Ops.y (Yl.sliceHi rfl rfl rfl rfl rfl (i := 1) rfl (by omega)) rfl ?_
    refine wgx ?_
    refine Ops.e (Eff.buildSlice (cs := [.int .i64 2]) (e := 37) rfl (by kernel_rfl)) rfl ?_
    rintro _ wR ⟨rfl, hnR⟩
    have qR : IntsR (fun k => w1.heap.size ≤ k) wR _ [2] := IntsR.ofNew hnR rfl (by have := hn2.ext.size; have := hx2.size; omega) (by simp)
    have hxR : Ext w2 wR := hx2.trans hnR.ext
    refine wgx ?_
    refine Ops.call rfl rfl rfl (opcode_of _ _ _ _ _ _ wR) ?_
    rintro _ wC ⟨rfl, hxC⟩
    refine ⟨_, rfl, ?_⟩
    have hxwC : Ext w2 wC := hxR.trans hxC
    refine wgx ?_
    refine Ops.e0 (Eff.storeB (ti := ti47) (cs := [_, _]) rfl rfl rfl rfl rfl (by simp [Value.oneCell']) (hb1.chg hxwC id) rfl) ?_
    rintro _ wD ⟨hbD, hcD, -⟩
    refine wgx ?_
    have hxD : Ext w wD := Chg.trans' (hxw2.trans hxwC) hcD (fun k hk e => by omega)
    refine Fin.ret2c (.inl rfl) rfl rfl rfl rfl rfl hbD rfl rfl ⟨⟨_, by rw [hsg]; rfl, ?_⟩, hxD⟩
    rw [hsg]
    refine ⟨_, rfl, _, _, rfl, ?_, ?_⟩
    · exact (((r1.chg hnR.ext (fun _ _ _ h => h)).chg hxC (fun _ _ _ h => h)).chg hcD (fun k _ h e => by omega)).mono (fun k _ h => by omega)
    · exact ((qR.chg hxC (fun _ _ _ h => h)).chg hcD (fun k _ h e => by omega)).mono (fun k _ h => by omega)
  · have hsg : sigO op = some ⟨[1], [2]⟩ := by rw [hc_]; rfl
    refine wgx ?_
    refine Ops.y (Yl.sliceHi rfl rfl rfl rfl rfl (i := 1) rfl (by omega)) rfl ?_
    refine wgx ?_
    refine Ops.e (Eff.buildSlice (cs := [.int .i64 2]) (e := 37) rfl (by kernel_rfl)) rfl ?_
    rintro _ wR ⟨rfl, hnR⟩
    have qR : IntsR (fun k => w1.heap.size ≤ k) wR _ [2] := IntsR.ofNew hnR rfl (by have := hn2.ext.size; have := hx2.size; omega) (by simp)
    have hxR : Ext w2 wR := hx2.trans hnR.ext
    refine wgx ?_
    refine Ops.call rfl rfl rfl (opcode_of _ _ _ _ _ _ wR) ?_
    rintro _ wC ⟨rfl, hxC⟩
    refine ⟨_, rfl, ?_⟩
    have hxwC : Ext w2 wC := hxR.trans hxC
    refine wgx ?_
    refine Ops.e0 (Eff.storeB (ti := ti47) (cs := [_, _]) rfl rfl rfl rfl rfl (by simp [Value.oneCell']) (hb1.chg hxwC id) rfl) ?_
    rintro _ wD ⟨hbD, hcD, -⟩
    refine wgx ?_
    have hxD : Ext w wD := Chg.trans' (hxw2.trans hxwC) hcD (fun k hk e => by omega)
    refine Fin.ret2c (.inl rfl) rfl rfl rfl rfl rfl hbD rfl rfl ⟨⟨_, by rw [hsg]; rfl, ?_⟩, hxD⟩
    rw [hsg]
    refine ⟨_, rfl, _, _, rfl, ?_, ?_⟩
    · exact (((r1.chg hnR.ext (fun _ _ _ h => h)).chg hxC (fun _ _ _ h => h)).chg hcD (fun k _ h e => by omega)).mono (fun k _ h => by omega)
    · exact ((qR.chg hxC (fun _ _ _ h => h)).chg hcD (fun k _ h e => by omega)).mono (fun k _ h => by omega)
  · have hsg : sigO op = if hasPre (by_ (nameO op)) [105, 51, 50, 46] = true ∨ hasPre (by_ (nameO op)) [105, 54, 52, 46] = true then some (numO op (begO (by_ (nameO op))) ((by_ (nameO op)).drop 4)) else none := by
      unfold sigO
      rw [if_neg (by omega), if_neg (by omega), if_neg (by omega), if_neg (by omega), if_neg (by omega), if_neg (by omega), if_neg (by omega), if_neg (by omega)]
    have hsm := name_small op
    refine wgx ?_
    refine Ops.call rfl rfl rfl (opcode_Name op w2 (h0.ext hxw2)) ?_
    rintro _ w3 ⟨rfl, hx3⟩
    refine ⟨_, rfl, ?_⟩
    generalize nameO op = s at *
    refine wgx ?_
    refine Ops.call rfl rfl rfl (strings_HasPrefix s _ w3) ?_
    rintro _ _ ⟨rfl, rfl⟩
    refine ⟨_, rfl, ?_⟩
    cases h1 : hasPre (by_ s) [105, 51, 50, 46] with
    | true =>
      have h4 : 4 ≤ s.size := by have := hasPre_len h1; rw [by_len] at this; exact this
      rw [if_pos (by simp [h1])] at hsg
      refine wgx ?_
      refine Cd.regionA ?_
      refine OpsA.take 0 rfl (by kernel_rfl) (Yl.move rfl) ?_
      refine OpsA.take 1 rfl (by kernel_rfl) (Yl.move rfl) ?_
      refine OpsA.take 3 rfl (by kernel_rfl) (Yl.move rfl) ?_
      refine OpsA.take 4 rfl (by kernel_rfl) (Yl.sliceSLo Tryz.underlying9 rfl rfl (i := 4) rfl (by omega)) ?_
      refine OpsA.one 2 (by kernel_rfl) rfl rfl (Eff.call rfl rfl (opcode_begins s _) (fun e w' h => ⟨_, h.1⟩)) ?_
      rintro _ w3' ⟨hv3, hw3⟩
      cases hv3
      obtain rfl : w3.drew = w3' := hw3
      refine OpsA.one 5 (by kernel_rfl) rfl rfl (Eff.call rfl rfl (opcode_number op _ _ _) (fun e w' h => by obtain ⟨⟨v, h, _⟩, _⟩ := h; exact ⟨v, h⟩)) ?_
      rintro _ w4 ⟨⟨v, hv4, cs, hcs, hv⟩, hx4'⟩
      cases hv4
      subst hcs
      rw [drop4] at hv
      have hx4 : Ext w3 w4 := Chg.trans ((Chg.refl _ w3).drew) hx4'
      obtain ⟨v0, v1, rfl, q0, q1⟩ := hv
      obtain ⟨p0, c0, rfl, -⟩ := q0.slice
      obtain ⟨p1, c1, rfl, -⟩ := q1.slice
      refine OpsA.one0 6 (by kernel_rfl) rfl (Eff.storeB (ti := ti47) (cs := [_, _]) rfl rfl rfl rfl rfl (by simp [Value.oneCell']) (hb1.chg (hx3.trans hx4) id) rfl) ?_
      rintro _ wD ⟨hbD, hcD, -⟩
      refine OpsA.oneY 7 (by kernel_rfl) rfl rfl (Yl.assign rfl) ?_
      refine OpsA.done (by kernel_rfl) ?_
      refine wgx ?_
      have hxD : Ext w wD := Chg.trans' ((hxw2.trans hx3).trans hx4) hcD (fun k hk e => by omega)
      refine Fin.ret2c (.inl rfl) rfl rfl rfl rfl rfl hbD rfl rfl ⟨⟨_, by rw [hsg]; rfl, ?_⟩, hxD⟩
      rw [hsg]
      have hsz : w1.heap.size ≤ w3.heap.size := Nat.le_trans hn2.ext.size hx3.size
      have hdz : w3.drew.heap.size = w3.heap.size := rfl
      refine ⟨_, rfl, _, _, rfl, ?_, ?_⟩
      · have := (q0.chg hcD (fun k _ h e => by omega)).mono (H := fun k => w.heap.size ≤ k) (fun k _ h => by omega); exact this
      · have := (q1.chg hcD (fun k _ h e => by omega)).mono (H := fun k => w.heap.size ≤ k) (fun k _ h => by omega); exact this
    | false =>
      refine wgx ?_
      refine Ops.callg rfl rfl rfl rfl (strings_HasPrefix s _ w3) ?_
      rintro _ _ ⟨rfl, rfl⟩
      refine ⟨_, rfl, ?_⟩
      cases h2 : hasPre (by_ s) [105, 54, 52, 46] with
      | true =>
        have h4 : 4 ≤ s.size := by have := hasPre_len h2; rw [by_len] at this; exact this
        rw [if_pos (by simp [h2])] at hsg
        refine wgx ?_
        refine Cd.regionA ?_
        refine OpsA.take 0 rfl (by kernel_rfl) (Yl.move rfl) ?_
        refine OpsA.take 1 rfl (by kernel_rfl) (Yl.move rfl) ?_
        refine OpsA.take 3 rfl (by kernel_rfl) (Yl.move rfl) ?_
        refine OpsA.take 4 rfl (by kernel_rfl) (Yl.sliceSLo Tryz.underlying9 rfl rfl (i := 4) rfl (by omega)) ?_
        refine OpsA.one 2 (by kernel_rfl) rfl rfl (Eff.call rfl rfl (opcode_begins s _) (fun e w' h => ⟨_, h.1⟩)) ?_
        rintro _ w3' ⟨hv3, hw3⟩
        cases hv3
        obtain rfl : w3.drew = w3' := hw3
        refine OpsA.one 5 (by kernel_rfl) rfl rfl (Eff.call rfl rfl (opcode_number op _ _ _) (fun e w' h => by obtain ⟨⟨v, h, _⟩, _⟩ := h; exact ⟨v, h⟩)) ?_
        rintro _ w4 ⟨⟨v, hv4, cs, hcs, hv⟩, hx4'⟩
        cases hv4
        subst hcs
        rw [drop4] at hv
        have hx4 : Ext w3 w4 := Chg.trans ((Chg.refl _ w3).drew) hx4'
        obtain ⟨v0, v1, rfl, q0, q1⟩ := hv
        obtain ⟨p0, c0, rfl, -⟩ := q0.slice
        obtain ⟨p1, c1, rfl, -⟩ := q1.slice
        refine OpsA.one0 6 (by kernel_rfl) rfl (Eff.storeB (ti := ti47) (cs := [_, _]) rfl rfl rfl rfl rfl (by simp [Value.oneCell']) (hb1.chg (hx3.trans hx4) id) rfl) ?_
        rintro _ wD ⟨hbD, hcD, -⟩
        refine OpsA.oneY 7 (by kernel_rfl) rfl rfl (Yl.assign rfl) ?_
        refine OpsA.done (by kernel_rfl) ?_
        refine wgx ?_
        have hxD : Ext w wD := Chg.trans' ((hxw2.trans hx3).trans hx4) hcD (fun k hk e => by omega)
        refine Fin.ret2c (.inl rfl) rfl rfl rfl rfl rfl hbD rfl rfl ⟨⟨_, by rw [hsg]; rfl, ?_⟩, hxD⟩
        rw [hsg]
        have hsz : w1.heap.size ≤ w3.heap.size := Nat.le_trans hn2.ext.size hx3.size
        have hdz : w3.drew.heap.size = w3.heap.size := rfl
        refine ⟨_, rfl, _, _, rfl, ?_, ?_⟩
        · have := (q0.chg hcD (fun k _ h e => by omega)).mono (H := fun k => w.heap.size ≤ k) (fun k _ h => by omega); exact this
        · have := (q1.chg hcD (fun k _ h e => by omega)).mono (H := fun k => w.heap.size ≤ k) (fun k _ h => by omega); exact this
      | false =>
        rw [h1, h2, if_neg (by simp)] at hsg
        refine wgx ?_
        refine Ops.e0 (Eff.storeB (ti := ti47) (cs := [.slice none 0 0, .slice none 0 0]) rfl rfl rfl rfl rfl (by simp [Value.oneCell']) (hb1.chg hx3 id) rfl) ?_
        rintro _ wD ⟨hbD, hcD, -⟩
        refine wgx ?_
        have hxD : Ext w wD := Chg.trans' (hxw2.trans hx3) hcD (fun k hk e => by omega)
        refine Fin.ret2c (.inl rfl) rfl rfl rfl rfl rfl hbD rfl rfl ⟨⟨_, by rw [hsg]; rfl, ?_⟩, hxD⟩
        rw [hsg]
        exact ⟨_, rfl, _, _, rfl, IntsR.nil0 _ _, IntsR.nil0 _ _⟩
end Go.Proofs.YtgbgnipidakdhaaGreatDoor
