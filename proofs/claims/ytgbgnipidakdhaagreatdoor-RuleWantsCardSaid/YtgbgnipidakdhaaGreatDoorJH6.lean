/- opcode.number, Sig. Printed by gen_h6.py. -/
import Derived.Test.YtgbgnipidakdhaaGreatDoorJH5
namespace Go.Proofs.YtgbgnipidakdhaaGreatDoor
open Go.RowKit
set_option maxRecDepth 100000
theorem IntsR.nil0 (F : Nat → Prop) (w : World) : IntsR F w (.slice none 0 0) [] := ⟨none, 0, rfl, by simp, .inl rfl⟩
theorem IntsR.ofNew {w w' : World} {cs : List Value} {T base n : Nat} {xs : List Int} (h : New w w' cs T) (hx : cs = xs.map (Value.int .i64)) (hb : base ≤ w.heap.size) (hl : xs.length ≤ 1000000) (hn : n = xs.length := by rfl) : IntsR (fun k => base ≤ k) w' (.slice (some ⟨w.heap.size, 0, none⟩) n n) xs := by
  subst hn; subst hx
  refine ⟨_, _, rfl, by omega, ?_⟩
  by_cases h0 : xs = []
  · exact .inl h0
  · refine .inr ⟨w.heap.size, 0, rfl, hb, fun i hi => ?_⟩
    rw [Nat.zero_add]
    exact h.blk.cell (by rw [List.getElem?_map, ix_some hi]; rfl)
def FnR (B : Nat) (w : World) (v : Value) (x : ApiFunc) : Prop := ∃ cs, v = .agg cs.toArray ∧ ApiFuncV (fun k => B ≤ k) w cs x
def numO (op t : Int) (s : List UInt8) : ApiFunc :=
  if hasPre s [108, 111, 97, 100] = true then ⟨[1], [t]⟩
  else if hasPre s [115, 116, 111, 114, 101] = true then ⟨[1, t], []⟩
  else if (s == [101, 113, 122]) = true then ⟨[t], [1]⟩
  else if 70 ≤ op ∧ op ≤ 90 then ⟨[t, t], [1]⟩
  else if (s == [99, 108, 122]) = true ∨ (s == [99, 116, 122]) = true ∨ (s == [112, 111, 112, 99, 110, 116]) = true ∨ hasPre s [101, 120, 116, 101, 110, 100] = true then ⟨[t], [t]⟩
  else ⟨[t, t], [t]⟩
set_option maxHeartbeats 4000000 in
theorem opcode_number (op t : Int) (s : ByteArray) (w : World) : Calls G.P 142 #[.int .i64 op, .int .i64 t, .string s] w fun e w' => (∃ v, e = .returned v ∧ FnR w.heap.size w' v (numO op t (by_ s))) ∧ Ext w w' := by
  refine enter (G := G) Tryz.func142 rfl Tryz.ntmps142 rfl ?_
  refine wgx ?_
  refine Ops.e (Eff.alloc rfl) rfl ?_
  rintro _ w1 ⟨rfl, hn1⟩
  have hs1 := hn1.size
  have hb1 := hn1.blk
  have hxw1 : Ext w1 w1 := Chg.refl _ _
  refine wgx ?_
  refine Ops.call rfl rfl rfl (strings_HasPrefix s _ w1) ?_
  rintro _ _ ⟨rfl, rfl⟩
  refine ⟨_, rfl, ?_⟩
  cases h1 : hasPre (by_ s) [108, 111, 97, 100] with
  | true =>
    have hnum : numO op t (by_ s) = ⟨[1], [t]⟩ := by unfold numO; simp [h1]
    refine wgx ?_
    refine Ops.e (Eff.buildSlice (cs := [.int .i64 1]) (e := 37) rfl (by kernel_rfl)) rfl ?_
    rintro _ wP ⟨rfl, hnP⟩
    have rP : IntsR (fun k => w1.heap.size ≤ k) wP _ [1] := IntsR.ofNew hnP rfl (by have := hxw1.size; omega) (by simp)
    have hxwP : Ext w1 wP := hxw1.trans hnP.ext
    refine wgx ?_
    refine Ops.e (Eff.buildSlice (cs := [.int .i64 t]) (e := 37) rfl (by kernel_rfl)) rfl ?_
    rintro _ wR ⟨rfl, hnR⟩
    have rR : IntsR (fun k => w1.heap.size ≤ k) wR _ [t] := IntsR.ofNew hnR rfl (by have := hxwP.size; omega) (by simp)
    have hxwR : Ext w1 wR := hxwP.trans hnR.ext
    refine wgx ?_
    refine Ops.call rfl rfl rfl (opcode_of _ _ _ _ _ _ wR) ?_
    rintro _ wC ⟨rfl, hxC⟩
    refine ⟨_, rfl, ?_⟩
    have hxwC : Ext w1 wC := hxwR.trans hxC
    refine wgx ?_
    refine Ops.e0 (Eff.storeB (ti := ti47) (cs := [_, _]) rfl rfl rfl rfl rfl (by simp [Value.oneCell']) (hb1.chg hxwC id) rfl) ?_
    rintro _ wD ⟨hbD, hcD, -⟩
    refine wgx ?_
    have hxD : Ext w wD := Chg.trans' (hn1.ext.trans hxwC) hcD (fun k hk e => by omega)
    refine Fin.ret1c (.inl rfl) rfl rfl rfl rfl rfl hbD rfl ⟨⟨_, rfl, ?_⟩, hxD⟩
    rw [hnum]
    refine ⟨_, rfl, _, _, rfl, ?_, ?_⟩
    · exact (((rP.chg hnR.ext (fun _ _ _ h => h)).chg hxC (fun _ _ _ h => h)).chg hcD (fun k _ h e => by omega)).mono (fun k _ h => by omega)
    · exact ((rR.chg hxC (fun _ _ _ h => h)).chg hcD (fun k _ h e => by omega)).mono (fun k _ h => by omega)
  | false =>
    refine wgx ?_
    refine Ops.call rfl rfl rfl (strings_HasPrefix s _ w1) ?_
    rintro _ _ ⟨rfl, rfl⟩
    refine ⟨_, rfl, ?_⟩
    cases h2 : hasPre (by_ s) [115, 116, 111, 114, 101] with
    | true =>
      have hnum : numO op t (by_ s) = ⟨[1, t], []⟩ := by unfold numO; simp [h1, h2]
      refine wgx ?_
      refine Ops.e (Eff.buildSlice (cs := [.int .i64 1, .int .i64 t]) (e := 37) rfl (by kernel_rfl)) rfl ?_
      rintro _ wP ⟨rfl, hnP⟩
      have rP : IntsR (fun k => w1.heap.size ≤ k) wP _ [1, t] := IntsR.ofNew hnP rfl (by have := hxw1.size; omega) (by simp)
      have hxwP : Ext w1 wP := hxw1.trans hnP.ext
      refine wgx ?_
      refine Ops.call rfl rfl rfl (opcode_of _ _ _ _ _ _ wP) ?_
      rintro _ wC ⟨rfl, hxC⟩
      refine ⟨_, rfl, ?_⟩
      have hxwC : Ext w1 wC := hxwP.trans hxC
      refine wgx ?_
      refine Ops.e0 (Eff.storeB (ti := ti47) (cs := [_, _]) rfl rfl rfl rfl rfl (by simp [Value.oneCell']) (hb1.chg hxwC id) rfl) ?_
      rintro _ wD ⟨hbD, hcD, -⟩
      refine wgx ?_
      have hxD : Ext w wD := Chg.trans' (hn1.ext.trans hxwC) hcD (fun k hk e => by omega)
      refine Fin.ret1c (.inl rfl) rfl rfl rfl rfl rfl hbD rfl ⟨⟨_, rfl, ?_⟩, hxD⟩
      rw [hnum]
      refine ⟨_, rfl, _, _, rfl, ?_, ?_⟩
      · exact ((rP.chg hxC (fun _ _ _ h => h)).chg hcD (fun k _ h e => by omega)).mono (fun k _ h => by omega)
      · exact IntsR.nil0 _ _
    | false =>
      refine wgx ?_
      rw [show (ByteArray.mk #[101, 113, 122]).data.toList = [101, 113, 122] from rfl, show s.data.toList = by_ s from rfl]
      cases h3 : (by_ s == [101, 113, 122]) with
      | true =>
        have hnum : numO op t (by_ s) = ⟨[t], [1]⟩ := by unfold numO; simp [h1, h2, h3]
        refine wgx ?_
        refine Ops.e (Eff.buildSlice (cs := [.int .i64 t]) (e := 37) rfl (by kernel_rfl)) rfl ?_
        rintro _ wP ⟨rfl, hnP⟩
        have rP : IntsR (fun k => w1.heap.size ≤ k) wP _ [t] := IntsR.ofNew hnP rfl (by have := hxw1.size; omega) (by simp)
        have hxwP : Ext w1 wP := hxw1.trans hnP.ext
        refine wgx ?_
        refine Ops.e (Eff.buildSlice (cs := [.int .i64 1]) (e := 37) rfl (by kernel_rfl)) rfl ?_
        rintro _ wR ⟨rfl, hnR⟩
        have rR : IntsR (fun k => w1.heap.size ≤ k) wR _ [1] := IntsR.ofNew hnR rfl (by have := hxwP.size; omega) (by simp)
        have hxwR : Ext w1 wR := hxwP.trans hnR.ext
        refine wgx ?_
        refine Ops.call rfl rfl rfl (opcode_of _ _ _ _ _ _ wR) ?_
        rintro _ wC ⟨rfl, hxC⟩
        refine ⟨_, rfl, ?_⟩
        have hxwC : Ext w1 wC := hxwR.trans hxC
        refine wgx ?_
        refine Ops.e0 (Eff.storeB (ti := ti47) (cs := [_, _]) rfl rfl rfl rfl rfl (by simp [Value.oneCell']) (hb1.chg hxwC id) rfl) ?_
        rintro _ wD ⟨hbD, hcD, -⟩
        refine wgx ?_
        have hxD : Ext w wD := Chg.trans' (hn1.ext.trans hxwC) hcD (fun k hk e => by omega)
        refine Fin.ret1c (.inl rfl) rfl rfl rfl rfl rfl hbD rfl ⟨⟨_, rfl, ?_⟩, hxD⟩
        rw [hnum]
        refine ⟨_, rfl, _, _, rfl, ?_, ?_⟩
        · exact (((rP.chg hnR.ext (fun _ _ _ h => h)).chg hxC (fun _ _ _ h => h)).chg hcD (fun k _ h e => by omega)).mono (fun k _ h => by omega)
        · exact ((rR.chg hxC (fun _ _ _ h => h)).chg hcD (fun k _ h e => by omega)).mono (fun k _ h => by omega)
      | false =>
        rcases (show op < 70 ∨ (70 ≤ op ∧ 90 < op) ∨ (70 ≤ op ∧ op ≤ 90) by omega) with h4 | ⟨h4, h4'⟩ | ⟨h4, h4'⟩
        · have hr : ¬ (70 ≤ op ∧ op ≤ 90) := by omega
          refine wgx ?_
          rw [show (ByteArray.mk #[99, 108, 122]).data.toList = [99, 108, 122] from rfl, show s.data.toList = by_ s from rfl]
          cases h5 : (by_ s == [99, 108, 122]) with
          | true =>
            have hnum : numO op t (by_ s) = ⟨[t], [t]⟩ := by unfold numO; simp [h1, h2, h3, hr, h5]
            refine wgx ?_
            refine Ops.e (Eff.buildSlice (cs := [.int .i64 t]) (e := 37) rfl (by kernel_rfl)) rfl ?_
            rintro _ wP ⟨rfl, hnP⟩
            have rP : IntsR (fun k => w1.heap.size ≤ k) wP _ [t] := IntsR.ofNew hnP rfl (by have := hxw1.size; omega) (by simp)
            have hxwP : Ext w1 wP := hxw1.trans hnP.ext
            refine wgx ?_
            refine Ops.e (Eff.buildSlice (cs := [.int .i64 t]) (e := 37) rfl (by kernel_rfl)) rfl ?_
            rintro _ wR ⟨rfl, hnR⟩
            have rR : IntsR (fun k => w1.heap.size ≤ k) wR _ [t] := IntsR.ofNew hnR rfl (by have := hxwP.size; omega) (by simp)
            have hxwR : Ext w1 wR := hxwP.trans hnR.ext
            refine wgx ?_
            refine Ops.call rfl rfl rfl (opcode_of _ _ _ _ _ _ wR) ?_
            rintro _ wC ⟨rfl, hxC⟩
            refine ⟨_, rfl, ?_⟩
            have hxwC : Ext w1 wC := hxwR.trans hxC
            refine wgx ?_
            refine Ops.e0 (Eff.storeB (ti := ti47) (cs := [_, _]) rfl rfl rfl rfl rfl (by simp [Value.oneCell']) (hb1.chg hxwC id) rfl) ?_
            rintro _ wD ⟨hbD, hcD, -⟩
            refine wgx ?_
            have hxD : Ext w wD := Chg.trans' (hn1.ext.trans hxwC) hcD (fun k hk e => by omega)
            refine Fin.ret1c (.inl rfl) rfl rfl rfl rfl rfl hbD rfl ⟨⟨_, rfl, ?_⟩, hxD⟩
            rw [hnum]
            refine ⟨_, rfl, _, _, rfl, ?_, ?_⟩
            · exact (((rP.chg hnR.ext (fun _ _ _ h => h)).chg hxC (fun _ _ _ h => h)).chg hcD (fun k _ h e => by omega)).mono (fun k _ h => by omega)
            · exact ((rR.chg hxC (fun _ _ _ h => h)).chg hcD (fun k _ h e => by omega)).mono (fun k _ h => by omega)
          | false =>
            refine wgx ?_
            rw [show (ByteArray.mk #[99, 116, 122]).data.toList = [99, 116, 122] from rfl, show s.data.toList = by_ s from rfl]
            cases h6 : (by_ s == [99, 116, 122]) with
            | true =>
              have hnum : numO op t (by_ s) = ⟨[t], [t]⟩ := by unfold numO; simp [h1, h2, h3, hr, h5, h6]
              refine wgx ?_
              refine Ops.e (Eff.buildSlice (cs := [.int .i64 t]) (e := 37) rfl (by kernel_rfl)) rfl ?_
              rintro _ wP ⟨rfl, hnP⟩
              have rP : IntsR (fun k => w1.heap.size ≤ k) wP _ [t] := IntsR.ofNew hnP rfl (by have := hxw1.size; omega) (by simp)
              have hxwP : Ext w1 wP := hxw1.trans hnP.ext
              refine wgx ?_
              refine Ops.e (Eff.buildSlice (cs := [.int .i64 t]) (e := 37) rfl (by kernel_rfl)) rfl ?_
              rintro _ wR ⟨rfl, hnR⟩
              have rR : IntsR (fun k => w1.heap.size ≤ k) wR _ [t] := IntsR.ofNew hnR rfl (by have := hxwP.size; omega) (by simp)
              have hxwR : Ext w1 wR := hxwP.trans hnR.ext
              refine wgx ?_
              refine Ops.call rfl rfl rfl (opcode_of _ _ _ _ _ _ wR) ?_
              rintro _ wC ⟨rfl, hxC⟩
              refine ⟨_, rfl, ?_⟩
              have hxwC : Ext w1 wC := hxwR.trans hxC
              refine wgx ?_
              refine Ops.e0 (Eff.storeB (ti := ti47) (cs := [_, _]) rfl rfl rfl rfl rfl (by simp [Value.oneCell']) (hb1.chg hxwC id) rfl) ?_
              rintro _ wD ⟨hbD, hcD, -⟩
              refine wgx ?_
              have hxD : Ext w wD := Chg.trans' (hn1.ext.trans hxwC) hcD (fun k hk e => by omega)
              refine Fin.ret1c (.inl rfl) rfl rfl rfl rfl rfl hbD rfl ⟨⟨_, rfl, ?_⟩, hxD⟩
              rw [hnum]
              refine ⟨_, rfl, _, _, rfl, ?_, ?_⟩
              · exact (((rP.chg hnR.ext (fun _ _ _ h => h)).chg hxC (fun _ _ _ h => h)).chg hcD (fun k _ h e => by omega)).mono (fun k _ h => by omega)
              · exact ((rR.chg hxC (fun _ _ _ h => h)).chg hcD (fun k _ h e => by omega)).mono (fun k _ h => by omega)
            | false =>
              refine wgx ?_
              rw [show (ByteArray.mk #[112, 111, 112, 99, 110, 116]).data.toList = [112, 111, 112, 99, 110, 116] from rfl, show s.data.toList = by_ s from rfl]
              cases h7 : (by_ s == [112, 111, 112, 99, 110, 116]) with
              | true =>
                have hnum : numO op t (by_ s) = ⟨[t], [t]⟩ := by unfold numO; simp [h1, h2, h3, hr, h5, h6, h7]
                refine wgx ?_
                refine Ops.e (Eff.buildSlice (cs := [.int .i64 t]) (e := 37) rfl (by kernel_rfl)) rfl ?_
                rintro _ wP ⟨rfl, hnP⟩
                have rP : IntsR (fun k => w1.heap.size ≤ k) wP _ [t] := IntsR.ofNew hnP rfl (by have := hxw1.size; omega) (by simp)
                have hxwP : Ext w1 wP := hxw1.trans hnP.ext
                refine wgx ?_
                refine Ops.e (Eff.buildSlice (cs := [.int .i64 t]) (e := 37) rfl (by kernel_rfl)) rfl ?_
                rintro _ wR ⟨rfl, hnR⟩
                have rR : IntsR (fun k => w1.heap.size ≤ k) wR _ [t] := IntsR.ofNew hnR rfl (by have := hxwP.size; omega) (by simp)
                have hxwR : Ext w1 wR := hxwP.trans hnR.ext
                refine wgx ?_
                refine Ops.call rfl rfl rfl (opcode_of _ _ _ _ _ _ wR) ?_
                rintro _ wC ⟨rfl, hxC⟩
                refine ⟨_, rfl, ?_⟩
                have hxwC : Ext w1 wC := hxwR.trans hxC
                refine wgx ?_
                refine Ops.e0 (Eff.storeB (ti := ti47) (cs := [_, _]) rfl rfl rfl rfl rfl (by simp [Value.oneCell']) (hb1.chg hxwC id) rfl) ?_
                rintro _ wD ⟨hbD, hcD, -⟩
                refine wgx ?_
                have hxD : Ext w wD := Chg.trans' (hn1.ext.trans hxwC) hcD (fun k hk e => by omega)
                refine Fin.ret1c (.inl rfl) rfl rfl rfl rfl rfl hbD rfl ⟨⟨_, rfl, ?_⟩, hxD⟩
                rw [hnum]
                refine ⟨_, rfl, _, _, rfl, ?_, ?_⟩
                · exact (((rP.chg hnR.ext (fun _ _ _ h => h)).chg hxC (fun _ _ _ h => h)).chg hcD (fun k _ h e => by omega)).mono (fun k _ h => by omega)
                · exact ((rR.chg hxC (fun _ _ _ h => h)).chg hcD (fun k _ h e => by omega)).mono (fun k _ h => by omega)
              | false =>
                refine wgx ?_
                refine Ops.callg rfl rfl rfl rfl (strings_HasPrefix s _ w1) ?_
                rintro _ _ ⟨rfl, rfl⟩
                refine ⟨_, rfl, ?_⟩
                cases h8 : hasPre (by_ s) [101, 120, 116, 101, 110, 100] with
                | true =>
                  have hnum : numO op t (by_ s) = ⟨[t], [t]⟩ := by unfold numO; simp [h1, h2, h3, hr, h5, h6, h7, h8]
                  refine wgx ?_
                  refine Ops.e (Eff.buildSlice (cs := [.int .i64 t]) (e := 37) rfl (by kernel_rfl)) rfl ?_
                  rintro _ wP ⟨rfl, hnP⟩
                  have rP : IntsR (fun k => w1.heap.size ≤ k) wP _ [t] := IntsR.ofNew hnP rfl (by have := hxw1.size; omega) (by simp)
                  have hxwP : Ext w1 wP := hxw1.trans hnP.ext
                  refine wgx ?_
                  refine Ops.e (Eff.buildSlice (cs := [.int .i64 t]) (e := 37) rfl (by kernel_rfl)) rfl ?_
                  rintro _ wR ⟨rfl, hnR⟩
                  have rR : IntsR (fun k => w1.heap.size ≤ k) wR _ [t] := IntsR.ofNew hnR rfl (by have := hxwP.size; omega) (by simp)
                  have hxwR : Ext w1 wR := hxwP.trans hnR.ext
                  refine wgx ?_
                  refine Ops.call rfl rfl rfl (opcode_of _ _ _ _ _ _ wR) ?_
                  rintro _ wC ⟨rfl, hxC⟩
                  refine ⟨_, rfl, ?_⟩
                  have hxwC : Ext w1 wC := hxwR.trans hxC
                  refine wgx ?_
                  refine Ops.e0 (Eff.storeB (ti := ti47) (cs := [_, _]) rfl rfl rfl rfl rfl (by simp [Value.oneCell']) (hb1.chg hxwC id) rfl) ?_
                  rintro _ wD ⟨hbD, hcD, -⟩
                  refine wgx ?_
                  have hxD : Ext w wD := Chg.trans' (hn1.ext.trans hxwC) hcD (fun k hk e => by omega)
                  refine Fin.ret1c (.inl rfl) rfl rfl rfl rfl rfl hbD rfl ⟨⟨_, rfl, ?_⟩, hxD⟩
                  rw [hnum]
                  refine ⟨_, rfl, _, _, rfl, ?_, ?_⟩
                  · exact (((rP.chg hnR.ext (fun _ _ _ h => h)).chg hxC (fun _ _ _ h => h)).chg hcD (fun k _ h e => by omega)).mono (fun k _ h => by omega)
                  · exact ((rR.chg hxC (fun _ _ _ h => h)).chg hcD (fun k _ h e => by omega)).mono (fun k _ h => by omega)
                | false =>
                  have hnum : numO op t (by_ s) = ⟨[t, t], [t]⟩ := by unfold numO; simp [h1, h2, h3, hr, h5, h6, h7, h8]
                  refine wgx ?_
                  refine Ops.e (Eff.buildSlice (cs := [.int .i64 t, .int .i64 t]) (e := 37) rfl (by kernel_rfl)) rfl ?_
                  rintro _ wP ⟨rfl, hnP⟩
                  have rP : IntsR (fun k => w1.heap.size ≤ k) wP _ [t, t] := IntsR.ofNew hnP rfl (by have := hxw1.size; omega) (by simp)
                  have hxwP : Ext w1 wP := hxw1.trans hnP.ext
                  refine wgx ?_
                  refine Ops.e (Eff.buildSlice (cs := [.int .i64 t]) (e := 37) rfl (by kernel_rfl)) rfl ?_
                  rintro _ wR ⟨rfl, hnR⟩
                  have rR : IntsR (fun k => w1.heap.size ≤ k) wR _ [t] := IntsR.ofNew hnR rfl (by have := hxwP.size; omega) (by simp)
                  have hxwR : Ext w1 wR := hxwP.trans hnR.ext
                  refine wgx ?_
                  refine Ops.call rfl rfl rfl (opcode_of _ _ _ _ _ _ wR) ?_
                  rintro _ wC ⟨rfl, hxC⟩
                  refine ⟨_, rfl, ?_⟩
                  have hxwC : Ext w1 wC := hxwR.trans hxC
                  refine wgx ?_
                  refine Ops.e0 (Eff.storeB (ti := ti47) (cs := [_, _]) rfl rfl rfl rfl rfl (by simp [Value.oneCell']) (hb1.chg hxwC id) rfl) ?_
                  rintro _ wD ⟨hbD, hcD, -⟩
                  refine wgx ?_
                  have hxD : Ext w wD := Chg.trans' (hn1.ext.trans hxwC) hcD (fun k hk e => by omega)
                  refine Fin.ret1c (.inl rfl) rfl rfl rfl rfl rfl hbD rfl ⟨⟨_, rfl, ?_⟩, hxD⟩
                  rw [hnum]
                  refine ⟨_, rfl, _, _, rfl, ?_, ?_⟩
                  · exact (((rP.chg hnR.ext (fun _ _ _ h => h)).chg hxC (fun _ _ _ h => h)).chg hcD (fun k _ h e => by omega)).mono (fun k _ h => by omega)
                  · exact ((rR.chg hxC (fun _ _ _ h => h)).chg hcD (fun k _ h e => by omega)).mono (fun k _ h => by omega)
        · have hr : ¬ (70 ≤ op ∧ op ≤ 90) := by omega
          refine wgx ?_
          rw [show (ByteArray.mk #[99, 108, 122]).data.toList = [99, 108, 122] from rfl, show s.data.toList = by_ s from rfl]
          cases h5 : (by_ s == [99, 108, 122]) with
          | true =>
            have hnum : numO op t (by_ s) = ⟨[t], [t]⟩ := by unfold numO; simp [h1, h2, h3, hr, h5]
            refine wgx ?_
            refine Ops.e (Eff.buildSlice (cs := [.int .i64 t]) (e := 37) rfl (by kernel_rfl)) rfl ?_
            rintro _ wP ⟨rfl, hnP⟩
            have rP : IntsR (fun k => w1.heap.size ≤ k) wP _ [t] := IntsR.ofNew hnP rfl (by have := hxw1.size; omega) (by simp)
            have hxwP : Ext w1 wP := hxw1.trans hnP.ext
            refine wgx ?_
            refine Ops.e (Eff.buildSlice (cs := [.int .i64 t]) (e := 37) rfl (by kernel_rfl)) rfl ?_
            rintro _ wR ⟨rfl, hnR⟩
            have rR : IntsR (fun k => w1.heap.size ≤ k) wR _ [t] := IntsR.ofNew hnR rfl (by have := hxwP.size; omega) (by simp)
            have hxwR : Ext w1 wR := hxwP.trans hnR.ext
            refine wgx ?_
            refine Ops.call rfl rfl rfl (opcode_of _ _ _ _ _ _ wR) ?_
            rintro _ wC ⟨rfl, hxC⟩
            refine ⟨_, rfl, ?_⟩
            have hxwC : Ext w1 wC := hxwR.trans hxC
            refine wgx ?_
            refine Ops.e0 (Eff.storeB (ti := ti47) (cs := [_, _]) rfl rfl rfl rfl rfl (by simp [Value.oneCell']) (hb1.chg hxwC id) rfl) ?_
            rintro _ wD ⟨hbD, hcD, -⟩
            refine wgx ?_
            have hxD : Ext w wD := Chg.trans' (hn1.ext.trans hxwC) hcD (fun k hk e => by omega)
            refine Fin.ret1c (.inl rfl) rfl rfl rfl rfl rfl hbD rfl ⟨⟨_, rfl, ?_⟩, hxD⟩
            rw [hnum]
            refine ⟨_, rfl, _, _, rfl, ?_, ?_⟩
            · exact (((rP.chg hnR.ext (fun _ _ _ h => h)).chg hxC (fun _ _ _ h => h)).chg hcD (fun k _ h e => by omega)).mono (fun k _ h => by omega)
            · exact ((rR.chg hxC (fun _ _ _ h => h)).chg hcD (fun k _ h e => by omega)).mono (fun k _ h => by omega)
          | false =>
            refine wgx ?_
            rw [show (ByteArray.mk #[99, 116, 122]).data.toList = [99, 116, 122] from rfl, show s.data.toList = by_ s from rfl]
            cases h6 : (by_ s == [99, 116, 122]) with
            | true =>
              have hnum : numO op t (by_ s) = ⟨[t], [t]⟩ := by unfold numO; simp [h1, h2, h3, hr, h5, h6]
              refine wgx ?_
              refine Ops.e (Eff.buildSlice (cs := [.int .i64 t]) (e := 37) rfl (by kernel_rfl)) rfl ?_
              rintro _ wP ⟨rfl, hnP⟩
              have rP : IntsR (fun k => w1.heap.size ≤ k) wP _ [t] := IntsR.ofNew hnP rfl (by have := hxw1.size; omega) (by simp)
              have hxwP : Ext w1 wP := hxw1.trans hnP.ext
              refine wgx ?_
              refine Ops.e (Eff.buildSlice (cs := [.int .i64 t]) (e := 37) rfl (by kernel_rfl)) rfl ?_
              rintro _ wR ⟨rfl, hnR⟩
              have rR : IntsR (fun k => w1.heap.size ≤ k) wR _ [t] := IntsR.ofNew hnR rfl (by have := hxwP.size; omega) (by simp)
              have hxwR : Ext w1 wR := hxwP.trans hnR.ext
              refine wgx ?_
              refine Ops.call rfl rfl rfl (opcode_of _ _ _ _ _ _ wR) ?_
              rintro _ wC ⟨rfl, hxC⟩
              refine ⟨_, rfl, ?_⟩
              have hxwC : Ext w1 wC := hxwR.trans hxC
              refine wgx ?_
              refine Ops.e0 (Eff.storeB (ti := ti47) (cs := [_, _]) rfl rfl rfl rfl rfl (by simp [Value.oneCell']) (hb1.chg hxwC id) rfl) ?_
              rintro _ wD ⟨hbD, hcD, -⟩
              refine wgx ?_
              have hxD : Ext w wD := Chg.trans' (hn1.ext.trans hxwC) hcD (fun k hk e => by omega)
              refine Fin.ret1c (.inl rfl) rfl rfl rfl rfl rfl hbD rfl ⟨⟨_, rfl, ?_⟩, hxD⟩
              rw [hnum]
              refine ⟨_, rfl, _, _, rfl, ?_, ?_⟩
              · exact (((rP.chg hnR.ext (fun _ _ _ h => h)).chg hxC (fun _ _ _ h => h)).chg hcD (fun k _ h e => by omega)).mono (fun k _ h => by omega)
              · exact ((rR.chg hxC (fun _ _ _ h => h)).chg hcD (fun k _ h e => by omega)).mono (fun k _ h => by omega)
            | false =>
              refine wgx ?_
              rw [show (ByteArray.mk #[112, 111, 112, 99, 110, 116]).data.toList = [112, 111, 112, 99, 110, 116] from rfl, show s.data.toList = by_ s from rfl]
              cases h7 : (by_ s == [112, 111, 112, 99, 110, 116]) with
              | true =>
                have hnum : numO op t (by_ s) = ⟨[t], [t]⟩ := by unfold numO; simp [h1, h2, h3, hr, h5, h6, h7]
                refine wgx ?_
                refine Ops.e (Eff.buildSlice (cs := [.int .i64 t]) (e := 37) rfl (by kernel_rfl)) rfl ?_
                rintro _ wP ⟨rfl, hnP⟩
                have rP : IntsR (fun k => w1.heap.size ≤ k) wP _ [t] := IntsR.ofNew hnP rfl (by have := hxw1.size; omega) (by simp)
                have hxwP : Ext w1 wP := hxw1.trans hnP.ext
                refine wgx ?_
                refine Ops.e (Eff.buildSlice (cs := [.int .i64 t]) (e := 37) rfl (by kernel_rfl)) rfl ?_
                rintro _ wR ⟨rfl, hnR⟩
                have rR : IntsR (fun k => w1.heap.size ≤ k) wR _ [t] := IntsR.ofNew hnR rfl (by have := hxwP.size; omega) (by simp)
                have hxwR : Ext w1 wR := hxwP.trans hnR.ext
                refine wgx ?_
                refine Ops.call rfl rfl rfl (opcode_of _ _ _ _ _ _ wR) ?_
                rintro _ wC ⟨rfl, hxC⟩
                refine ⟨_, rfl, ?_⟩
                have hxwC : Ext w1 wC := hxwR.trans hxC
                refine wgx ?_
                refine Ops.e0 (Eff.storeB (ti := ti47) (cs := [_, _]) rfl rfl rfl rfl rfl (by simp [Value.oneCell']) (hb1.chg hxwC id) rfl) ?_
                rintro _ wD ⟨hbD, hcD, -⟩
                refine wgx ?_
                have hxD : Ext w wD := Chg.trans' (hn1.ext.trans hxwC) hcD (fun k hk e => by omega)
                refine Fin.ret1c (.inl rfl) rfl rfl rfl rfl rfl hbD rfl ⟨⟨_, rfl, ?_⟩, hxD⟩
                rw [hnum]
                refine ⟨_, rfl, _, _, rfl, ?_, ?_⟩
                · exact (((rP.chg hnR.ext (fun _ _ _ h => h)).chg hxC (fun _ _ _ h => h)).chg hcD (fun k _ h e => by omega)).mono (fun k _ h => by omega)
                · exact ((rR.chg hxC (fun _ _ _ h => h)).chg hcD (fun k _ h e => by omega)).mono (fun k _ h => by omega)
              | false =>
                refine wgx ?_
                refine Ops.callg rfl rfl rfl rfl (strings_HasPrefix s _ w1) ?_
                rintro _ _ ⟨rfl, rfl⟩
                refine ⟨_, rfl, ?_⟩
                cases h8 : hasPre (by_ s) [101, 120, 116, 101, 110, 100] with
                | true =>
                  have hnum : numO op t (by_ s) = ⟨[t], [t]⟩ := by unfold numO; simp [h1, h2, h3, hr, h5, h6, h7, h8]
                  refine wgx ?_
                  refine Ops.e (Eff.buildSlice (cs := [.int .i64 t]) (e := 37) rfl (by kernel_rfl)) rfl ?_
                  rintro _ wP ⟨rfl, hnP⟩
                  have rP : IntsR (fun k => w1.heap.size ≤ k) wP _ [t] := IntsR.ofNew hnP rfl (by have := hxw1.size; omega) (by simp)
                  have hxwP : Ext w1 wP := hxw1.trans hnP.ext
                  refine wgx ?_
                  refine Ops.e (Eff.buildSlice (cs := [.int .i64 t]) (e := 37) rfl (by kernel_rfl)) rfl ?_
                  rintro _ wR ⟨rfl, hnR⟩
                  have rR : IntsR (fun k => w1.heap.size ≤ k) wR _ [t] := IntsR.ofNew hnR rfl (by have := hxwP.size; omega) (by simp)
                  have hxwR : Ext w1 wR := hxwP.trans hnR.ext
                  refine wgx ?_
                  refine Ops.call rfl rfl rfl (opcode_of _ _ _ _ _ _ wR) ?_
                  rintro _ wC ⟨rfl, hxC⟩
                  refine ⟨_, rfl, ?_⟩
                  have hxwC : Ext w1 wC := hxwR.trans hxC
                  refine wgx ?_
                  refine Ops.e0 (Eff.storeB (ti := ti47) (cs := [_, _]) rfl rfl rfl rfl rfl (by simp [Value.oneCell']) (hb1.chg hxwC id) rfl) ?_
                  rintro _ wD ⟨hbD, hcD, -⟩
                  refine wgx ?_
                  have hxD : Ext w wD := Chg.trans' (hn1.ext.trans hxwC) hcD (fun k hk e => by omega)
                  refine Fin.ret1c (.inl rfl) rfl rfl rfl rfl rfl hbD rfl ⟨⟨_, rfl, ?_⟩, hxD⟩
                  rw [hnum]
                  refine ⟨_, rfl, _, _, rfl, ?_, ?_⟩
                  · exact (((rP.chg hnR.ext (fun _ _ _ h => h)).chg hxC (fun _ _ _ h => h)).chg hcD (fun k _ h e => by omega)).mono (fun k _ h => by omega)
                  · exact ((rR.chg hxC (fun _ _ _ h => h)).chg hcD (fun k _ h e => by omega)).mono (fun k _ h => by omega)
                | false =>
                  have hnum : numO op t (by_ s) = ⟨[t, t], [t]⟩ := by unfold numO; simp [h1, h2, h3, hr, h5, h6, h7, h8]
                  refine wgx ?_
                  refine Ops.e (Eff.buildSlice (cs := [.int .i64 t, .int .i64 t]) (e := 37) rfl (by kernel_rfl)) rfl ?_
                  rintro _ wP ⟨rfl, hnP⟩
                  have rP : IntsR (fun k => w1.heap.size ≤ k) wP _ [t, t] := IntsR.ofNew hnP rfl (by have := hxw1.size; omega) (by simp)
                  have hxwP : Ext w1 wP := hxw1.trans hnP.ext
                  refine wgx ?_
                  refine Ops.e (Eff.buildSlice (cs := [.int .i64 t]) (e := 37) rfl (by kernel_rfl)) rfl ?_
                  rintro _ wR ⟨rfl, hnR⟩
                  have rR : IntsR (fun k => w1.heap.size ≤ k) wR _ [t] := IntsR.ofNew hnR rfl (by have := hxwP.size; omega) (by simp)
                  have hxwR : Ext w1 wR := hxwP.trans hnR.ext
                  refine wgx ?_
                  refine Ops.call rfl rfl rfl (opcode_of _ _ _ _ _ _ wR) ?_
                  rintro _ wC ⟨rfl, hxC⟩
                  refine ⟨_, rfl, ?_⟩
                  have hxwC : Ext w1 wC := hxwR.trans hxC
                  refine wgx ?_
                  refine Ops.e0 (Eff.storeB (ti := ti47) (cs := [_, _]) rfl rfl rfl rfl rfl (by simp [Value.oneCell']) (hb1.chg hxwC id) rfl) ?_
                  rintro _ wD ⟨hbD, hcD, -⟩
                  refine wgx ?_
                  have hxD : Ext w wD := Chg.trans' (hn1.ext.trans hxwC) hcD (fun k hk e => by omega)
                  refine Fin.ret1c (.inl rfl) rfl rfl rfl rfl rfl hbD rfl ⟨⟨_, rfl, ?_⟩, hxD⟩
                  rw [hnum]
                  refine ⟨_, rfl, _, _, rfl, ?_, ?_⟩
                  · exact (((rP.chg hnR.ext (fun _ _ _ h => h)).chg hxC (fun _ _ _ h => h)).chg hcD (fun k _ h e => by omega)).mono (fun k _ h => by omega)
                  · exact ((rR.chg hxC (fun _ _ _ h => h)).chg hcD (fun k _ h e => by omega)).mono (fun k _ h => by omega)
        · skip
          have hnum : numO op t (by_ s) = ⟨[t, t], [1]⟩ := by unfold numO; simp [h1, h2, h3, h4, h4']
          refine wgx ?_
          refine Ops.e (Eff.buildSlice (cs := [.int .i64 t, .int .i64 t]) (e := 37) rfl (by kernel_rfl)) rfl ?_
          rintro _ wP ⟨rfl, hnP⟩
          have rP : IntsR (fun k => w1.heap.size ≤ k) wP _ [t, t] := IntsR.ofNew hnP rfl (by have := hxw1.size; omega) (by simp)
          have hxwP : Ext w1 wP := hxw1.trans hnP.ext
          refine wgx ?_
          refine Ops.e (Eff.buildSlice (cs := [.int .i64 1]) (e := 37) rfl (by kernel_rfl)) rfl ?_
          rintro _ wR ⟨rfl, hnR⟩
          have rR : IntsR (fun k => w1.heap.size ≤ k) wR _ [1] := IntsR.ofNew hnR rfl (by have := hxwP.size; omega) (by simp)
          have hxwR : Ext w1 wR := hxwP.trans hnR.ext
          refine wgx ?_
          refine Ops.call rfl rfl rfl (opcode_of _ _ _ _ _ _ wR) ?_
          rintro _ wC ⟨rfl, hxC⟩
          refine ⟨_, rfl, ?_⟩
          have hxwC : Ext w1 wC := hxwR.trans hxC
          refine wgx ?_
          refine Ops.e0 (Eff.storeB (ti := ti47) (cs := [_, _]) rfl rfl rfl rfl rfl (by simp [Value.oneCell']) (hb1.chg hxwC id) rfl) ?_
          rintro _ wD ⟨hbD, hcD, -⟩
          refine wgx ?_
          have hxD : Ext w wD := Chg.trans' (hn1.ext.trans hxwC) hcD (fun k hk e => by omega)
          refine Fin.ret1c (.inl rfl) rfl rfl rfl rfl rfl hbD rfl ⟨⟨_, rfl, ?_⟩, hxD⟩
          rw [hnum]
          refine ⟨_, rfl, _, _, rfl, ?_, ?_⟩
          · exact (((rP.chg hnR.ext (fun _ _ _ h => h)).chg hxC (fun _ _ _ h => h)).chg hcD (fun k _ h e => by omega)).mono (fun k _ h => by omega)
          · exact ((rR.chg hxC (fun _ _ _ h => h)).chg hcD (fun k _ h e => by omega)).mono (fun k _ h => by omega)
end Go.Proofs.YtgbgnipidakdhaaGreatDoor
