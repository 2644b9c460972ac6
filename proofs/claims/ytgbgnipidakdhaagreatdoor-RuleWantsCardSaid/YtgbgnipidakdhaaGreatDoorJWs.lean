/- ref05.Sig: the reference's signatures. -/
import Derived.Test.YtgbgnipidakdhaaGreatDoorJWj
namespace Go.Proofs.YtgbgnipidakdhaaGreatDoor
open Go.RowKit
set_option maxRecDepth 100000
def typ5 (s : List UInt8) : Int := if 4 < s.length ∧ (s.take 4 == [105, 54, 52, 46]) = true then 2 else 1
theorem ref05_typ (s : List UInt8) (w : World) (hs : s.length ≤ 1000) : Calls G.P 178 #[.string ⟨s.toArray⟩] w fun e w' => e = .returned (.int .i64 (typ5 s)) ∧ Ext w w' := by
  have z1 : (⟨s.toArray⟩ : ByteArray).size = s.length := rfl
  refine enterH (l := [.string ⟨s.toArray⟩]) Tryz.func178 rfl Tryz.ntmps178 rfl (Ok.start w) ?_
  by_cases h4 : 4 < s.length
  · have e : ((ByteArray.mk s.toArray).extract 0 4).data.toList = s.take 4 := by
      show by_ _ = _
      rw [by_extract]; simp
    repeat' (first | refine wau ?_ | (refine OpsH.isG ?_; refine OpsH.yg rfl (Yl.sliceSHi (i := 4) Tryz.underlying9 rfl rfl rfl (by omega)) rfl ?_) | (refine wspl ?_ ?_ <;> intro hc_))
    · have hc2 : (s.take 4 == [105, 54, 52, 46]) = true := by rw [← e]; exact hc_
      exact FinH.ret1 rfl rfl fun w' hw' => ⟨by unfold typ5; rw [if_pos ⟨h4, hc2⟩], hw'.at⟩
    · have hc2 : (s.take 4 == [105, 54, 52, 46]) = false := by rw [← e]; exact hc_
      exact FinH.ret1 rfl rfl fun w' hw' => ⟨by unfold typ5; rw [if_neg (by rw [hc2]; simp)], hw'.at⟩
  · repeat' (first | refine wau ?_ | (refine wspl ?_ ?_ <;> intro hc_))
    all_goals first | omega | exact FinH.ret1 rfl rfl fun w' hw' => ⟨by unfold typ5; rw [if_neg (by omega)], hw'.at⟩
theorem ref05_fn (p0 p1 : Option Addr) (n0 n1 c0 c1 : Nat) (w : World) : Calls G.P 180 #[.slice p0 n0 c0, .slice p1 n1 c1] w fun e w' => e = .returned (.agg #[.slice p0 n0 c0, .slice p1 n1 c1]) ∧ Ext w w' := by
  refine enterH (l := [_, _]) Tryz.func180 rfl Tryz.ntmps180 rfl (Ok.start w) ?_
  repeat' (first | refine wau ?_ | (refine qal2q fun b_ => ?_) | (refine wspl ?_ ?_ <;> intro hc_))
  all_goals exact FinH.ret1c (.inl rfl) rfl rfl rfl rfl rfl wup rfl fun w' hw' => ⟨by rfl, hw'.at⟩
def plain5 (op : Int) : Option ApiFunc :=
  if op = 1 ∨ op = 64525 ∨ op = 64521 then some ⟨[], []⟩
  else if op = 65 ∨ op = 63 ∨ op = 64528 then some ⟨[], [1]⟩
  else if op = 66 then some ⟨[], [2]⟩
  else if op = 210 then some ⟨[], [3]⟩
  else if op = 64 then some ⟨[1], [1]⟩
  else if op = 64523 ∨ op = 64522 ∨ op = 64520 ∨ op = 64526 ∨ op = 64524 then some ⟨[1, 1, 1], []⟩
  else if op = 167 then some ⟨[2], [1]⟩
  else if op = 172 ∨ op = 173 then some ⟨[1], [2]⟩ else none
set_option maxHeartbeats 16000000 in
theorem ref05_plain (op : Int) (w : World) : Calls G.P 176 #[.int .i64 op] w (FGives (plain5 op) (fun _ => False) w) := by
  refine enterH (l := [_]) Tryz.func176 rfl Tryz.ntmps176 rfl (Ok.start w) ?_
  repeat' (first | refine wav ?_ | (refine qal2q fun b_ => ?_) | (refine qbsq fun b_ _ => ?_) | (refine OpsH.isCall (f := 180) ?_; refine OpsH.call1 rfl rfl rfl (fun w' hw' => ref05_fn _ _ _ _ _ _ w') ?_) | (refine wspv ?_ ?_ <;> (intro hc_; try subst hc_)))
  all_goals first | rw [show plain5 1 = some ⟨[], []⟩ from by unfold plain5; (repeat (first | rw [if_pos (by decide)] | rw [if_neg (by decide)]))] | rw [show plain5 64525 = some ⟨[], []⟩ from by unfold plain5; (repeat (first | rw [if_pos (by decide)] | rw [if_neg (by decide)]))] | rw [show plain5 64521 = some ⟨[], []⟩ from by unfold plain5; (repeat (first | rw [if_pos (by decide)] | rw [if_neg (by decide)]))] | rw [show plain5 65 = some ⟨[], [1]⟩ from by unfold plain5; (repeat (first | rw [if_pos (by decide)] | rw [if_neg (by decide)]))] | rw [show plain5 63 = some ⟨[], [1]⟩ from by unfold plain5; (repeat (first | rw [if_pos (by decide)] | rw [if_neg (by decide)]))] | rw [show plain5 64528 = some ⟨[], [1]⟩ from by unfold plain5; (repeat (first | rw [if_pos (by decide)] | rw [if_neg (by decide)]))] | rw [show plain5 66 = some ⟨[], [2]⟩ from by unfold plain5; (repeat (first | rw [if_pos (by decide)] | rw [if_neg (by decide)]))] | rw [show plain5 210 = some ⟨[], [3]⟩ from by unfold plain5; (repeat (first | rw [if_pos (by decide)] | rw [if_neg (by decide)]))] | rw [show plain5 64 = some ⟨[1], [1]⟩ from by unfold plain5; (repeat (first | rw [if_pos (by decide)] | rw [if_neg (by decide)]))] | rw [show plain5 64523 = some ⟨[1, 1, 1], []⟩ from by unfold plain5; (repeat (first | rw [if_pos (by decide)] | rw [if_neg (by decide)]))] | rw [show plain5 64522 = some ⟨[1, 1, 1], []⟩ from by unfold plain5; (repeat (first | rw [if_pos (by decide)] | rw [if_neg (by decide)]))] | rw [show plain5 64520 = some ⟨[1, 1, 1], []⟩ from by unfold plain5; (repeat (first | rw [if_pos (by decide)] | rw [if_neg (by decide)]))] | rw [show plain5 64526 = some ⟨[1, 1, 1], []⟩ from by unfold plain5; (repeat (first | rw [if_pos (by decide)] | rw [if_neg (by decide)]))] | rw [show plain5 64524 = some ⟨[1, 1, 1], []⟩ from by unfold plain5; (repeat (first | rw [if_pos (by decide)] | rw [if_neg (by decide)]))] | rw [show plain5 167 = some ⟨[2], [1]⟩ from by unfold plain5; (repeat (first | rw [if_pos (by decide)] | rw [if_neg (by decide)]))] | rw [show plain5 172 = some ⟨[1], [2]⟩ from by unfold plain5; (repeat (first | rw [if_pos (by decide)] | rw [if_neg (by decide)]))] | rw [show plain5 173 = some ⟨[1], [2]⟩ from by unfold plain5; (repeat (first | rw [if_pos (by decide)] | rw [if_neg (by decide)]))] | rw [show plain5 op = none from by unfold plain5; simp only [*, if_false, or_false]]
  all_goals exact FinH.ret2c (.inl rfl) rfl rfl rfl rfl rfl wup rfl rfl fun w' hw' => ⟨⟨(_, _), rfl, qclq, qclq⟩, hw'.at⟩
def rest5 (op k t : Int) (ld ex : Bool) : Option ApiFunc :=
  if k = 17 ∧ ld = true then some ⟨[1], [t]⟩ else if k = 17 then some ⟨[1, t], []⟩ else if op = 69 ∨ op = 80 then some ⟨[t], [1]⟩
  else if (69 < op ∧ op ≤ 79) ∨ (80 < op ∧ op ≤ 90) then some ⟨[t, t], [1]⟩
  else if (103 ≤ op ∧ op ≤ 105) ∨ (121 ≤ op ∧ op ≤ 123) ∨ ex = true then some ⟨[t], [t]⟩
  else if (106 ≤ op ∧ op ≤ 120) ∨ (124 ≤ op ∧ op ≤ 138) then some ⟨[t, t], [t]⟩ else none
def sig5 (op : Int) : Option ApiFunc := match plain5 op with
  | some f => some f
  | none => rest5 op (ofK op) (typ5 (row5 op).2.1) (within5 (row5 op).2.1 [108, 111, 97, 100]) (within5 (row5 op).2.1 [101, 120, 116, 101, 110, 100])
theorem sig_tab : (r05.all fun r => decide ((sigO r.1).isSome = (sig5 r.1).isSome) && decide (((sigO r.1).getD noF).params = ((sig5 r.1).getD noF).params) && decide (((sigO r.1).getD noF).results = ((sig5 r.1).getD noF).results)) = true := by decide +kernel
theorem sig5_eq (op : Int) : sigO op = sig5 op := by
  cases h : find5 op with
  | some r =>
    have := List.all_eq_true.1 sig_tab r (List.mem_of_find?_eq_some h)
    have e : r.1 = op := by have := List.find?_some h; simpa using this
    rw [e] at this
    simp only [Bool.and_eq_true, decide_eq_true_eq] at this
    obtain ⟨⟨h1, h2⟩, h3⟩ := this
    cases ha : sigO op with
    | none =>
      cases hb : sig5 op with
      | none => rfl
      | some g => rw [ha, hb] at h1; cases h1
    | some f =>
      cases hb : sig5 op with
      | none => rw [ha, hb] at h1; cases h1
      | some g =>
        rw [ha, hb] at h2 h3
        obtain ⟨f1, f2⟩ := f
        obtain ⟨g1, g2⟩ := g
        dsimp only [Option.getD_some] at h2 h3
        rw [h2, h3]
  | none =>
    have hne : ∀ c, (find5 c).isSome = true → op ≠ c := fun c hc he => by rw [← he, h] at hc; cases hc
    have hx : ∀ (b : Int) (n : Nat), (∀ i, i < n → (find5 (b + (i : Nat))).isSome = true) → ¬ (b ≤ op ∧ op < b + n) := fun b n hall ⟨h1, h2⟩ => by
      have := hall (op - b).toNat (by omega)
      rw [show b + ((op - b).toNat : Int) = op from by omega, h] at this; cases this
    have r1 := hx 69 22 (by decide +kernel)
    have r2 := hx 103 36 (by decide +kernel)
    have e1 : by_ (nameO op) = [] := by rw [nameO_5]; unfold row5; rw [h]; rfl
    have e2 : ofK op = 0 := by unfold ofK row5; rw [h]; rfl
    have e3 : (row5 op).2.1 = [] := by unfold row5; rw [h]; rfl
    have p1 := hne 1 (by decide +kernel)
    have p2 := hne 64525 (by decide +kernel)
    have p3 := hne 64521 (by decide +kernel)
    have p4 := hne 65 (by decide +kernel)
    have p5 := hne 63 (by decide +kernel)
    have p6 := hne 64528 (by decide +kernel)
    have p7 := hne 66 (by decide +kernel)
    have p8 := hne 210 (by decide +kernel)
    have p9 := hne 64 (by decide +kernel)
    have p10 := hne 64523 (by decide +kernel)
    have p11 := hne 64522 (by decide +kernel)
    have p12 := hne 64520 (by decide +kernel)
    have p13 := hne 64526 (by decide +kernel)
    have p14 := hne 64524 (by decide +kernel)
    have p15 := hne 167 (by decide +kernel)
    have p16 := hne 172 (by decide +kernel)
    have p17 := hne 173 (by decide +kernel)
    have s1 : sigO op = none := by
      unfold sigO
      rw [e1, if_neg (by omega), if_neg (by omega), if_neg (by omega), if_neg (by omega), if_neg (by omega), if_neg (by omega), if_neg (by omega), if_neg (by omega), if_neg (by decide)]
    have s2 : plain5 op = none := by
      unfold plain5
      rw [if_neg (by omega), if_neg (by omega), if_neg (by omega), if_neg (by omega), if_neg (by omega), if_neg (by omega), if_neg (by omega), if_neg (by omega)]
    have s3 : within5 [] [101, 120, 116, 101, 110, 100] = false := by decide +kernel
    rw [s1]
    unfold sig5
    rw [s2]
    dsimp only
    unfold rest5
    rw [e2, e3, s3, if_neg (by omega), if_neg (by omega), if_neg (by omega), if_neg (by omega), if_neg (by rintro (h | h | h) <;> first | omega | cases h), if_neg (by omega)]
theorem name5_len : (r05.all fun r => decide (r.2.1.length ≤ 100)) = true := by decide +kernel
theorem row5_len (op : Int) : (row5 op).2.1.length ≤ 1000 := by
  unfold row5
  cases h : find5 op with
  | none => exact Nat.zero_le _
  | some r =>
    have := List.all_eq_true.1 name5_len r (List.mem_of_find?_eq_some h)
    simp only [decide_eq_true_eq] at this
    show r.2.1.length ≤ 1000
    omega
theorem qr15q {g g' : Prop} (h : g') (hw : Hold g' → g := by (intro hk_; (first | (refine OpsH.isCall (f := 180) ?_; refine OpsH.call1 rfl rfl rfl (fun w' hw' => ref05_fn _ _ _ _ _ _ w') ?_) | (refine OpsH.isCall (f := 86) ?_; refine OpsH.call1 rfl rfl rfl (fun w' hw' => hof w') ?_) | (refine OpsH.isCall (f := 177) ?_; refine OpsH.call1 rfl rfl rfl (fun w' hw' => hnm w') ?_) | (refine OpsH.isCall (f := 178) ?_; refine OpsH.call1 rfl rfl rfl (fun w' hw' => hty w') ?_) | (refine OpsH.isCallG (f := 179) ?_; refine OpsH.call1g wgd rfl rfl rfl (fun w' hw' => hl w') ?_)); exact hk_.out)) : g := hw ⟨h⟩
set_option maxHeartbeats 4000000 in
theorem ref05_Sig_ld (op k t : Int) (ld ex : Bool) (s : List UInt8) (w : World) (hpl : ∀ w', Calls G.P 176 #[.int .i64 op] w' (FGives none (fun _ => False) w')) (hof : ∀ w', Calls G.P 86 #[.int .i64 op] w' fun e w2 => e = .returned (.int .i64 k) ∧ Ext w' w2) (hnm : ∀ w', Calls G.P 177 #[.int .i64 op] w' fun e w2 => e = .returned (.string ⟨s.toArray⟩) ∧ Ext w' w2) (hty : ∀ w', Calls G.P 178 #[.string ⟨s.toArray⟩] w' fun e w2 => e = .returned (.int .i64 t) ∧ Ext w' w2) (hl : ∀ w', Calls G.P 179 #[.string ⟨s.toArray⟩, .string ⟨#[108, 111, 97, 100]⟩] w' fun e w2 => e = .returned (.bool ld) ∧ Ext w' w2) (_he : ∀ w', Calls G.P 179 #[.string ⟨s.toArray⟩, .string ⟨#[101, 120, 116, 101, 110, 100]⟩] w' fun e w2 => e = .returned (.bool ex) ∧ Ext w' w2) (hk : k = 17) (hx : ld = true) : Calls G.P 151 #[.int .i64 op] w (FGives (some ⟨[1], [t]⟩) (fun _ => False) w) := by
  subst hk; subst hx
  refine enterH (l := [_]) Tryz.func151 rfl Tryz.ntmps151 rfl (Ok.start w) ?_
  repeat' (first | refine wau ?_ | (refine qal2q fun b_ => ?_) | (refine qbsq fun b_ _ => ?_) | refine qr15q ?_ | (refine OpsH.isCall (f := 176) ?_; refine OpsH.he (HE.sgO0 (r := none) wmem rfl rfl (fun w' hw' => hpl w')) rfl ?_; rintro ⟨D_, p_, c_, q_, d_⟩ hD_; dsimp only) | (refine wspl ?_ ?_ <;> intro hc_))
  all_goals first | omega | exact FinH.ret2c (.inl rfl) rfl rfl rfl rfl rfl wup rfl rfl fun w' hw' => ⟨⟨(_, _), rfl, qclq, qclq⟩, hw'.at⟩
set_option maxHeartbeats 4000000 in
theorem ref05_Sig_st (op k t : Int) (ld ex : Bool) (s : List UInt8) (w : World) (hpl : ∀ w', Calls G.P 176 #[.int .i64 op] w' (FGives none (fun _ => False) w')) (hof : ∀ w', Calls G.P 86 #[.int .i64 op] w' fun e w2 => e = .returned (.int .i64 k) ∧ Ext w' w2) (hnm : ∀ w', Calls G.P 177 #[.int .i64 op] w' fun e w2 => e = .returned (.string ⟨s.toArray⟩) ∧ Ext w' w2) (hty : ∀ w', Calls G.P 178 #[.string ⟨s.toArray⟩] w' fun e w2 => e = .returned (.int .i64 t) ∧ Ext w' w2) (hl : ∀ w', Calls G.P 179 #[.string ⟨s.toArray⟩, .string ⟨#[108, 111, 97, 100]⟩] w' fun e w2 => e = .returned (.bool ld) ∧ Ext w' w2) (_he : ∀ w', Calls G.P 179 #[.string ⟨s.toArray⟩, .string ⟨#[101, 120, 116, 101, 110, 100]⟩] w' fun e w2 => e = .returned (.bool ex) ∧ Ext w' w2) (hk : k = 17) (hx : ld = false) : Calls G.P 151 #[.int .i64 op] w (FGives (some ⟨[1, t], []⟩) (fun _ => False) w) := by
  subst hk; subst hx
  refine enterH (l := [_]) Tryz.func151 rfl Tryz.ntmps151 rfl (Ok.start w) ?_
  repeat' (first | refine wau ?_ | (refine qal2q fun b_ => ?_) | (refine qbsq fun b_ _ => ?_) | refine qr15q ?_ | (refine OpsH.isCall (f := 176) ?_; refine OpsH.he (HE.sgO0 (r := none) wmem rfl rfl (fun w' hw' => hpl w')) rfl ?_; rintro ⟨D_, p_, c_, q_, d_⟩ hD_; dsimp only) | (refine wspl ?_ ?_ <;> intro hc_))
  all_goals first | omega | exact FinH.ret2c (.inl rfl) rfl rfl rfl rfl rfl wup rfl rfl fun w' hw' => ⟨⟨(_, _), rfl, qclq, qclq⟩, hw'.at⟩
theorem qr16q {g g' : Prop} (h : g') (hw : Hold g' → g := by (intro hk_; (first | (refine OpsH.isCall (f := 180) ?_; refine OpsH.call1 rfl rfl rfl (fun w' hw' => ref05_fn _ _ _ _ _ _ w') ?_) | (refine OpsH.isCall (f := 86) ?_; refine OpsH.call1 rfl rfl rfl (fun w' hw' => hof w') ?_) | (refine OpsH.isCall (f := 177) ?_; refine OpsH.call1 rfl rfl rfl (fun w' hw' => hnm w') ?_) | (refine OpsH.isCall (f := 178) ?_; refine OpsH.call1 rfl rfl rfl (fun w' hw' => hty w') ?_) | (refine OpsH.isCallG (f := 179) ?_; refine OpsH.call1g wgd rfl rfl rfl (fun w' hw' => he w') ?_)); exact hk_.out)) : g := hw ⟨h⟩
set_option maxHeartbeats 4000000 in
theorem ref05_Sig_eqz0 (op k t : Int) (ld ex : Bool) (s : List UInt8) (w : World) (hpl : ∀ w', Calls G.P 176 #[.int .i64 op] w' (FGives none (fun _ => False) w')) (hof : ∀ w', Calls G.P 86 #[.int .i64 op] w' fun e w2 => e = .returned (.int .i64 k) ∧ Ext w' w2) (hnm : ∀ w', Calls G.P 177 #[.int .i64 op] w' fun e w2 => e = .returned (.string ⟨s.toArray⟩) ∧ Ext w' w2) (hty : ∀ w', Calls G.P 178 #[.string ⟨s.toArray⟩] w' fun e w2 => e = .returned (.int .i64 t) ∧ Ext w' w2) (_hl : ∀ w', Calls G.P 179 #[.string ⟨s.toArray⟩, .string ⟨#[108, 111, 97, 100]⟩] w' fun e w2 => e = .returned (.bool ld) ∧ Ext w' w2) (_he : ∀ w', Calls G.P 179 #[.string ⟨s.toArray⟩, .string ⟨#[101, 120, 116, 101, 110, 100]⟩] w' fun e w2 => e = .returned (.bool ex) ∧ Ext w' w2) (hk : k ≠ 17) (ho : op = 69) : Calls G.P 151 #[.int .i64 op] w (FGives (some ⟨[t], [1]⟩) (fun _ => False) w) := by
  refine enterH (l := [_]) Tryz.func151 rfl Tryz.ntmps151 rfl (Ok.start w) ?_
  repeat' (first | refine wau ?_ | (refine qal2q fun b_ => ?_) | (refine qbsq fun b_ _ => ?_) | refine qr16q ?_ | (refine OpsH.isCall (f := 176) ?_; refine OpsH.he (HE.sgO0 (r := none) wmem rfl rfl (fun w' hw' => hpl w')) rfl ?_; rintro ⟨D_, p_, c_, q_, d_⟩ hD_; dsimp only) | (refine wspl ?_ ?_ <;> intro hc_))
  all_goals first | omega | exact FinH.ret2c (.inl rfl) rfl rfl rfl rfl rfl wup rfl rfl fun w' hw' => ⟨⟨(_, _), rfl, qclq, qclq⟩, hw'.at⟩
set_option maxHeartbeats 4000000 in
theorem ref05_Sig_eqz1 (op k t : Int) (ld ex : Bool) (s : List UInt8) (w : World) (hpl : ∀ w', Calls G.P 176 #[.int .i64 op] w' (FGives none (fun _ => False) w')) (hof : ∀ w', Calls G.P 86 #[.int .i64 op] w' fun e w2 => e = .returned (.int .i64 k) ∧ Ext w' w2) (hnm : ∀ w', Calls G.P 177 #[.int .i64 op] w' fun e w2 => e = .returned (.string ⟨s.toArray⟩) ∧ Ext w' w2) (hty : ∀ w', Calls G.P 178 #[.string ⟨s.toArray⟩] w' fun e w2 => e = .returned (.int .i64 t) ∧ Ext w' w2) (_hl : ∀ w', Calls G.P 179 #[.string ⟨s.toArray⟩, .string ⟨#[108, 111, 97, 100]⟩] w' fun e w2 => e = .returned (.bool ld) ∧ Ext w' w2) (_he : ∀ w', Calls G.P 179 #[.string ⟨s.toArray⟩, .string ⟨#[101, 120, 116, 101, 110, 100]⟩] w' fun e w2 => e = .returned (.bool ex) ∧ Ext w' w2) (hk : k ≠ 17) (ho : op = 80) : Calls G.P 151 #[.int .i64 op] w (FGives (some ⟨[t], [1]⟩) (fun _ => False) w) := by
  refine enterH (l := [_]) Tryz.func151 rfl Tryz.ntmps151 rfl (Ok.start w) ?_
  repeat' (first | refine wau ?_ | (refine qal2q fun b_ => ?_) | (refine qbsq fun b_ _ => ?_) | refine qr16q ?_ | (refine OpsH.isCall (f := 176) ?_; refine OpsH.he (HE.sgO0 (r := none) wmem rfl rfl (fun w' hw' => hpl w')) rfl ?_; rintro ⟨D_, p_, c_, q_, d_⟩ hD_; dsimp only) | (refine wspl ?_ ?_ <;> intro hc_))
  all_goals first | omega | exact FinH.ret2c (.inl rfl) rfl rfl rfl rfl rfl wup rfl rfl fun w' hw' => ⟨⟨(_, _), rfl, qclq, qclq⟩, hw'.at⟩
set_option maxHeartbeats 4000000 in
theorem ref05_Sig_cmp0 (op k t : Int) (ld ex : Bool) (s : List UInt8) (w : World) (hpl : ∀ w', Calls G.P 176 #[.int .i64 op] w' (FGives none (fun _ => False) w')) (hof : ∀ w', Calls G.P 86 #[.int .i64 op] w' fun e w2 => e = .returned (.int .i64 k) ∧ Ext w' w2) (hnm : ∀ w', Calls G.P 177 #[.int .i64 op] w' fun e w2 => e = .returned (.string ⟨s.toArray⟩) ∧ Ext w' w2) (hty : ∀ w', Calls G.P 178 #[.string ⟨s.toArray⟩] w' fun e w2 => e = .returned (.int .i64 t) ∧ Ext w' w2) (_hl : ∀ w', Calls G.P 179 #[.string ⟨s.toArray⟩, .string ⟨#[108, 111, 97, 100]⟩] w' fun e w2 => e = .returned (.bool ld) ∧ Ext w' w2) (_he : ∀ w', Calls G.P 179 #[.string ⟨s.toArray⟩, .string ⟨#[101, 120, 116, 101, 110, 100]⟩] w' fun e w2 => e = .returned (.bool ex) ∧ Ext w' w2) (hk : k ≠ 17) (ho : 69 < op ∧ op ≤ 79) : Calls G.P 151 #[.int .i64 op] w (FGives (some ⟨[t, t], [1]⟩) (fun _ => False) w) := by
  refine enterH (l := [_]) Tryz.func151 rfl Tryz.ntmps151 rfl (Ok.start w) ?_
  repeat' (first | refine wau ?_ | (refine qal2q fun b_ => ?_) | (refine qbsq fun b_ _ => ?_) | refine qr16q ?_ | (refine OpsH.isCall (f := 176) ?_; refine OpsH.he (HE.sgO0 (r := none) wmem rfl rfl (fun w' hw' => hpl w')) rfl ?_; rintro ⟨D_, p_, c_, q_, d_⟩ hD_; dsimp only) | (refine wspl ?_ ?_ <;> intro hc_))
  all_goals first | omega | exact FinH.ret2c (.inl rfl) rfl rfl rfl rfl rfl wup rfl rfl fun w' hw' => ⟨⟨(_, _), rfl, qclq, qclq⟩, hw'.at⟩
set_option maxHeartbeats 4000000 in
theorem ref05_Sig_cmp1 (op k t : Int) (ld ex : Bool) (s : List UInt8) (w : World) (hpl : ∀ w', Calls G.P 176 #[.int .i64 op] w' (FGives none (fun _ => False) w')) (hof : ∀ w', Calls G.P 86 #[.int .i64 op] w' fun e w2 => e = .returned (.int .i64 k) ∧ Ext w' w2) (hnm : ∀ w', Calls G.P 177 #[.int .i64 op] w' fun e w2 => e = .returned (.string ⟨s.toArray⟩) ∧ Ext w' w2) (hty : ∀ w', Calls G.P 178 #[.string ⟨s.toArray⟩] w' fun e w2 => e = .returned (.int .i64 t) ∧ Ext w' w2) (_hl : ∀ w', Calls G.P 179 #[.string ⟨s.toArray⟩, .string ⟨#[108, 111, 97, 100]⟩] w' fun e w2 => e = .returned (.bool ld) ∧ Ext w' w2) (_he : ∀ w', Calls G.P 179 #[.string ⟨s.toArray⟩, .string ⟨#[101, 120, 116, 101, 110, 100]⟩] w' fun e w2 => e = .returned (.bool ex) ∧ Ext w' w2) (hk : k ≠ 17) (ho : 80 < op ∧ op ≤ 90) : Calls G.P 151 #[.int .i64 op] w (FGives (some ⟨[t, t], [1]⟩) (fun _ => False) w) := by
  refine enterH (l := [_]) Tryz.func151 rfl Tryz.ntmps151 rfl (Ok.start w) ?_
  repeat' (first | refine wau ?_ | (refine qal2q fun b_ => ?_) | (refine qbsq fun b_ _ => ?_) | refine qr16q ?_ | (refine OpsH.isCall (f := 176) ?_; refine OpsH.he (HE.sgO0 (r := none) wmem rfl rfl (fun w' hw' => hpl w')) rfl ?_; rintro ⟨D_, p_, c_, q_, d_⟩ hD_; dsimp only) | (refine wspl ?_ ?_ <;> intro hc_))
  all_goals first | omega | exact FinH.ret2c (.inl rfl) rfl rfl rfl rfl rfl wup rfl rfl fun w' hw' => ⟨⟨(_, _), rfl, qclq, qclq⟩, hw'.at⟩
set_option maxHeartbeats 4000000 in
theorem ref05_Sig_un0 (op k t : Int) (ld ex : Bool) (s : List UInt8) (w : World) (hpl : ∀ w', Calls G.P 176 #[.int .i64 op] w' (FGives none (fun _ => False) w')) (hof : ∀ w', Calls G.P 86 #[.int .i64 op] w' fun e w2 => e = .returned (.int .i64 k) ∧ Ext w' w2) (hnm : ∀ w', Calls G.P 177 #[.int .i64 op] w' fun e w2 => e = .returned (.string ⟨s.toArray⟩) ∧ Ext w' w2) (hty : ∀ w', Calls G.P 178 #[.string ⟨s.toArray⟩] w' fun e w2 => e = .returned (.int .i64 t) ∧ Ext w' w2) (_hl : ∀ w', Calls G.P 179 #[.string ⟨s.toArray⟩, .string ⟨#[108, 111, 97, 100]⟩] w' fun e w2 => e = .returned (.bool ld) ∧ Ext w' w2) (_he : ∀ w', Calls G.P 179 #[.string ⟨s.toArray⟩, .string ⟨#[101, 120, 116, 101, 110, 100]⟩] w' fun e w2 => e = .returned (.bool ex) ∧ Ext w' w2) (hk : k ≠ 17) (ho : 103 ≤ op ∧ op ≤ 105) : Calls G.P 151 #[.int .i64 op] w (FGives (some ⟨[t], [t]⟩) (fun _ => False) w) := by
  refine enterH (l := [_]) Tryz.func151 rfl Tryz.ntmps151 rfl (Ok.start w) ?_
  repeat' (first | refine wau ?_ | (refine qal2q fun b_ => ?_) | (refine qbsq fun b_ _ => ?_) | refine qr16q ?_ | (refine OpsH.isCall (f := 176) ?_; refine OpsH.he (HE.sgO0 (r := none) wmem rfl rfl (fun w' hw' => hpl w')) rfl ?_; rintro ⟨D_, p_, c_, q_, d_⟩ hD_; dsimp only) | (refine wspl ?_ ?_ <;> intro hc_))
  all_goals first | omega | exact FinH.ret2c (.inl rfl) rfl rfl rfl rfl rfl wup rfl rfl fun w' hw' => ⟨⟨(_, _), rfl, qclq, qclq⟩, hw'.at⟩
set_option maxHeartbeats 4000000 in
theorem ref05_Sig_un1 (op k t : Int) (ld ex : Bool) (s : List UInt8) (w : World) (hpl : ∀ w', Calls G.P 176 #[.int .i64 op] w' (FGives none (fun _ => False) w')) (hof : ∀ w', Calls G.P 86 #[.int .i64 op] w' fun e w2 => e = .returned (.int .i64 k) ∧ Ext w' w2) (hnm : ∀ w', Calls G.P 177 #[.int .i64 op] w' fun e w2 => e = .returned (.string ⟨s.toArray⟩) ∧ Ext w' w2) (hty : ∀ w', Calls G.P 178 #[.string ⟨s.toArray⟩] w' fun e w2 => e = .returned (.int .i64 t) ∧ Ext w' w2) (_hl : ∀ w', Calls G.P 179 #[.string ⟨s.toArray⟩, .string ⟨#[108, 111, 97, 100]⟩] w' fun e w2 => e = .returned (.bool ld) ∧ Ext w' w2) (_he : ∀ w', Calls G.P 179 #[.string ⟨s.toArray⟩, .string ⟨#[101, 120, 116, 101, 110, 100]⟩] w' fun e w2 => e = .returned (.bool ex) ∧ Ext w' w2) (hk : k ≠ 17) (ho : 121 ≤ op ∧ op ≤ 123) : Calls G.P 151 #[.int .i64 op] w (FGives (some ⟨[t], [t]⟩) (fun _ => False) w) := by
  refine enterH (l := [_]) Tryz.func151 rfl Tryz.ntmps151 rfl (Ok.start w) ?_
  repeat' (first | refine wau ?_ | (refine qal2q fun b_ => ?_) | (refine qbsq fun b_ _ => ?_) | refine qr16q ?_ | (refine OpsH.isCall (f := 176) ?_; refine OpsH.he (HE.sgO0 (r := none) wmem rfl rfl (fun w' hw' => hpl w')) rfl ?_; rintro ⟨D_, p_, c_, q_, d_⟩ hD_; dsimp only) | (refine wspl ?_ ?_ <;> intro hc_))
  all_goals first | omega | exact FinH.ret2c (.inl rfl) rfl rfl rfl rfl rfl wup rfl rfl fun w' hw' => ⟨⟨(_, _), rfl, qclq, qclq⟩, hw'.at⟩
set_option maxHeartbeats 4000000 in
theorem ref05_Sig_ex0 (op k t : Int) (ld ex : Bool) (s : List UInt8) (w : World) (hpl : ∀ w', Calls G.P 176 #[.int .i64 op] w' (FGives none (fun _ => False) w')) (hof : ∀ w', Calls G.P 86 #[.int .i64 op] w' fun e w2 => e = .returned (.int .i64 k) ∧ Ext w' w2) (hnm : ∀ w', Calls G.P 177 #[.int .i64 op] w' fun e w2 => e = .returned (.string ⟨s.toArray⟩) ∧ Ext w' w2) (hty : ∀ w', Calls G.P 178 #[.string ⟨s.toArray⟩] w' fun e w2 => e = .returned (.int .i64 t) ∧ Ext w' w2) (_hl : ∀ w', Calls G.P 179 #[.string ⟨s.toArray⟩, .string ⟨#[108, 111, 97, 100]⟩] w' fun e w2 => e = .returned (.bool ld) ∧ Ext w' w2) (he : ∀ w', Calls G.P 179 #[.string ⟨s.toArray⟩, .string ⟨#[101, 120, 116, 101, 110, 100]⟩] w' fun e w2 => e = .returned (.bool ex) ∧ Ext w' w2) (hk : k ≠ 17) (ho : op < 69) (hx : ex = true) : Calls G.P 151 #[.int .i64 op] w (FGives (some ⟨[t], [t]⟩) (fun _ => False) w) := by
  subst hx
  refine enterH (l := [_]) Tryz.func151 rfl Tryz.ntmps151 rfl (Ok.start w) ?_
  repeat' (first | refine wau ?_ | (refine qal2q fun b_ => ?_) | (refine qbsq fun b_ _ => ?_) | refine qr16q ?_ | (refine OpsH.isCall (f := 176) ?_; refine OpsH.he (HE.sgO0 (r := none) wmem rfl rfl (fun w' hw' => hpl w')) rfl ?_; rintro ⟨D_, p_, c_, q_, d_⟩ hD_; dsimp only) | (refine wspl ?_ ?_ <;> intro hc_))
  all_goals first | omega | exact FinH.ret2c (.inl rfl) rfl rfl rfl rfl rfl wup rfl rfl fun w' hw' => ⟨⟨(_, _), rfl, qclq, qclq⟩, hw'.at⟩
set_option maxHeartbeats 4000000 in
theorem ref05_Sig_ex1 (op k t : Int) (ld ex : Bool) (s : List UInt8) (w : World) (hpl : ∀ w', Calls G.P 176 #[.int .i64 op] w' (FGives none (fun _ => False) w')) (hof : ∀ w', Calls G.P 86 #[.int .i64 op] w' fun e w2 => e = .returned (.int .i64 k) ∧ Ext w' w2) (hnm : ∀ w', Calls G.P 177 #[.int .i64 op] w' fun e w2 => e = .returned (.string ⟨s.toArray⟩) ∧ Ext w' w2) (hty : ∀ w', Calls G.P 178 #[.string ⟨s.toArray⟩] w' fun e w2 => e = .returned (.int .i64 t) ∧ Ext w' w2) (_hl : ∀ w', Calls G.P 179 #[.string ⟨s.toArray⟩, .string ⟨#[108, 111, 97, 100]⟩] w' fun e w2 => e = .returned (.bool ld) ∧ Ext w' w2) (he : ∀ w', Calls G.P 179 #[.string ⟨s.toArray⟩, .string ⟨#[101, 120, 116, 101, 110, 100]⟩] w' fun e w2 => e = .returned (.bool ex) ∧ Ext w' w2) (hk : k ≠ 17) (ho : 90 < op ∧ op < 103) (hx : ex = true) : Calls G.P 151 #[.int .i64 op] w (FGives (some ⟨[t], [t]⟩) (fun _ => False) w) := by
  subst hx
  refine enterH (l := [_]) Tryz.func151 rfl Tryz.ntmps151 rfl (Ok.start w) ?_
  repeat' (first | refine wau ?_ | (refine qal2q fun b_ => ?_) | (refine qbsq fun b_ _ => ?_) | refine qr16q ?_ | (refine OpsH.isCall (f := 176) ?_; refine OpsH.he (HE.sgO0 (r := none) wmem rfl rfl (fun w' hw' => hpl w')) rfl ?_; rintro ⟨D_, p_, c_, q_, d_⟩ hD_; dsimp only) | (refine wspl ?_ ?_ <;> intro hc_))
  all_goals first | omega | exact FinH.ret2c (.inl rfl) rfl rfl rfl rfl rfl wup rfl rfl fun w' hw' => ⟨⟨(_, _), rfl, qclq, qclq⟩, hw'.at⟩
set_option maxHeartbeats 4000000 in
theorem ref05_Sig_ex2 (op k t : Int) (ld ex : Bool) (s : List UInt8) (w : World) (hpl : ∀ w', Calls G.P 176 #[.int .i64 op] w' (FGives none (fun _ => False) w')) (hof : ∀ w', Calls G.P 86 #[.int .i64 op] w' fun e w2 => e = .returned (.int .i64 k) ∧ Ext w' w2) (hnm : ∀ w', Calls G.P 177 #[.int .i64 op] w' fun e w2 => e = .returned (.string ⟨s.toArray⟩) ∧ Ext w' w2) (hty : ∀ w', Calls G.P 178 #[.string ⟨s.toArray⟩] w' fun e w2 => e = .returned (.int .i64 t) ∧ Ext w' w2) (_hl : ∀ w', Calls G.P 179 #[.string ⟨s.toArray⟩, .string ⟨#[108, 111, 97, 100]⟩] w' fun e w2 => e = .returned (.bool ld) ∧ Ext w' w2) (he : ∀ w', Calls G.P 179 #[.string ⟨s.toArray⟩, .string ⟨#[101, 120, 116, 101, 110, 100]⟩] w' fun e w2 => e = .returned (.bool ex) ∧ Ext w' w2) (hk : k ≠ 17) (ho : 105 < op ∧ op < 121) (hx : ex = true) : Calls G.P 151 #[.int .i64 op] w (FGives (some ⟨[t], [t]⟩) (fun _ => False) w) := by
  subst hx
  refine enterH (l := [_]) Tryz.func151 rfl Tryz.ntmps151 rfl (Ok.start w) ?_
  repeat' (first | refine wau ?_ | (refine qal2q fun b_ => ?_) | (refine qbsq fun b_ _ => ?_) | refine qr16q ?_ | (refine OpsH.isCall (f := 176) ?_; refine OpsH.he (HE.sgO0 (r := none) wmem rfl rfl (fun w' hw' => hpl w')) rfl ?_; rintro ⟨D_, p_, c_, q_, d_⟩ hD_; dsimp only) | (refine wspl ?_ ?_ <;> intro hc_))
  all_goals first | omega | exact FinH.ret2c (.inl rfl) rfl rfl rfl rfl rfl wup rfl rfl fun w' hw' => ⟨⟨(_, _), rfl, qclq, qclq⟩, hw'.at⟩
set_option maxHeartbeats 4000000 in
theorem ref05_Sig_ex3 (op k t : Int) (ld ex : Bool) (s : List UInt8) (w : World) (hpl : ∀ w', Calls G.P 176 #[.int .i64 op] w' (FGives none (fun _ => False) w')) (hof : ∀ w', Calls G.P 86 #[.int .i64 op] w' fun e w2 => e = .returned (.int .i64 k) ∧ Ext w' w2) (hnm : ∀ w', Calls G.P 177 #[.int .i64 op] w' fun e w2 => e = .returned (.string ⟨s.toArray⟩) ∧ Ext w' w2) (hty : ∀ w', Calls G.P 178 #[.string ⟨s.toArray⟩] w' fun e w2 => e = .returned (.int .i64 t) ∧ Ext w' w2) (_hl : ∀ w', Calls G.P 179 #[.string ⟨s.toArray⟩, .string ⟨#[108, 111, 97, 100]⟩] w' fun e w2 => e = .returned (.bool ld) ∧ Ext w' w2) (he : ∀ w', Calls G.P 179 #[.string ⟨s.toArray⟩, .string ⟨#[101, 120, 116, 101, 110, 100]⟩] w' fun e w2 => e = .returned (.bool ex) ∧ Ext w' w2) (hk : k ≠ 17) (ho : 123 < op) (hx : ex = true) : Calls G.P 151 #[.int .i64 op] w (FGives (some ⟨[t], [t]⟩) (fun _ => False) w) := by
  subst hx
  refine enterH (l := [_]) Tryz.func151 rfl Tryz.ntmps151 rfl (Ok.start w) ?_
  repeat' (first | refine wau ?_ | (refine qal2q fun b_ => ?_) | (refine qbsq fun b_ _ => ?_) | refine qr16q ?_ | (refine OpsH.isCall (f := 176) ?_; refine OpsH.he (HE.sgO0 (r := none) wmem rfl rfl (fun w' hw' => hpl w')) rfl ?_; rintro ⟨D_, p_, c_, q_, d_⟩ hD_; dsimp only) | (refine wspl ?_ ?_ <;> intro hc_))
  all_goals first | omega | exact FinH.ret2c (.inl rfl) rfl rfl rfl rfl rfl wup rfl rfl fun w' hw' => ⟨⟨(_, _), rfl, qclq, qclq⟩, hw'.at⟩
set_option maxHeartbeats 4000000 in
theorem ref05_Sig_bin0 (op k t : Int) (ld ex : Bool) (s : List UInt8) (w : World) (hpl : ∀ w', Calls G.P 176 #[.int .i64 op] w' (FGives none (fun _ => False) w')) (hof : ∀ w', Calls G.P 86 #[.int .i64 op] w' fun e w2 => e = .returned (.int .i64 k) ∧ Ext w' w2) (hnm : ∀ w', Calls G.P 177 #[.int .i64 op] w' fun e w2 => e = .returned (.string ⟨s.toArray⟩) ∧ Ext w' w2) (hty : ∀ w', Calls G.P 178 #[.string ⟨s.toArray⟩] w' fun e w2 => e = .returned (.int .i64 t) ∧ Ext w' w2) (_hl : ∀ w', Calls G.P 179 #[.string ⟨s.toArray⟩, .string ⟨#[108, 111, 97, 100]⟩] w' fun e w2 => e = .returned (.bool ld) ∧ Ext w' w2) (he : ∀ w', Calls G.P 179 #[.string ⟨s.toArray⟩, .string ⟨#[101, 120, 116, 101, 110, 100]⟩] w' fun e w2 => e = .returned (.bool ex) ∧ Ext w' w2) (hk : k ≠ 17) (ho : 106 ≤ op ∧ op ≤ 120) (hx : ex = false) : Calls G.P 151 #[.int .i64 op] w (FGives (some ⟨[t, t], [t]⟩) (fun _ => False) w) := by
  subst hx
  refine enterH (l := [_]) Tryz.func151 rfl Tryz.ntmps151 rfl (Ok.start w) ?_
  repeat' (first | refine wau ?_ | (refine qal2q fun b_ => ?_) | (refine qbsq fun b_ _ => ?_) | refine qr16q ?_ | (refine OpsH.isCall (f := 176) ?_; refine OpsH.he (HE.sgO0 (r := none) wmem rfl rfl (fun w' hw' => hpl w')) rfl ?_; rintro ⟨D_, p_, c_, q_, d_⟩ hD_; dsimp only) | (refine wspl ?_ ?_ <;> intro hc_))
  all_goals first | omega | exact FinH.ret2c (.inl rfl) rfl rfl rfl rfl rfl wup rfl rfl fun w' hw' => ⟨⟨(_, _), rfl, qclq, qclq⟩, hw'.at⟩
set_option maxHeartbeats 4000000 in
theorem ref05_Sig_bin1 (op k t : Int) (ld ex : Bool) (s : List UInt8) (w : World) (hpl : ∀ w', Calls G.P 176 #[.int .i64 op] w' (FGives none (fun _ => False) w')) (hof : ∀ w', Calls G.P 86 #[.int .i64 op] w' fun e w2 => e = .returned (.int .i64 k) ∧ Ext w' w2) (hnm : ∀ w', Calls G.P 177 #[.int .i64 op] w' fun e w2 => e = .returned (.string ⟨s.toArray⟩) ∧ Ext w' w2) (hty : ∀ w', Calls G.P 178 #[.string ⟨s.toArray⟩] w' fun e w2 => e = .returned (.int .i64 t) ∧ Ext w' w2) (_hl : ∀ w', Calls G.P 179 #[.string ⟨s.toArray⟩, .string ⟨#[108, 111, 97, 100]⟩] w' fun e w2 => e = .returned (.bool ld) ∧ Ext w' w2) (he : ∀ w', Calls G.P 179 #[.string ⟨s.toArray⟩, .string ⟨#[101, 120, 116, 101, 110, 100]⟩] w' fun e w2 => e = .returned (.bool ex) ∧ Ext w' w2) (hk : k ≠ 17) (ho : 124 ≤ op ∧ op ≤ 138) (hx : ex = false) : Calls G.P 151 #[.int .i64 op] w (FGives (some ⟨[t, t], [t]⟩) (fun _ => False) w) := by
  subst hx
  refine enterH (l := [_]) Tryz.func151 rfl Tryz.ntmps151 rfl (Ok.start w) ?_
  repeat' (first | refine wau ?_ | (refine qal2q fun b_ => ?_) | (refine qbsq fun b_ _ => ?_) | refine qr16q ?_ | (refine OpsH.isCall (f := 176) ?_; refine OpsH.he (HE.sgO0 (r := none) wmem rfl rfl (fun w' hw' => hpl w')) rfl ?_; rintro ⟨D_, p_, c_, q_, d_⟩ hD_; dsimp only) | (refine wspl ?_ ?_ <;> intro hc_))
  all_goals first | omega | exact FinH.ret2c (.inl rfl) rfl rfl rfl rfl rfl wup rfl rfl fun w' hw' => ⟨⟨(_, _), rfl, qclq, qclq⟩, hw'.at⟩
set_option maxHeartbeats 4000000 in
theorem ref05_Sig_no0 (op k t : Int) (ld ex : Bool) (s : List UInt8) (w : World) (hpl : ∀ w', Calls G.P 176 #[.int .i64 op] w' (FGives none (fun _ => False) w')) (hof : ∀ w', Calls G.P 86 #[.int .i64 op] w' fun e w2 => e = .returned (.int .i64 k) ∧ Ext w' w2) (hnm : ∀ w', Calls G.P 177 #[.int .i64 op] w' fun e w2 => e = .returned (.string ⟨s.toArray⟩) ∧ Ext w' w2) (hty : ∀ w', Calls G.P 178 #[.string ⟨s.toArray⟩] w' fun e w2 => e = .returned (.int .i64 t) ∧ Ext w' w2) (_hl : ∀ w', Calls G.P 179 #[.string ⟨s.toArray⟩, .string ⟨#[108, 111, 97, 100]⟩] w' fun e w2 => e = .returned (.bool ld) ∧ Ext w' w2) (he : ∀ w', Calls G.P 179 #[.string ⟨s.toArray⟩, .string ⟨#[101, 120, 116, 101, 110, 100]⟩] w' fun e w2 => e = .returned (.bool ex) ∧ Ext w' w2) (hk : k ≠ 17) (ho : op < 69) (hx : ex = false) : Calls G.P 151 #[.int .i64 op] w (FGives (none) (fun _ => False) w) := by
  subst hx
  refine enterH (l := [_]) Tryz.func151 rfl Tryz.ntmps151 rfl (Ok.start w) ?_
  repeat' (first | refine wau ?_ | (refine qal2q fun b_ => ?_) | (refine qbsq fun b_ _ => ?_) | refine qr16q ?_ | (refine OpsH.isCall (f := 176) ?_; refine OpsH.he (HE.sgO0 (r := none) wmem rfl rfl (fun w' hw' => hpl w')) rfl ?_; rintro ⟨D_, p_, c_, q_, d_⟩ hD_; dsimp only) | (refine wspl ?_ ?_ <;> intro hc_))
  all_goals first | omega | exact FinH.ret2c (.inl rfl) rfl rfl rfl rfl rfl wup rfl rfl fun w' hw' => ⟨⟨(_, _), rfl, qclq, qclq⟩, hw'.at⟩
set_option maxHeartbeats 4000000 in
theorem ref05_Sig_no1 (op k t : Int) (ld ex : Bool) (s : List UInt8) (w : World) (hpl : ∀ w', Calls G.P 176 #[.int .i64 op] w' (FGives none (fun _ => False) w')) (hof : ∀ w', Calls G.P 86 #[.int .i64 op] w' fun e w2 => e = .returned (.int .i64 k) ∧ Ext w' w2) (hnm : ∀ w', Calls G.P 177 #[.int .i64 op] w' fun e w2 => e = .returned (.string ⟨s.toArray⟩) ∧ Ext w' w2) (hty : ∀ w', Calls G.P 178 #[.string ⟨s.toArray⟩] w' fun e w2 => e = .returned (.int .i64 t) ∧ Ext w' w2) (_hl : ∀ w', Calls G.P 179 #[.string ⟨s.toArray⟩, .string ⟨#[108, 111, 97, 100]⟩] w' fun e w2 => e = .returned (.bool ld) ∧ Ext w' w2) (he : ∀ w', Calls G.P 179 #[.string ⟨s.toArray⟩, .string ⟨#[101, 120, 116, 101, 110, 100]⟩] w' fun e w2 => e = .returned (.bool ex) ∧ Ext w' w2) (hk : k ≠ 17) (ho : 90 < op ∧ op < 103) (hx : ex = false) : Calls G.P 151 #[.int .i64 op] w (FGives (none) (fun _ => False) w) := by
  subst hx
  refine enterH (l := [_]) Tryz.func151 rfl Tryz.ntmps151 rfl (Ok.start w) ?_
  repeat' (first | refine wau ?_ | (refine qal2q fun b_ => ?_) | (refine qbsq fun b_ _ => ?_) | refine qr16q ?_ | (refine OpsH.isCall (f := 176) ?_; refine OpsH.he (HE.sgO0 (r := none) wmem rfl rfl (fun w' hw' => hpl w')) rfl ?_; rintro ⟨D_, p_, c_, q_, d_⟩ hD_; dsimp only) | (refine wspl ?_ ?_ <;> intro hc_))
  all_goals first | omega | exact FinH.ret2c (.inl rfl) rfl rfl rfl rfl rfl wup rfl rfl fun w' hw' => ⟨⟨(_, _), rfl, qclq, qclq⟩, hw'.at⟩
set_option maxHeartbeats 4000000 in
theorem ref05_Sig_no2 (op k t : Int) (ld ex : Bool) (s : List UInt8) (w : World) (hpl : ∀ w', Calls G.P 176 #[.int .i64 op] w' (FGives none (fun _ => False) w')) (hof : ∀ w', Calls G.P 86 #[.int .i64 op] w' fun e w2 => e = .returned (.int .i64 k) ∧ Ext w' w2) (hnm : ∀ w', Calls G.P 177 #[.int .i64 op] w' fun e w2 => e = .returned (.string ⟨s.toArray⟩) ∧ Ext w' w2) (hty : ∀ w', Calls G.P 178 #[.string ⟨s.toArray⟩] w' fun e w2 => e = .returned (.int .i64 t) ∧ Ext w' w2) (_hl : ∀ w', Calls G.P 179 #[.string ⟨s.toArray⟩, .string ⟨#[108, 111, 97, 100]⟩] w' fun e w2 => e = .returned (.bool ld) ∧ Ext w' w2) (he : ∀ w', Calls G.P 179 #[.string ⟨s.toArray⟩, .string ⟨#[101, 120, 116, 101, 110, 100]⟩] w' fun e w2 => e = .returned (.bool ex) ∧ Ext w' w2) (hk : k ≠ 17) (ho : 138 < op) (hx : ex = false) : Calls G.P 151 #[.int .i64 op] w (FGives (none) (fun _ => False) w) := by
  subst hx
  refine enterH (l := [_]) Tryz.func151 rfl Tryz.ntmps151 rfl (Ok.start w) ?_
  repeat' (first | refine wau ?_ | (refine qal2q fun b_ => ?_) | (refine qbsq fun b_ _ => ?_) | refine qr16q ?_ | (refine OpsH.isCall (f := 176) ?_; refine OpsH.he (HE.sgO0 (r := none) wmem rfl rfl (fun w' hw' => hpl w')) rfl ?_; rintro ⟨D_, p_, c_, q_, d_⟩ hD_; dsimp only) | (refine wspl ?_ ?_ <;> intro hc_))
  all_goals first | omega | exact FinH.ret2c (.inl rfl) rfl rfl rfl rfl rfl wup rfl rfl fun w' hw' => ⟨⟨(_, _), rfl, qclq, qclq⟩, hw'.at⟩
theorem ref05_Sig_rest (op k t : Int) (ld ex : Bool) (s : List UInt8) (w : World) (hpl : ∀ w', Calls G.P 176 #[.int .i64 op] w' (FGives none (fun _ => False) w')) (hof : ∀ w', Calls G.P 86 #[.int .i64 op] w' fun e w2 => e = .returned (.int .i64 k) ∧ Ext w' w2) (hnm : ∀ w', Calls G.P 177 #[.int .i64 op] w' fun e w2 => e = .returned (.string ⟨s.toArray⟩) ∧ Ext w' w2) (hty : ∀ w', Calls G.P 178 #[.string ⟨s.toArray⟩] w' fun e w2 => e = .returned (.int .i64 t) ∧ Ext w' w2) (hl : ∀ w', Calls G.P 179 #[.string ⟨s.toArray⟩, .string ⟨#[108, 111, 97, 100]⟩] w' fun e w2 => e = .returned (.bool ld) ∧ Ext w' w2) (he : ∀ w', Calls G.P 179 #[.string ⟨s.toArray⟩, .string ⟨#[101, 120, 116, 101, 110, 100]⟩] w' fun e w2 => e = .returned (.bool ex) ∧ Ext w' w2) : Calls G.P 151 #[.int .i64 op] w (FGives (rest5 op k t ld ex) (fun _ => False) w) := by
  by_cases hk : k = 17
  · cases hx : ld with
    | true => rw [show rest5 op k t true ex = some ⟨[1], [t]⟩ from if_pos ⟨hk, rfl⟩]; subst hx; exact ref05_Sig_ld op k t true ex s w hpl hof hnm hty hl he hk rfl
    | false => rw [show rest5 op k t false ex = some ⟨[1, t], []⟩ from by unfold rest5; rw [if_neg (fun h => by cases h.2), if_pos hk]]; subst hx; exact ref05_Sig_st op k t false ex s w hpl hof hnm hty hl he hk rfl
  have n1 : ¬ (k = 17 ∧ ld = true) := fun h => hk h.1
  by_cases h1 : op = 69 ∨ op = 80
  · rw [show rest5 op k t ld ex = some ⟨[t], [1]⟩ from by unfold rest5; rw [if_neg n1, if_neg hk, if_pos h1]]
    exact h1.elim (ref05_Sig_eqz0 op k t ld ex s w hpl hof hnm hty hl he hk) (ref05_Sig_eqz1 op k t ld ex s w hpl hof hnm hty hl he hk)
  by_cases h2 : (69 < op ∧ op ≤ 79) ∨ (80 < op ∧ op ≤ 90)
  · rw [show rest5 op k t ld ex = some ⟨[t, t], [1]⟩ from by unfold rest5; rw [if_neg n1, if_neg hk, if_neg h1, if_pos h2]]
    exact h2.elim (ref05_Sig_cmp0 op k t ld ex s w hpl hof hnm hty hl he hk) (ref05_Sig_cmp1 op k t ld ex s w hpl hof hnm hty hl he hk)
  by_cases h3 : (103 ≤ op ∧ op ≤ 105) ∨ (121 ≤ op ∧ op ≤ 123) ∨ ex = true
  · rw [show rest5 op k t ld ex = some ⟨[t], [t]⟩ from by unfold rest5; rw [if_neg n1, if_neg hk, if_neg h1, if_neg h2, if_pos h3]]
    rcases h3 with h3 | h3 | h3
    · exact ref05_Sig_un0 op k t ld ex s w hpl hof hnm hty hl he hk h3
    · exact ref05_Sig_un1 op k t ld ex s w hpl hof hnm hty hl he hk h3
    · by_cases a1 : op < 69
      · exact ref05_Sig_ex0 op k t ld ex s w hpl hof hnm hty hl he hk a1 h3
      by_cases a2 : 90 < op ∧ op < 103
      · exact ref05_Sig_ex1 op k t ld ex s w hpl hof hnm hty hl he hk a2 h3
      by_cases a3 : 105 < op ∧ op < 121
      · exact ref05_Sig_ex2 op k t ld ex s w hpl hof hnm hty hl he hk a3 h3
      by_cases a4 : 123 < op
      · exact ref05_Sig_ex3 op k t ld ex s w hpl hof hnm hty hl he hk a4 h3
      by_cases a5 : 103 ≤ op ∧ op ≤ 105
      · exact ref05_Sig_un0 op k t ld ex s w hpl hof hnm hty hl he hk a5
      · exact ref05_Sig_un1 op k t ld ex s w hpl hof hnm hty hl he hk (by omega)
  have hx : ex = false := by cases ex with
    | false => rfl
    | true => exact absurd (.inr (.inr rfl)) h3
  by_cases h4 : (106 ≤ op ∧ op ≤ 120) ∨ (124 ≤ op ∧ op ≤ 138)
  · rw [show rest5 op k t ld ex = some ⟨[t, t], [t]⟩ from by unfold rest5; rw [if_neg n1, if_neg hk, if_neg h1, if_neg h2, if_neg h3, if_pos h4]]
    rcases h4 with h4 | h4
    · exact ref05_Sig_bin0 op k t ld ex s w hpl hof hnm hty hl he hk h4 hx
    · exact ref05_Sig_bin1 op k t ld ex s w hpl hof hnm hty hl he hk h4 hx
  rw [show rest5 op k t ld ex = none from by unfold rest5; rw [if_neg n1, if_neg hk, if_neg h1, if_neg h2, if_neg h3, if_neg h4]]
  by_cases a1 : op < 69
  · exact ref05_Sig_no0 op k t ld ex s w hpl hof hnm hty hl he hk a1 hx
  by_cases a2 : 90 < op ∧ op < 103
  · exact ref05_Sig_no1 op k t ld ex s w hpl hof hnm hty hl he hk a2 hx
  · exact ref05_Sig_no2 op k t ld ex s w hpl hof hnm hty hl he hk (by omega) hx
set_option maxHeartbeats 16000000 in
theorem ref05_Sig (op : Int) (w : World) : Calls G.P 151 #[.int .i64 op] w (FGives (sigO op) (fun _ => False) w) := by
  rw [sig5_eq]
  unfold sig5
  cases hp : plain5 op with
  | some f =>
    dsimp only
    refine enterH (l := [_]) Tryz.func151 rfl Tryz.ntmps151 rfl (Ok.start w) ?_
    repeat' (first | refine wau ?_ | (refine qal2q fun b_ => ?_) | (refine OpsH.isCall (f := 176) ?_; refine OpsH.he (HE.sgO0 (r := some f) wmem rfl rfl (fun w' hw' => by have := ref05_plain op w'; rw [hp] at this; exact this)) rfl ?_; rintro ⟨D_, p_, c_, q_, d_⟩ hD_; dsimp only) | (refine wspl ?_ ?_ <;> intro hc_))
    all_goals (refine FinH.ret2c (.inl rfl) rfl rfl rfl rfl rfl wup rfl rfl ?_; exact fun w' hw' => Gives.ofS (f0 := (some f).getD noF) (tf := fun y : Value × Value => .tuple #[.agg #[y.1, y.2], .bool true]) ⟨D_, p_, c_, q_, d_⟩ hw' wmem wmem hD_)
  | none =>
    exact ref05_Sig_rest op _ _ _ _ _ w (fun w' => by have := ref05_plain op w'; rw [hp] at this; exact this) (fun w' => ref05_Of op w') (fun w' => ref05_Name op w') (fun w' => ref05_typ _ w' (row5_len op)) (fun w' => ref05_within _ _ w' (row5_len op) (by decide)) (fun w' => ref05_within _ _ w' (row5_len op) (by decide))
end Go.Proofs.YtgbgnipidakdhaaGreatDoor
