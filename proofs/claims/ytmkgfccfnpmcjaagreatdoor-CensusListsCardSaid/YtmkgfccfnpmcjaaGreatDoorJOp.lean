/- census.Ops. -/
import Derived.Test.YtmkgfccfnpmcjaaGreatDoorJAl
import Derived.Test.YtmkgfccfnpmcjaaGreatDoorJKb
namespace Go.Proofs.YtmkgfccfnpmcjaaGreatDoor
open Go.RowKit
set_option maxRecDepth 100000

/-- the map of counts -/
def gM (m : ApiModule) (i j : Nat) : Int → Option Value := fun op => if cntM m i j op = 0 then none else some (.int .i64 (cntM m i j op))
theorem gM_zero (m : ApiModule) : gM m 0 0 = fun _ => none := by funext op; simp [gM, cntM_zero]
theorem gM_get (m : ApiModule) (i j : Nat) (op : Int) : (gM m i j op).getD (.int .i64 0) = .int .i64 (cntM m i j op) := by
  unfold gM
  split
  · rename_i h; rw [h]; rfl
  · rfl
theorem gM_put {m : ApiModule} {i j : Nat} (h : j < (ix m.funcs i).body.length) : put (gM m i j) (ix (ix m.funcs i).body j).op (.int .i64 ((cntM m i j (ix (ix m.funcs i).body j).op : Int) + 1)) = gM m i (j + 1) := by
  funext b
  unfold put gM
  by_cases e : b = (ix (ix m.funcs i).body j).op
  · subst e
    rw [if_pos rfl, cntM_step h, if_pos rfl, if_neg (by omega)]; rfl
  · have h1 : cntM m i (j + 1) b = cntM m i j b := by rw [cntM_step h, if_neg (fun e' : (ix (ix m.funcs i).body j).op = b => e e'.symm), Nat.add_zero]
    rw [if_neg e, h1]
theorem gM_row {m : ApiModule} {i : Nat} (h : i < m.funcs.length) : gM m i (ix m.funcs i).body.length = gM m (i + 1) 0 := by
  funext op; unfold gM; rw [cntM_row h]
def cntL (m : ApiModule) (l : List Int) : List Int := l.map fun op => (cntM m m.funcs.length 0 op : Int)
theorem cntL_all (m : ApiModule) : cntL m opA = opsM m := by unfold cntL opsM; rw [opA_all5]
abbrev TInt : Nat := 3
abbrev TMp : Nat := 77
theorem opA_R64 : ∀ x ∈ opA, R64 x := by
  intro x hx
  have h : (opA.all fun x => decide (-100000 ≤ x) && decide (x ≤ 100000)) = true := by decide +kernel
  have := List.all_eq_true.1 h x hx
  simp only [Bool.and_eq_true, decide_eq_true_eq] at this
  unfold R64; omega
theorem own_cells {w : World} {B k : Nat} {v : Value} {xs : List Int} (h : OwnI B w v xs) (hk : v.ownBlock = some k) : ∃ cs, w.heap[k]? = some (.cells cs TInt (0, 0)) := by
  obtain ⟨-, ⟨rfl, -⟩ | ⟨g, cap, cur, rfl, -, hc, -⟩⟩ := h
  · cases hk
  · cases hk; exact ⟨cur, hc⟩
/-- what a round changes is below B or a row of numbers -/
theorem round_keeps {S : Nat → Prop} {W W' : World} {B : Nat} {ps : Array Tmp} (hc : Chg S W W') (hE : Env0 W') (hS : ∀ k, B ≤ k → S k → ∃ cs, W.heap[k]? = some (.cells cs TInt (0, 0))) : KeepL ps B W W' ∧ KpL B W W' := by
  have h1 : ∀ (k : Nat) (o : Obj), B ≤ k → W.heap[k]? = some o → ((∃ d, o = .deferred d) ∨ ∃ r, o = .loop r) → W'.heap[k]? = some o := fun k o hk ho hd => by
    rw [hc.block k (Array.getElem?_eq_some_iff.1 ho).1 (fun hs => by
      obtain ⟨cs, e⟩ := hS k hk hs
      rw [e] at ho; cases ho
      rcases hd with ⟨d, e⟩ | ⟨r, e⟩ <;> cases e)]; exact ho
  refine ⟨⟨hc.size, fun k o hk ho hd => h1 k o hk ho (hd.imp id fun ⟨r, e, _⟩ => ⟨r, e⟩)⟩, ⟨⟨hc.size, fun k cs T hk hT hb => ?_, fun _ => hE⟩, fun k o hk ho hd => h1 k o hk ho (hd.imp id fun ⟨r, e, _⟩ => ⟨r, e⟩)⟩⟩
  have hb' : W.heap[k]? = some (.cells cs.toArray T (0, 0)) := hb
  show W'.heap[k]? = _
  rw [hc.block k (Array.getElem?_eq_some_iff.1 hb').1 (fun hs => by
    obtain ⟨cs', e⟩ := hS k hk hs
    rw [hb'] at e; cases e
    rcases hT with h | h | h <;> exact absurd h (by decide))]; exact hb'

set_option maxHeartbeats 32000000 in
theorem census_Ops (F : Nat → Prop) (m : ApiModule) (cs : List Value) (w : World) (hm : ApiModuleV F w cs m) (hL : LensP m) (hsm : SmallM m) (h0 : Env0 w) : Calls G.P 15 #[.agg cs.toArray] w fun e w' => (∃ v, e = .returned v ∧ OwnI w.heap.size w' v (opsM m)) ∧ Ext w w' := by
  obtain ⟨v0, v1, v2, v3, v4, v5, v6, v7, v8, v9, rfl, r0, r1, r2, r3, r4, r5, r6, r7, r8, r9, g0⟩ := hm
  obtain ⟨p2, c2, rfl, l2⟩ := r2.slice
  obtain ⟨-, L1, L2, -⟩ := hL
  refine enterN (l := [.agg (([v0, v1, Value.slice p2 m.funcs.length c2, v3, v4, v5, v6, Value.bool m.hasStart, Value.int .i64 m.start, v7, v8, v9] : List Value)).toArray]) Tryz.func15 rfl Tryz.ntmps15 rfl (Ok.start w) ?_
  refine wgn ?_
  refine OpsN.he (HE.box ([v0, v1, Value.slice p2 m.funcs.length c2, v3, v4, v5, v6, Value.bool m.hasStart, Value.int .i64 m.start, v7, v8, v9] : List Value) rfl rfl) rfl rfl ?_
  intro b1 _
  refine wgn ?_
  refine OpsN.he HE.makeMap rfl rfl ?_
  intro bm _
  refine wgn ?_
  refine OpsN.he (HE.alloc [.map none] rfl rfl) rfl rfl ?_
  intro b3 _
  refine wgn ?_
  refine OpsN.he0 (HE0.storeB [.map (some bm)] rfl rfl rfl rfl rfl rfl wup rfl) rfl ?_
  rintro ⟨⟩ _
  refine wgn ?_
  refine CdN.ofH ?_
  refine CdH.loop (σ := Nat) (fun i => [(12, .slice p2 m.funcs.length c2), (13, .int .i64 m.funcs.length), (14, .int .i64 i), (1, .pointer (some ⟨b1, 0, none⟩)), (3, .pointer (some ⟨b3, 0, none⟩))]) (fun i => [.blk b3 ([.map (some bm)] : List Value) TMp, .iv bm (gM m i 0), .blk b1 ([v0, v1, Value.slice p2 m.funcs.length c2, v3, v4, v5, v6, Value.bool m.hasStart, Value.int .i64 m.start, v7, v8, v9] : List Value) TMod]) (fun _ => [Ext w]) (fun i => i ≤ m.funcs.length) (fun i => m.funcs.length - i) 0 wsub (by rw [gM_zero]; exact wsl) wsr (by omega) ?_
  intro i hi
  by_cases hlt : i < m.funcs.length
  · obtain ⟨b9', o1, rfl, hF, cs5, ⟨u0, u1, rfl, q0, q1, q2⟩, hc5⟩ := r2.el hlt
    obtain ⟨x2, y2, rfl, z2⟩ := q1.slice
    obtain ⟨x0, y0, rfl, z0⟩ := q0.slice
    obtain ⟨hsm1, -⟩ := hsm i hlt
    have hrow := gM_row hlt
    refine wgh ?_
    refine OpsH.y_ (Yl.loadE rfl rfl rfl wmem (by rfl) (by rfl) hc5) rfl ?_
    refine OpsH.alloc [Value.int .i64 0, Value.slice none 0 0, Value.slice none 0 0] rfl rfl rfl fun b5 => ?_
    refine wgh ?_
    refine CdH.loop (σ := Nat) (fun j => [(19, .slice x2 (ix m.funcs i).body.length y2), (20, .int .i64 (ix m.funcs i).body.length), (21, .int .i64 j), (12, .slice (some ⟨b9', o1, none⟩) m.funcs.length c2), (13, .int .i64 m.funcs.length), (14, .int .i64 i), (1, .pointer (some ⟨b1, 0, none⟩)), (3, .pointer (some ⟨b3, 0, none⟩))]) (fun j => [.blk b3 ([.map (some bm)] : List Value) TMp, .iv bm (gM m i j), .blk b1 ([v0, v1, Value.slice (some ⟨b9', o1, none⟩) m.funcs.length c2, v3, v4, v5, v6, Value.bool m.hasStart, Value.int .i64 m.start, v7, v8, v9] : List Value) TMod]) (fun _ => [Ext w]) (fun j => j ≤ (ix m.funcs i).body.length) (fun j => (ix m.funcs i).body.length - j) 0 wsub wsl wsr (by omega) ?_
    intro j hj
    by_cases hjl : j < (ix m.funcs i).body.length
    · obtain ⟨b7, o7, rfl, -, hall⟩ := q1.at hjl
      have hro := (hall j hjl).rop
      obtain ⟨tv9, lv9, htv, hlv, hc9⟩ := (hall j hjl).all9
      obtain ⟨xt, yt, rfl, -⟩ := htv.slice
      obtain ⟨xl, yl, rfl, -⟩ := hlv.slice
      have hle := cntM_le hsm (ix (ix m.funcs i).body j).op i j hi
      have hput := gM_put (m := m) (i := i) hjl
      refine wgh ?_
      refine OpsH.y_ (Yl.loadE rfl rfl rfl wmem (by rfl) (by rfl) hc9) rfl ?_
      refine OpsH.alloc [Value.int .i64 0, Value.int .i64 0, Value.int .i64 0, Value.int .u64 0, Value.int .i64 0, Value.int .i64 0, Value.int .i64 0, Value.slice none 0 0, Value.slice none 0 0] rfl rfl rfl fun b9 => ?_
      refine wgh ?_
      refine CdH.regionS [0, 1, 2, 3, 4, 5, 6, 7] 8 _ _ (by kernel_rfl) (List.Sublist.refl _) (fun _ h => h) ?_
      refine wgs ?_
      refine OpsS.y_ (Yl.lookupH (zv := .int .i64 0) Tryz.underlying77 Tryz.underlying57 (fun _ => rfl) rfl rfl hro wmm) rfl ?_
      rw [gM_get]
      refine OpsS.he (HE.callV rfl rfl (fun w' _ => (census_plus _ _ w').mono fun _ _ h => ⟨h.1, h.2 ▸ Chg.refl _ _⟩)) rfl (fun _ => List.Sublist.refl _) (fun _ _ h => h) ?_
      rintro ⟨⟩ _
      rw [wr64_in (by omega)]
      refine OpsS.hez0 (HE0.mapUpdate Tryz.underlying77 Tryz.underlying57 rfl rfl rfl hro wup) rfl ?_
      rintro ⟨⟩ _
      rw [hput]
      refine wgh ?_
      exact FinH.next (j + 1) wsub wsl wsr (by omega) (by omega)
    · obtain rfl : j = (ix m.funcs i).body.length := by omega
      rw [hrow]
      refine wgh ?_
      exact FinH.next (i + 1) wsub wsl wsr (by omega) (by omega)
  · obtain rfl : i = m.funcs.length := by omega
    refine wgh ?_
    refine FinH.thenI ?_
    refine wgn ?_
    refine OpsN.he (HE.alloc [.slice none 0 0] rfl rfl) rfl rfl ?_
    intro b8 _
    refine wgn ?_
    refine OpsN.he (HE.callV rfl rfl (fun w' _ => (opcode_All w').mono fun _ _ h => ⟨h.1, h.2 ▸ Chg.refl _ _⟩)) rfl rfl ?_
    rintro ⟨⟩ _
    refine wgn ?_
    refine ⟨fun w1 hw1 => ?_⟩
    have hx1 : Ext w w1 := hw1.at
    have hb8 : b8 < w1.heap.size := (hw1.m (.blk b8 _ _) wmm).2 b8 rfl
    have hb3 : b3 < w1.heap.size := (hw1.m (.blk b3 _ _) wmm).2 b3 rfl
    have hbm : bm < w1.heap.size := (hw1.m (.iv bm _) wmm).2 bm rfl
    have hown : ∀ (v : Value) (xs : List Int) (A : World) (r : Nat) (o : Obj), Ok [.ownI w.heap.size v xs, .blk b8 [v] 47, .blk b3 ([.map (some bm)] : List Value) TMp, .iv bm (gM m m.funcs.length 0)] [Ext w] A → w1.heap.size ≤ r → A.heap[r]? = some o → Mb [.ownI w.heap.size v xs, .blk b8 [v] 47, .blk b3 ([.map (some bm)] : List Value) TMp, .iv bm (gM m m.funcs.length 0)] r → ∃ cs, o = .cells cs TInt (0, 0) := by
      rintro v xs A r o hok hr ho ⟨q, hq, hk⟩
      simp only [List.mem_cons, List.not_mem_nil, or_false] at hq
      rcases hq with rfl | rfl | rfl | rfl
      · obtain ⟨cs, e⟩ := own_cells hok.ownI hk
        rw [e] at ho; cases ho; exact ⟨_, rfl⟩
      · have : r = b8 := hk
        omega
      · have : r = b3 := hk
        omega
      · have : r = bm := hk
        omega
    refine CdI.rangeO (encs := encI) (Kp := KpL w1.heap.size) (full := opA) rfl rfl (all1_seq w1 (h0.ext hx1)) (fun h k => h.trans k) (fun W l r r' _ hl hp => KpL.put hl (by rw [hp]; decide)) (fun _ => rfl) rfl
      (fun (pre : List Int) W => ∃ v, Ok [.ownI w.heap.size v (cntL m pre), .blk b8 [v] 47, .blk b3 ([.map (some bm)] : List Value) TMp, .iv bm (gM m m.funcs.length 0)] [Ext w] W)
      (fun _ _ _ => False) ?_ (fun _ _ _ _ _ h => h.elim) ⟨.slice none 0 0, (hw1.nilI w.heap.size).sub wsl wsr⟩ (fun x => [(9, .int .i64 x), (8, .pointer (some ⟨b8, 0, none⟩)), (1, .pointer (some ⟨b1, 0, none⟩)), (3, .pointer (some ⟨b3, 0, none⟩))]) ?_ ?_ ?_ ?_
    · rintro pre A A' row ⟨v, h⟩ hg hr
      refine ⟨v, h.grow hx1.size hg hr fun r o h1 h2 h3 h4 => ?_⟩
      obtain ⟨cs, rfl⟩ := hown v _ A r o h h1 h2 h4
      cases h3
    · intro l' x W2 K hK
      refine wgi ?_
      exact FinI.thenK (fun a ha => hK a (ha.sub wsub))
    · rintro l' pre x W2 ⟨v, hok⟩ hN
      have hxR : R64 x := by
        have hm : x ∈ opA := hN.subset (by simp)
        exact opA_R64 x hm
      have hlen : pre.length ≤ 1000 := by have := hN.length_le; have h5 : opA.length ≤ 1000 := by { rw [opA_all5, all5_len, r05_len]; omega }; simp at this; omega
      have hle := cntM_le hsm x m.funcs.length 0 (Nat.le_refl _)
      obtain ⟨p, c, hv, _⟩ := own_slice (hok.ownI (v := v))
      obtain ⟨hS0, hSe⟩ : ∃ S0, S0 = Mb [.ownI w.heap.size v (cntL m pre), .blk b8 [v] 47, .blk b3 ([.map (some bm)] : List Value) TMp, .iv bm (gM m m.funcs.length 0)] := ⟨_, rfl⟩
      have hok' := hok.startM
      rw [← hSe] at hok'
      have hown' := fun r o h1 h2 (h3 : hS0 r) => hown v _ W2 r o hok h1 h2 (by rw [← hSe]; exact h3)
      refine CdN.at hok' ?_
      subst hv
      refine wgn ?_
      refine OpsN.y_ (Yl.lookupH (zv := .int .i64 0) Tryz.underlying77 Tryz.underlying57 (fun _ => rfl) rfl rfl hxR wmm) rfl ?_
      rw [gM_get]
      refine wgn ?_
      refine OpsN.he (HE.bsl rfl rfl rfl rfl rfl wcel (by rfl) (by rfl)) rfl rfl ?_
      intro bs _
      refine OpsN.he (HE.appI rfl rfl (fun _ => wup) wup (by simp [cntL]; omega) szR rfl rfl) rfl rfl ?_
      intro v2 _
      refine OpsN.pure (φ := ∃ p n c, v2 = .slice p n c) (fun w' hw' => ?_) ?_
      · obtain ⟨p, c, e, _⟩ := own_slice (hw'.ownI (v := v2)); exact ⟨p, _, c, e⟩
      rintro ⟨p8, n8, c8, rfl⟩
      refine OpsN.he0 (HE0.storeB [.slice p8 n8 c8] rfl rfl rfl rfl rfl rfl wup rfl) rfl ?_
      rintro ⟨⟩ _
      refine wgn ?_
      refine ⟨fun W' hw' => ⟨fun a ha => ?_⟩⟩
      have hc : Chg hS0 W2 W' := hw'.at
      have hk3 : ∀ k, w1.heap.size ≤ k → hS0 k → ∃ cs, W2.heap[k]? = some (.cells cs TInt (0, 0)) := fun k hk hs => by
        have hlt2 : k < W2.heap.size := by
          have hs' := hs
          rw [hSe] at hs'
          obtain ⟨q, hq, hk'⟩ := hs'
          exact (hok.m q hq).2 k hk'
        obtain ⟨cs, e⟩ := hown' k _ hk (Array.getElem?_eq_getElem hlt2) hs
        exact ⟨cs, by rw [Array.getElem?_eq_getElem hlt2, e]⟩
      obtain ⟨k1, k2⟩ := round_keeps (ps := #[36]) hc (h0.ext hw'.at) hk3
      refine ⟨k1, k2, .slice p8 n8 c8, ?_⟩
      rw [show cntL m (pre ++ [x]) = cntL m pre ++ [(cntM m m.funcs.length 0 x : Int)] by simp [cntL]]
      exact hw'.sub wsl wsr
    · rintro Dn W2 hD ⟨v, hok⟩ hK
      obtain ⟨p, c, hv, _⟩ := own_slice (hok.ownI (v := v))
      have hok2 : Ok [.ownI w.heap.size v (cntL m opA), .blk b8 [v] 47, .blk b3 ([.map (some bm)] : List Value) TMp, .iv bm (gM m m.funcs.length 0)] [fun W => W.heap[Dn]? = some (.deferred (some [])), Ext w] W2 := hok.add fun w' hc => by
        rw [hc.block Dn (Array.getElem?_eq_some_iff.1 hK).1 (fun hs => by obtain ⟨cs, e⟩ := hown v _ W2 Dn _ hok hD hK hs; cases e)]; exact hK
      refine FinN.at hok2 ?_
      subst hv
      refine wgn ?_
      refine ⟨fun W' hw' => ?_⟩
      have hK' : W'.heap[Dn]? = some (.deferred (some [])) := hw'.at
      have hw2 := hw'.sub (List.Sublist.refl _) (R' := [Ext w]) wsr
      have hg := hw2.grow (row := some Dn) (B := w1.heap.size) hx1.size (grownBy_putObj' W' Dn (.deferred none)) (fun r e => by cases e; exact ⟨hD, _, hK', rfl⟩) (fun r o h1 h2 h3 h4 => by
        obtain ⟨cs, rfl⟩ := hown _ _ W' r o hw2 h1 h2 h4
        cases h3)
      refine FinI.retM (.inl rfl) hK' (run_ret1t rfl rfl) ⟨⟨_, rfl, ?_⟩, hg.at⟩
      have h1 := hg.ownI (v := .slice p (cntL m opA).length c)
      rw [cntL_all] at h1
      exact h1
    · exact fun _ _ _ _ _ _ h => h.elim
end Go.Proofs.YtmkgfccfnpmcjaaGreatDoor
