/- Guarded operations in a region gone through as a tree. -/
import Derived.Test.YtmkgfccfnpmcjaaGreatDoorJLb
import Derived.Test.YtmkgfccfnpmcjaaGreatDoorJKb
namespace Go.Proofs.YtmkgfccfnpmcjaaGreatDoor
open Go.RowKit
set_option maxRecDepth 100000
section
variable {l : List Oper} {Q : Exit → Act → World → Prop} {Mc : List Res} {Rc : List (World → Prop)} {n fuel : Nat} {listed : Array Bool} {E : Env} {M : List Res} {R : List (World → Prop)} {d : Nat} {op : Op} {ty : TypeId} {pos : String} {aft : Array Edge} {v : Value} {β : Type} {φ : β → Prop} {vf : β → Value} {Mf : β → List Res} {Rf : β → List (World → Prop)}
theorem OpsT.qg (k : Nat) {j : Nat} {b : Bool} (hk : l[k]? = some ⟨some d, op, ty, pos, aft, some (j, b)⟩) (hc : (Region.noSelect l.toArray && (Region.ready .any l.toArray listed).contains k && Region.free .any l.toArray listed k && isQ op && Nat.blt d n) = true) (hg : gdv l.toArray E j = some b) (hy : Yl G n op E (Ok Mc Rc) v)
    (h : OpsT l Q Mc Rc n fuel (listed.setIfInBounds k true) ((d, v) :: E) M R) : OpsT l Q Mc Rc n (fuel + 1) listed E M R := ⟨fun w hw hC hcl a ha => by
  simp only [Bool.and_eq_true] at hc
  obtain ⟨⟨⟨⟨h1, h2⟩, h3⟩, -⟩, h5⟩ := hc
  have hkl : k < l.length := (List.getElem?_eq_some_iff.1 hk).1
  have ho : l.toArray[k]? = some ⟨some d, op, ty, pos, aft, some (j, b)⟩ := by simpa using hk
  have hkr : k ∈ Region.ready .any l.toArray listed := by simpa using h2
  exact wpAnyM_first ho (Region.noSelect_spec h1) (fun _ _ _ _ => no_z) (by omega) fuel listed a w hC hcl (Region.free_spec ho h3) hkr (.inl ⟨by simp [Region.wanted, yielded_of ha hg], fun w hw => hy.h w hw a ha _ _ _ _ _⟩) (h.h w hw hC (hcl.set hkr) _ (ha.put (by simpa using h5) v))⟩
theorem StepT.heg {i j : Nat} {b : Bool} (hi : l[i]? = some ⟨some d, op, ty, pos, aft, some (j, b)⟩) (hd : Nat.blt d n = true) (hg : gdv l.toArray E j = some b) (he : HE n op E M R φ vf Mf Rf) (hM : ∀ x, Mc.Sublist (Mf x)) (hR : ∀ x p, p ∈ Rc → p ∈ Rf x) (h : ∀ x, φ x → OpsT l Q Mc Rc n fuel (listed.setIfInBounds i true) ((d, vf x) :: E) (Mf x) (Rf x)) : StepT l Q Mc Rc n fuel listed i E M R := ⟨fun w hw hC hcl hr a ha => by
  have ho : l.toArray[i]? = some ⟨some d, op, ty, pos, aft, some (j, b)⟩ := by simpa using hi
  unfold mOp
  simp only [ho]
  have hw' : Region.wanted ⟨some d, op, ty, pos, aft, some (j, b)⟩ (yielded l.toArray a.tmps) = true := by simp [Region.wanted, yielded_of ha hg]
  simp only [hw', if_true]
  exact effUp_mono ((he.h w hw).h a ha _ _ _ _ _) fun v w2 ⟨x, h1, h2, h3⟩ => by
    subst h2
    exact ⟨.inr (h3.sub (hM x) (hR x)), (h x h1).h w2 h3 (h3.sub (hM x) (hR x)) (hcl.set hr) _ (ha.put (by simpa using hd) _)⟩⟩
end
theorem CdH.join {α : Type} {Q : Exit → Act → World → Prop} {n : Nat} {c : Code} {E : Env} {M : List Res} {R : List (World → Prop)} (E0 : α → Env) (M0 : α → List Res) (R0 : α → List (World → Prop))
    (rest : ∀ x, FinH Q n .normal (E0 x) (M0 x) (R0 x)) (h : (∀ x, FinH Q n .normal (E0 x) (M0 x) (R0 x)) → CdH Q n c E M R) : CdH Q n c E M R := h rest
end Go.Proofs.YtmkgfccfnpmcjaaGreatDoor
/- ref57.Ops; law57.ints. -/
namespace Go.Proofs.YtmkgfccfnpmcjaaGreatDoor
open Go.RowKit
set_option maxRecDepth 100000

set_option maxHeartbeats 4000000 in
theorem law57_ints (F F' : Nat → Prop) (xs ys : List Int) (v u : Value) (w : World) (hv : IntsR F w v xs) (hu : IntsR F' w u ys) : Calls G.P 14 #[v, u] w fun e w' => e = .returned (.bool (decide (xs = ys))) ∧ Ext w w' := by
  obtain ⟨p1, c1, rfl, l1⟩ := hv.slice
  obtain ⟨p2, c2, rfl, l2⟩ := hu.slice
  refine enterH (l := [Value.slice p1 xs.length c1, Value.slice p2 ys.length c2]) Tryz.func14 rfl Tryz.ntmps14 rfl (Ok.start w) ?_
  by_cases hl : xs.length = ys.length
  · refine wgh ?_
    refine CdH.loop (σ := Nat) (fun i => [(0, .slice p1 xs.length c1), (1, .slice p2 ys.length c2), (5, .int .i64 i)]) (fun _ => []) (fun _ => [Ext w]) (fun i => i ≤ xs.length ∧ xs.take i = ys.take i) (fun i => xs.length - i) 0 wsub wsl wsr ⟨by omega, by simp⟩ ?_
    rintro i ⟨hi, hp⟩
    by_cases hlt : i < xs.length
    · obtain ⟨b1, o1, rfl, -, h1⟩ := hv.at hlt
      obtain ⟨b2, o2, rfl, -, h2⟩ := hu.at (show i < ys.length by omega)
      have hc1 := h1 i hlt
      have hc2 := h2 i (by omega)
      by_cases he : ix xs i = ix ys i
      · refine wgh ?_
        exact FinH.next (i + 1) wsub wsl wsr ⟨by omega, by rw [take_succ_ix hlt, take_succ_ix (by omega), hp, he]⟩ (by omega)
      · refine wgh ?_
        refine FinH.ret1 rfl rfl fun w' hw' => ⟨?_, hw'.at⟩
        rw [decide_eq_false (fun e => he (by rw [e]))]
    · obtain rfl : i = xs.length := by omega
      refine wgh ?_
      refine FinH.ret1 rfl rfl fun w' hw' => ⟨?_, hw'.at⟩
      rw [decide_eq_true (by rw [List.take_length, hl, List.take_length] at hp; exact hp)]
  · refine wgh ?_
    refine FinH.ret1 rfl rfl fun w' hw' => ⟨?_, hw'.at⟩
    rw [decide_eq_false (fun e => hl (by rw [e]))]

theorem ints_own {M : List Res} {R : List (World → Prop)} {w : World} {B : Nat} {u v : Value} {xs : List Int} (hl : xs.length ≤ 1000000) (h : Ok M R w) (hu : Res.ownI B u xs ∈ M) (hv : Res.ownI B v xs ∈ M) : Calls G.P 14 #[u, v] w fun e w' => e = .returned (.bool true) ∧ Ext w w' :=
  (law57_ints _ _ xs xs u v w (OwnI.reads' (h.ownI hu) (by omega)) (OwnI.reads' (h.ownI hv) (by omega))).mono fun _ _ h => ⟨by rw [h.1, decide_eq_true rfl], h.2⟩

set_option maxHeartbeats 32000000 in
theorem ref57_Ops (F : Nat → Prop) (m : ApiModule) (cs : List Value) (w : World) (hm : ApiModuleV F w cs m) (hL : LensP m) (hsm : SmallM m) : Calls G.P 16 #[.agg cs.toArray] w fun e w' => (∃ v, e = .returned v ∧ OwnI w.heap.size w' v (opsM m)) ∧ Ext w w' := by
  obtain ⟨v0, v1, v2, v3, v4, v5, v6, v7, v8, v9, rfl, r0, r1, r2, r3, r4, r5, r6, r7, r8, r9, g0⟩ := hm
  obtain ⟨p2, c2, rfl, l2⟩ := r2.slice
  obtain ⟨-, L1, L2, -⟩ := hL
  refine enterH (l := [.agg (([v0, v1, Value.slice p2 m.funcs.length c2, v3, v4, v5, v6, Value.bool m.hasStart, Value.int .i64 m.start, v7, v8, v9] : List Value)).toArray]) Tryz.func16 rfl Tryz.ntmps16 rfl (Ok.start w) ?_
  refine wgh ?_
  refine OpsH.box ([v0, v1, Value.slice p2 m.funcs.length c2, v3, v4, v5, v6, Value.bool m.hasStart, Value.int .i64 m.start, v7, v8, v9] : List Value) rfl rfl rfl fun b => ?_
  refine wgh ?_
  refine OpsH.he (HE.callO (B := w.heap.size) rfl rfl szR (fun w' _ => ref05_All w')) rfl ?_
  intro v3' _
  refine OpsH.pure (φ := ∃ g cap, v3' = .slice (some ⟨g, 0, none⟩) all5.length cap) (fun w' hw' => ?_) ?_
  · obtain ⟨p, c, rfl, _, _, hg⟩ := own_slice (hw'.own (v := v3'))
    obtain ⟨g, rfl, _⟩ := hg (by rw [all5_len, r05_len]; omega)
    exact ⟨g, c, rfl⟩
  rintro ⟨gl, cl, rfl⟩
  have hN : all5.length ≤ 1000 := by rw [all5_len, r05_len]; omega
  have hol := opsM_len m
  have hoi := fun k h => opsM_ix m (k := k) h
  have hget : ∀ k, k < all5.length → (all5.map (Value.int .i64))[k]? = some (.int .i64 (ix all5 k)) := fun k h => by rw [List.getElem?_map, ix_some h]; rfl
  generalize hNN : all5.length = N at *
  refine wgh ?_
  refine OpsH.he (HE.makeI (B := w.heap.size) rfl rfl (by omega) szR) rfl ?_
  intro go _
  refine wgh ?_
  refine CdH.loop (σ := Nat) (fun k => [(5, .int .i64 k), (1, .pointer (some ⟨b, 0, none⟩)), (3, .slice (some ⟨gl, 0, none⟩) N cl), (4, .slice (some ⟨go, 0, none⟩) N N)]) (fun k => [.ownI w.heap.size (.slice (some ⟨go, 0, none⟩) N N) (outZ (opsM m) k), .own w.heap.size TOp 1 (.slice (some ⟨gl, 0, none⟩) N cl) N (all5.map (Value.int .i64)), .blk b ([v0, v1, Value.slice p2 m.funcs.length c2, v3, v4, v5, v6, Value.bool m.hasStart, Value.int .i64 m.start, v7, v8, v9] : List Value) TMod]) (fun _ => [Ext w]) (fun k => k ≤ N) (fun k => N - k) 0 wsub (sub_ownI rfl (by rw [outZ_zero, hol]) (List.Sublist.refl _)) wsr (by omega) ?_
  intro k hk
  by_cases hkl : k < N
  · have hkl' : k < (opsM m).length := by omega
    rw [outZ_eq hkl']
    refine wgh ?_
    refine CdH.loop (σ := Nat) (fun i => [(6, .int .i64 i), (5, .int .i64 k), (1, .pointer (some ⟨b, 0, none⟩)), (3, .slice (some ⟨gl, 0, none⟩) N cl), (4, .slice (some ⟨go, 0, none⟩) N N)]) (fun i => [.ownI w.heap.size (.slice (some ⟨go, 0, none⟩) N N) (outS (opsM m) k (cntM m i 0 (ix all5 k))), .own w.heap.size TOp 1 (.slice (some ⟨gl, 0, none⟩) N cl) N (all5.map (Value.int .i64)), .blk b ([v0, v1, Value.slice p2 m.funcs.length c2, v3, v4, v5, v6, Value.bool m.hasStart, Value.int .i64 m.start, v7, v8, v9] : List Value) TMod]) (fun _ => [Ext w]) (fun i => i ≤ m.funcs.length) (fun i => m.funcs.length - i) 0 wsub (sub_ownI rfl (by rw [cntM_zero]; rfl) (List.Sublist.refl _)) wsr (by omega) ?_
    intro i hi
    by_cases hlt : i < m.funcs.length
    · obtain ⟨b1, o1, rfl, hF, cs5, ⟨u0, u1, rfl, q0, q1, q2⟩, hc5⟩ := r2.el hlt
      obtain ⟨x2, y2, rfl, z2⟩ := q1.slice
      have hcell : w.cell? ⟨b1, o1 + i * 3 + 2, none⟩ = some (.slice x2 (ix m.funcs i).body.length y2) := hc5 2 (by omega)
      have hsm1 := (hsm i hlt).1
      have hrow := cntM_row hlt (ix all5 k)
      refine wgh ?_
      refine CdH.loop (σ := Nat) (fun j => [(7, .int .i64 j), (6, .int .i64 i), (5, .int .i64 k), (1, .pointer (some ⟨b, 0, none⟩)), (3, .slice (some ⟨gl, 0, none⟩) N cl), (4, .slice (some ⟨go, 0, none⟩) N N)]) (fun j => [.ownI w.heap.size (.slice (some ⟨go, 0, none⟩) N N) (outS (opsM m) k (cntM m i j (ix all5 k))), .own w.heap.size TOp 1 (.slice (some ⟨gl, 0, none⟩) N cl) N (all5.map (Value.int .i64)), .blk b ([v0, v1, Value.slice (some ⟨b1, o1, none⟩) m.funcs.length c2, v3, v4, v5, v6, Value.bool m.hasStart, Value.int .i64 m.start, v7, v8, v9] : List Value) TMod]) (fun _ => [Ext w]) (fun j => j ≤ (ix m.funcs i).body.length) (fun j => (ix m.funcs i).body.length - j) 0 wsub wsl wsr (by omega) ?_
      intro j hj
      by_cases hjl : j < (ix m.funcs i).body.length
      · obtain ⟨b7, o7, rfl, -, hall⟩ := q1.at hjl
        have hop := (hall j hjl).op
        have hst := cntM_step hjl (ix all5 k)
        have hle := cntM_le hsm (ix all5 k) i j hi
        by_cases he : (ix (ix m.funcs i).body j).op = ix all5 k
        · rw [if_pos he] at hst
          refine wgh ?_
          refine Ops.y (Yl.loadO (i := k) rfl rfl rfl (hget k hkl) wmm) rfl ?_
          refine wgh ?_
          refine OpsH.y_ (Yl.loadI (i := k) rfl rfl rfl wmm (by rw [outS_len hkl']; omega)) rfl ?_
          rw [outS_ix hkl']
          refine wgh ?_
          refine OpsH.he0 (HE0.setI (i := k) rfl rfl rfl rfl (show k < (outS (opsM m) k (cntM m i j (ix all5 k))).length by rw [outS_len hkl']; omega) wup) ?_
          rintro ⟨⟩ _
          rw [outS_set hkl']
          refine wgh ?_
          exact FinH.next (j + 1) wsub (sub_ownI rfl (by rw [hst]; rfl) (List.Sublist.refl _)) wsr (by omega) (by omega)
        · rw [if_neg he, Nat.add_zero] at hst
          refine wgh ?_
          refine Ops.y (Yl.loadO (i := k) rfl rfl rfl (hget k hkl) wmm) rfl ?_
          refine wgh ?_
          exact FinH.next (j + 1) wsub (sub_ownI rfl (by rw [hst]; rfl) (List.Sublist.refl _)) wsr (by omega) (by omega)
      · obtain rfl : j = (ix m.funcs i).body.length := by omega
        refine wgh ?_
        exact FinH.next (i + 1) wsub (sub_ownI rfl (by rw [hrow]) (List.Sublist.refl _)) wsr (by omega) (by omega)
    · obtain rfl : i = m.funcs.length := by omega
      refine wgh ?_
      refine FinH.next (k + 1) wsub (sub_ownI rfl ?_ (List.Sublist.refl _)) wsr (by omega) (by omega)
      rw [← hoi k hkl, outS_next hkl']
  · obtain rfl : k = N := by omega
    refine wgh ?_
    refine FinH.ret1 rfl rfl fun w' hw' => ⟨⟨_, rfl, ?_⟩, hw'.at⟩
    have h1 := hw'.ownI (v := .slice (some ⟨go, 0, none⟩) k k)
    have e := outZ_all (opsM m)
    rw [hol] at e
    rw [e] at h1
    exact h1
end Go.Proofs.YtmkgfccfnpmcjaaGreatDoor
