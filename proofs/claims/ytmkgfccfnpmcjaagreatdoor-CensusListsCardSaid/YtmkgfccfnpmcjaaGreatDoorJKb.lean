/- Plain laws: counts of opcodes, module by module; the reference's search by the ends of walks. -/
import Derived.Test.YtmkgfccfnpmcjaaGreatDoorJDp
import Derived.Test.YtmkgfccfnpmcjaaGreatDoorJB3
import Derived.Test.YtmkgfccfnpmcjaaGreatDoorJCr
namespace Go.Proofs.YtmkgfccfnpmcjaaGreatDoor
open Go.RowKit

def cntB (xs : List Ins) (op : Int) : Nat := xs.countP fun x => x.op == op
/-- how often an opcode stands in the first i bodies and in the first j instructions of the next one -/
def cntM (m : ApiModule) (i j : Nat) (op : Int) : Nat := ((m.funcs.take i).map fun f => cntB f.body op).sum + cntB ((ix m.funcs i).body.take j) op
theorem cntM_zero (m : ApiModule) (op : Int) : cntM m 0 0 op = 0 := by simp [cntM, cntB]
theorem cntM_step {m : ApiModule} {i j : Nat} (h : j < (ix m.funcs i).body.length) (op : Int) : cntM m i (j + 1) op = cntM m i j op + if (ix (ix m.funcs i).body j).op = op then 1 else 0 := by
  unfold cntM cntB
  rw [take_succ_ix h, List.countP_append, List.countP_singleton]
  simp only [beq_iff_eq]; omega
theorem cntM_row {m : ApiModule} {i : Nat} (h : i < m.funcs.length) (op : Int) : cntM m i (ix m.funcs i).body.length op = cntM m (i + 1) 0 op := by
  unfold cntM
  rw [List.take_length, take_succ_ix h, List.map_append, List.sum_append]
  simp [cntB]
theorem cntB_le (xs : List Ins) (op : Int) : cntB xs op ≤ xs.length := List.countP_le_length
theorem cntM_le {m : ApiModule} (hs : SmallM m) (op : Int) : ∀ i j, i ≤ m.funcs.length → cntM m i j op ≤ i * 1000000 + j
  | 0, j, _ => by
    have h1 := cntB_le ((ix m.funcs 0).body.take j) op
    rw [List.length_take] at h1
    simp only [cntM, List.take_zero, List.map_nil, List.sum_nil]
    omega
  | i + 1, j, h => by
    have h0 := cntM_le hs op i (ix m.funcs i).body.length (by omega)
    rw [cntM_row (by omega)] at h0
    have h2 := (hs i (by omega)).1
    have h1 := cntB_le ((ix m.funcs (i + 1)).body.take j) op
    rw [List.length_take] at h1
    have e : cntM m (i + 1) j op = cntM m (i + 1) 0 op + cntB ((ix m.funcs (i + 1)).body.take j) op := by simp [cntM, cntB]
    rw [e]; omega
def opsM (m : ApiModule) : List Int := all5.map fun op => (cntM m m.funcs.length 0 op : Int)
theorem opsM_len (m : ApiModule) : (opsM m).length = all5.length := by simp [opsM]
theorem opsM_ix (m : ApiModule) {k : Nat} (h : k < all5.length) : ix (opsM m) k = (cntM m m.funcs.length 0 (ix all5 k) : Int) := by
  rw [ix_eq (by rw [opsM_len]; exact h), ix_eq h]; simp [opsM]

/-- a list of numbers that is being written: k places are done, the next one holds c -/
def outS (f : List Int) (k : Nat) (c : Int) : List Int := f.take k ++ c :: List.replicate (f.length - k - 1) 0
def outZ (f : List Int) (k : Nat) : List Int := f.take k ++ List.replicate (f.length - k) 0
theorem outZ_eq {f : List Int} {k : Nat} (h : k < f.length) : outZ f k = outS f k 0 := by
  unfold outZ outS
  rw [show f.length - k = (f.length - k - 1) + 1 by omega, List.replicate_succ]; simp
theorem outS_len {f : List Int} {k : Nat} {c : Int} (h : k < f.length) : (outS f k c).length = f.length := by
  unfold outS; simp [List.length_take]; omega
theorem outZ_len {f : List Int} {k : Nat} (h : k ≤ f.length) : (outZ f k).length = f.length := by
  unfold outZ; simp [List.length_take]; omega
theorem outS_set {f : List Int} {k : Nat} {c c' : Int} (h : k < f.length) : (outS f k c).set k c' = outS f k c' := by
  unfold outS
  rw [List.set_append_right _ _ (by simp [List.length_take]; omega)]
  simp [List.length_take, Nat.min_eq_left (Nat.le_of_lt h)]
theorem outS_ix {f : List Int} {k : Nat} {c : Int} (h : k < f.length) : ix (outS f k c) k = c := by
  rw [ix_eq (by rw [outS_len h]; exact h)]
  unfold outS
  rw [List.getElem_append_right (by simp [List.length_take]; omega)]
  simp [List.length_take, Nat.min_eq_left (Nat.le_of_lt h)]
theorem outS_next {f : List Int} {k : Nat} (h : k < f.length) : outS f k (ix f k) = outZ f (k + 1) := by
  unfold outS outZ
  rw [take_succ_ix h, List.append_assoc, show f.length - (k + 1) = f.length - k - 1 by omega]; rfl
theorem outZ_all (f : List Int) : outZ f f.length = f := by unfold outZ; simp
theorem outZ_zero (f : List Int) : outZ f 0 = List.replicate f.length 0 := by unfold outZ; simp

/-! the reference's Deep -/
def markR (l : List Bool) (r : List Int) : List Bool := r.foldl (fun l a => l.set a.toNat true) l
theorem markR_len (r : List Int) : ∀ l : List Bool, (markR l r).length = l.length := by
  induction r with
  | nil => intro l; rfl
  | cons a r ih => intro l; show (markR (l.set a.toNat true) r).length = _; rw [ih]; simp
theorem markR_take {l : List Bool} {r : List Int} {j : Nat} (h : j < r.length) : markR l (r.take (j + 1)) = (markR l (r.take j)).set (ix r j).toNat true := by
  unfold markR; rw [take_succ_ix h, List.foldl_append]; rfl
theorem markR_ix (r : List Int) : ∀ (l : List Bool) {k : Nat}, (∀ a ∈ r, 0 ≤ a) → k < l.length → ix (markR l r) k = (ix l k || r.contains (k : Int)) := by
  induction r with
  | nil => intro l k _ _; simp [markR]
  | cons a r ih =>
    intro l k h hk
    show ix (markR (l.set a.toNat true) r) k = _
    have h0 := h a (by simp)
    rw [ih _ (fun b hb => h b (by simp [hb])) (by simpa using hk), List.contains_cons]
    have e : ix (l.set a.toNat true) k = if k = a.toNat then true else ix l k := by
      rw [ix_eq (by simpa using hk), List.getElem_set, ix_eq hk]
      by_cases h : a.toNat = k
      · rw [if_pos h, if_pos h.symm]
      · rw [if_neg h, if_neg (fun e => h e.symm)]
    rw [e]
    by_cases hka : k = a.toNat
    · rw [if_pos hka, show ((k : Int) == a) = true by rw [beq_iff_eq]; omega]; simp
    · rw [if_neg hka, show ((k : Int) == a) = false by rw [Bool.eq_false_iff, ne_eq, beq_iff_eq]; omega]; simp
/-- the next ends, after i rows -/
def nxtE (g : List (List Int)) (e : List Bool) (i : Nat) : List Bool := (List.range i).foldl (fun l j => if ix e j = true then markR l (ix g j) else l) (List.replicate g.length false)
theorem nxtE_succ (g : List (List Int)) (e : List Bool) (i : Nat) : nxtE g e (i + 1) = if ix e i = true then markR (nxtE g e i) (ix g i) else nxtE g e i := by
  unfold nxtE; rw [List.range_succ, List.foldl_append]; rfl
theorem nxtE_len (g : List (List Int)) (e : List Bool) : ∀ i, (nxtE g e i).length = g.length
  | 0 => by simp [nxtE]
  | i + 1 => by rw [nxtE_succ]; split <;> simp [markR_len, nxtE_len g e i]
theorem nxtE_ix {g : List (List Int)} (hg : ∀ i, i < g.length → ∀ a ∈ ix g i, 0 ≤ a ∧ a < g.length) (e : List Bool) {k : Nat} (hk : k < g.length) : ∀ i, i ≤ g.length → ix (nxtE g e i) k = (List.range i).any fun j => ix e j && (ix g j).contains (k : Int)
  | 0, _ => by rw [ix_eq (by rw [nxtE_len]; exact hk)]; simp [nxtE]
  | i + 1, hi => by
    have ih := nxtE_ix hg e hk i (by omega)
    rw [nxtE_succ, List.range_succ, List.any_append, ← ih]
    by_cases h : ix e i = true
    · rw [if_pos h, markR_ix _ _ (fun a ha => (hg i (by omega) a ha).1) (by rw [nxtE_len]; exact hk)]; simp [h]
    · rw [if_neg h]; simp [h]
theorem nxtE_all {g : List (List Int)} (hg : ∀ i, i < g.length → ∀ a ∈ ix g i, 0 ≤ a ∧ a < g.length) (n : Nat) : nxtE g (endsOf g n) g.length = endsOf g (n + 1) := by
  refine List.ext_getElem (by rw [nxtE_len, endsOf_len]) fun k h1 h2 => ?_
  have hk : k < g.length := by rw [nxtE_len] at h1; exact h1
  have e1 := nxtE_ix hg (endsOf g n) hk g.length (Nat.le_refl _)
  have e2 : ix (endsOf g (n + 1)) k = (List.range g.length).any fun i => ix (endsOf g n) i && (ix g i).contains (k : Int) := ix_map_range hk
  rw [← e2, ix_eq h1, ix_eq h2] at e1
  exact e1
def someE (e : List Bool) (i : Nat) : Bool := (e.take i).any id
theorem someE_succ {e : List Bool} {i : Nat} (h : i < e.length) : someE e (i + 1) = (someE e i || ix e i) := by
  unfold someE; rw [take_succ_ix h, List.any_append]; simp
theorem someE_all (g : List (List Int)) (n : Nat) : someE (endsOf g n) g.length = someEnd g n := by
  unfold someE someEnd; rw [← endsOf_len g n, List.take_length]
theorem deepG_from {g : List (List Int)} : ∀ n, n ≤ g.length + 1 → (∀ k, k < n → someEnd g k = true) → deepG g = deepFrom g (g.length + 1 - n) n
  | 0, _, _ => rfl
  | n + 1, h, h1 => by
    rw [deepG_from n (by omega) (fun k hk => h1 k (by omega)), show g.length + 1 - n = (g.length + 1 - (n + 1)) + 1 by omega, deepFrom, if_pos (h1 n (by omega))]
theorem deepG_here {g : List (List Int)} {n : Nat} (h : n ≤ g.length) (h1 : ∀ k, k < n → someEnd g k = true) (h2 : someEnd g n = false) : deepG g = n := by
  rw [deepG_from n (by omega) h1, show g.length + 1 - n = (g.length - n) + 1 by omega, deepFrom, if_neg (by rw [h2]; simp)]
theorem deepG_none {g : List (List Int)} (h1 : ∀ k, k < g.length + 1 → someEnd g k = true) : deepG g = -1 := by
  rw [deepG_from (g.length + 1) (Nat.le_refl _) h1, Nat.sub_self, deepFrom]
end Go.Proofs.YtmkgfccfnpmcjaaGreatDoor
/- ref57.calls and ref57.Calls: the reference's call graph is census.Calls'. -/
namespace Go.Proofs.YtmkgfccfnpmcjaaGreatDoor
open Go.RowKit
set_option maxRecDepth 100000

theorem callsK_take {xs : List Ins} {n0 : Int} {k j : Nat} (h : j < xs.length) (h0 : callsK (xs.take j) n0 k = false) : callsK (xs.take (j + 1)) n0 k = ((ix xs j).op == 16 && (ix xs j).a == n0 + k) := by
  rw [take_succ_ix h]
  unfold callsK at *
  rw [List.any_append, h0]; simp
theorem callsK_sub {xs : List Ins} {n0 : Int} {k j : Nat} (h : callsK (xs.take j) n0 k = true) : callsK xs n0 k = true := by
  unfold callsK at *
  obtain ⟨x, hx, h1⟩ := List.any_eq_true.1 h
  exact List.any_eq_true.2 ⟨x, List.mem_of_mem_take hx, h1⟩
theorem callsB_succ (xs : List Ins) (n0 : Int) (k : Nat) : callsB xs n0 (k + 1) = callsB xs n0 k ++ if callsK xs n0 k = true then [(k : Int)] else [] := by
  unfold callsB
  rw [List.range_succ, List.filter_append, List.map_append]
  congr 1
  by_cases h : callsK xs n0 k = true <;> simp [h]

set_option maxHeartbeats 16000000 in
theorem ref57_calls (F : Nat → Prop) (m : ApiModule) (i k : Nat) (cs : List Value) (w : World) (hm : ApiModuleV F w cs m) (hi : i < m.funcs.length) (hk : k ≤ 1000) (hL : LensP m) : Calls G.P 30 #[.agg cs.toArray, .int .i64 i, .int .i64 k] w fun e w' => e = .returned (.bool (callsK (ix m.funcs i).body (impN m 0) k)) ∧ Ext w w' := by
  have hm0 := hm
  obtain ⟨v0, v1, v2, v3, v4, v5, v6, v7, v8, v9, rfl, r0, r1, r2, r3, r4, r5, r6, r7, r8, r9, g0⟩ := hm
  obtain ⟨p2, c2, rfl, l2⟩ := r2.slice
  obtain ⟨b1, o1, rfl, hF, cs5, ⟨u0, u1, rfl, q0, q1, q2⟩, hc5⟩ := r2.el hi
  obtain ⟨x2, y2, rfl, z2⟩ := q1.slice
  obtain ⟨-, L1, L2, -⟩ := hL
  have hn0 : impN m 0 ≤ 100 := Nat.le_trans (impC_le _ _ _) L1
  generalize hn : impN m 0 = n0 at *
  generalize hxs : (ix m.funcs i).body = xs at *
  have hcell : w.cell? ⟨b1, o1 + i * 3 + 2, none⟩ = some (.slice x2 xs.length y2) := hc5 2 (by omega)
  refine enterH (l := [.agg (([v0, v1, Value.slice (some ⟨b1, o1, none⟩) m.funcs.length c2, v3, v4, v5, v6, Value.bool m.hasStart, Value.int .i64 m.start, v7, v8, v9] : List Value)).toArray, .int .i64 i, .int .i64 k]) Tryz.func30 rfl Tryz.ntmps30 rfl (Ok.start w) ?_
  refine wgh ?_
  refine OpsH.box ([v0, v1, Value.slice (some ⟨b1, o1, none⟩) m.funcs.length c2, v3, v4, v5, v6, Value.bool m.hasStart, Value.int .i64 m.start, v7, v8, v9] : List Value) rfl rfl rfl fun b => ?_
  refine wgh ?_
  refine OpsH.call1 (v := .int .i64 n0) rfl rfl rfl (fun w' hw' => by have := ref08_Imported F m 0 _ w' (hm0.chg (show Ext w w' from hw'.at) (fun _ _ _ h => h)); rw [hn] at this; exact this) ?_
  refine wgh ?_
  refine CdH.loop (σ := Nat) (fun j => [(1, .int .i64 i), (2, .int .i64 k), (7, .slice x2 xs.length y2), (8, .int .i64 n0), (9, .int .i64 j)]) (fun _ => []) (fun _ => [Ext w]) (fun j => j ≤ xs.length ∧ callsK (xs.take j) n0 k = false) (fun j => xs.length - j) 0 wsub wsl wsr ⟨by omega, by simp [callsK]⟩ ?_
  rintro j ⟨hj, hnot⟩
  by_cases hjl : j < xs.length
  · obtain ⟨b7, o7, rfl, -, hall⟩ := q1.at hjl
    have hop := (hall j hjl).op
    have ha := (hall j hjl).a
    have hst := callsK_take hjl hnot
    by_cases h16 : (ix xs j).op = 16
    · by_cases hak : (ix xs j).a = (n0 : Int) + k
      · refine wgh ?_
        rw [h16, hak] at hst
        refine FinH.ret1 rfl rfl fun w' hw' => ⟨?_, hw'.at⟩
        rw [callsK_sub (j := j + 1) (by rw [hst]; simp)]
      · refine wgh ?_
        exact FinH.next (j + 1) wsub wsl wsr ⟨by omega, by rw [hst]; simp [hak]⟩ (by omega)
    · refine wgh ?_
      exact FinH.next (j + 1) wsub wsl wsr ⟨by omega, by rw [hst]; simp [h16]⟩ (by omega)
  · obtain rfl : j = xs.length := by omega
    rw [List.take_length] at hnot
    refine wgh ?_
    exact FinH.ret1 rfl rfl fun w' hw' => ⟨by rw [hnot], hw'.at⟩

set_option maxHeartbeats 16000000 in
theorem ref57_Calls (F : Nat → Prop) (m : ApiModule) (cs : List Value) (w : World) (hm : ApiModuleV F w cs m) (hL : LensP m) : Calls G.P 13 #[.agg cs.toArray] w (CallsPost m w) := by
  have hm0 := hm
  obtain ⟨v0, v1, v2, v3, v4, v5, v6, v7, v8, v9, rfl, r0, r1, r2, r3, r4, r5, r6, r7, r8, r9, g0⟩ := hm
  obtain ⟨p2, c2, rfl, l2⟩ := r2.slice
  have hL0 := hL
  obtain ⟨-, L1, L2, -⟩ := hL
  refine enterH (l := [.agg (([v0, v1, Value.slice p2 m.funcs.length c2, v3, v4, v5, v6, Value.bool m.hasStart, Value.int .i64 m.start, v7, v8, v9] : List Value)).toArray]) Tryz.func13 rfl Tryz.ntmps13 rfl (Ok.start w) ?_
  refine wgh ?_
  refine OpsH.box ([v0, v1, Value.slice p2 m.funcs.length c2, v3, v4, v5, v6, Value.bool m.hasStart, Value.int .i64 m.start, v7, v8, v9] : List Value) rfl rfl rfl fun b => ?_
  refine wgh ?_
  refine CdH.nilO w.heap.size TIs 1 ?_
  refine CdH.der (RowsRd w.heap.size [] ((callsM m).take 0)) (fun w' _ => ⟨rfl, fun i hi => by simp at hi⟩) ?_
  refine CdH.loop (σ := Nat × Value × List Value) (fun s => [(1, .pointer (some ⟨b, 0, none⟩)), (3, s.2.1), (4, .int .i64 s.1)]) (fun s => [.own w.heap.size TIs 1 s.2.1 s.1 s.2.2, .blk b ([v0, v1, Value.slice p2 m.funcs.length c2, v3, v4, v5, v6, Value.bool m.hasStart, Value.int .i64 m.start, v7, v8, v9] : List Value) TMod]) (fun s => [RowsRd w.heap.size s.2.2 ((callsM m).take s.1), Ext w]) (fun s => s.1 ≤ m.funcs.length) (fun s => m.funcs.length - s.1) (0, .slice none 0 0, []) wsub wslb (by dsimp only; repeat (first | exact subR_nil | refine subR_cons (by repeat (first | with_reducible exact List.mem_cons_self | apply List.mem_cons_of_mem)) ?_)) (by dsimp only; omega) ?_
  rintro ⟨i, vo, ls⟩ hi
  dsimp only at hi ⊢
  by_cases hlt : i < m.funcs.length
  · have hcx := callsM_ix hlt
    have hcl : i < (callsM m).length := by simp [callsM]; exact hlt
    refine wgh ?_
    refine CdH.nilI w.heap.size ?_
    refine CdH.loop (σ := Nat × Value) (fun s => [(1, .pointer (some ⟨b, 0, none⟩)), (3, vo), (4, .int .i64 i), (5, s.2), (6, .int .i64 s.1)]) (fun s => [.ownI w.heap.size s.2 (callsB (ix m.funcs i).body (impN m 0) s.1), .own w.heap.size TIs 1 vo i ls, .blk b ([v0, v1, Value.slice p2 m.funcs.length c2, v3, v4, v5, v6, Value.bool m.hasStart, Value.int .i64 m.start, v7, v8, v9] : List Value) TMod]) (fun s => [RowsRd w.heap.size ls ((callsM m).take i), Ext w]) (fun s => s.1 ≤ m.funcs.length) (fun s => m.funcs.length - s.1) (0, .slice none 0 0) wsub wslb wsr (by dsimp only; omega) ?_
    rintro ⟨k, vi⟩ hk
    dsimp only at hk ⊢
    have hbl : (callsB (ix m.funcs i).body (impN m 0) k).length ≤ k := by unfold callsB; rw [List.length_map]; exact Nat.le_trans (List.length_filter_le _ _) (by simp)
    by_cases hkl : k < m.funcs.length
    · have hsc := callsB_succ (ix m.funcs i).body (impN m 0) k
      refine wgh ?_
      refine OpsH.call1 rfl rfl rfl (fun w' hw' => ref57_calls F m i k _ w' (hm0.chg (show Ext w w' from hw'.at) (fun _ _ _ h => h)) hlt (by omega) hL0) ?_
      by_cases hb : callsK (ix m.funcs i).body (impN m 0) k = true
      · rw [if_pos hb] at hsc
        rw [hb]
        refine wgh ?_
        refine OpsH.he (HE.bsl rfl rfl rfl rfl rfl wcel (by rfl) (by rfl)) rfl ?_
        intro b3 _
        refine OpsH.he (HE.appI rfl rfl (fun _ => wup) wup (by omega) szR rfl rfl) rfl ?_
        intro v3 _
        refine wgh ?_
        exact FinH.next (k + 1, v3) wsub (by dsimp only; rw [hsc]; exact wslb) wsr (by dsimp only; omega) (by dsimp only; omega)
      · rw [if_neg hb, List.append_nil] at hsc
        rw [Bool.eq_false_iff.2 hb]
        refine wgh ?_
        exact FinH.next (k + 1, vi) wsub (by dsimp only; rw [hsc]; exact wslb) wsr (by dsimp only; omega) (by dsimp only; omega)
    · obtain rfl : k = m.funcs.length := by omega
      refine wgh ?_
      refine OpsH.pure (φ := ∃ p n c, vi = .slice p n c) (fun w' hw' => ?_) ?_
      · obtain ⟨p, c, e, _⟩ := own_slice (hw'.ownI (v := vi)); exact ⟨p, _, c, e⟩
      rintro ⟨p8, n8, c8, rfl⟩
      refine OpsH.freeze (fun w' => IntsR (fun k => w.heap.size ≤ k) w' (.slice p8 n8 c8) (callsB (ix m.funcs i).body (impN m 0) m.funcs.length)) wrm (fun w' hq _ => OwnI.reads' hq (by omega)) ?_
      refine OpsH.he (HE.bsl rfl rfl rfl rfl rfl wcel (by rfl) (by rfl)) rfl ?_
      intro b3 _
      refine OpsH.he (HE.app rfl rfl (fun _ => wup) wup rfl rfl rfl (by rfl) (by rfl) (by rfl) (by rfl) (by rfl) (by rfl) (by omega) szR) rfl ?_
      intro v9' _
      refine wgh ?_
      refine FinH.der (RowsRd w.heap.size (ls ++ [.slice p8 n8 c8]) ((callsM m).take (i + 1))) (fun w' hw' => ?_) ?_
      · rw [take_succ_ix hcl, hcx]
        exact RowsRd.app (all_at hw') (all_at hw')
      exact FinH.next (i + 1, v9', ls ++ [.slice p8 n8 c8]) wsub wslb (by dsimp only; repeat (first | exact subR_nil | refine subR_cons (by repeat (first | with_reducible exact List.mem_cons_self | apply List.mem_cons_of_mem)) ?_)) (by dsimp only; omega) (by dsimp only; omega)
  · obtain rfl : i = m.funcs.length := by omega
    refine wgh ?_
    refine FinH.ret1 rfl rfl fun w' hw' => ⟨⟨vo, rfl, ?_⟩, hw'.at⟩
    have h1 : RowsRd w.heap.size ls ((callsM m).take m.funcs.length) w' := hw'.at
    rw [List.take_of_length_le (by simp [callsM])] at h1
    exact rows_read (hw'.own (v := vo)) (by simp [callsM]) h1 (by simp [callsM]; omega)
end Go.Proofs.YtmkgfccfnpmcjaaGreatDoor
/- ref57.Deep. -/
namespace Go.Proofs.YtmkgfccfnpmcjaaGreatDoor
open Go.RowKit
set_option maxRecDepth 100000
theorem OpsH.anchor {ops : Array Oper} {Q : Exit → Act → World → Prop} {n : Nat} {l : List Oper} {E : Env} {R : List (World → Prop)} (h : ∀ w1, Ok [] R w1 → OpsH ops Q n l E [] (Ext w1 :: R)) : OpsH ops Q n l E [] R := ⟨fun w hw => (h w hw).h w (hw.add fun w' hc => hc.mono fun k _ ⟨q, hq, _⟩ => absurd hq (by simp))⟩
/-- ways meet again before the k-th of the operations that are left -/
theorem OpsH.meetAt {ops : Array Oper} {Q : Exit → Act → World → Prop} {n : Nat} {l : List Oper} {E : Env} {M : List Res} {R : List (World → Prop)} (k : Nat) (E' : Env) (h1 : OpsH ops Q n (l.drop k) E' M R → OpsH ops Q n l E M R) (h2 : OpsH ops Q n (l.drop k) E' M R) : OpsH ops Q n l E M R := h1 h2
/-- i truths, then falsehoods -/
def outB (n i : Nat) : List Bool := List.replicate i true ++ List.replicate (n - i) false
theorem outB_zero (n : Nat) : outB n 0 = List.replicate n false := by simp [outB]
theorem outB_all (n : Nat) : outB n n = List.replicate n true := by simp [outB]
theorem outB_len {n i : Nat} (h : i ≤ n) : (outB n i).length = n := by simp [outB]; omega
theorem outB_set {n i : Nat} (h : i < n) : (outB n i).set i true = outB n (i + 1) := by
  unfold outB
  rw [List.set_append_right _ _ (by simp), List.length_replicate, Nat.sub_self, show n - i = (n - (i + 1)) + 1 by omega, List.replicate_succ, List.set_cons_zero, List.replicate_succ', List.append_assoc]; rfl
abbrev bv (l : List Bool) : List Value := l.map Value.bool
theorem bv_set (l : List Bool) (i : Nat) (b : Bool) : (bv l).set i (.bool b) = bv (l.set i b) := (List.map_set ..).symm

set_option maxHeartbeats 32000000 in
theorem ref57_Deep (F : Nat → Prop) (m : ApiModule) (cs : List Value) (w : World) (hm : ApiModuleV F w cs m) (hL : LensP m) : Calls G.P 18 #[.agg cs.toArray] w fun e w' => e = .returned (.int .i64 (deepG (callsM m))) ∧ Ext w w' := by
  have hm0 := hm
  have hlen := hm0.len
  obtain ⟨c0, c1, c2, c3, c4, c5, c6, c7, c8, c9, c10, c11, rfl⟩ := len12_ hlen
  have hL0 := hL
  obtain ⟨-, -, L2, -⟩ := hL
  have hgl : (callsM m).length = m.funcs.length := by simp [callsM]
  refine enterH (l := [.agg ([c0, c1, c2, c3, c4, c5, c6, c7, c8, c9, c10, c11] : List Value).toArray]) Tryz.func18 rfl Tryz.ntmps18 rfl (Ok.start w) ?_
  refine wgh ?_
  refine OpsH.box ([c0, c1, c2, c3, c4, c5, c6, c7, c8, c9, c10, c11] : List Value) rfl rfl rfl fun b => ?_
  refine wgh ?_
  refine OpsH.he (HE.callF (V := fun lo w v => RowsR (fun k => lo ≤ k) w v (callsM m)) (fun v => v) (rows_fresh _) rfl rfl (fun w' hw' => ref57_Calls F m _ w' (hm0.chg (show Ext w w' from hw'.at) (fun _ _ _ h => h)) hL0)) rfl ?_
  rintro ⟨lo, vC⟩ -
  dsimp only
  refine wgh ?_
  refine OpsH.sub (E' := [(13, vC), (3, vC)]) wsub (M' := []) (R' := [fun w => RowsR (fun k => lo ≤ k) w vC (callsM m), Ext w]) wsl wsr ?_
  refine OpsH.anchor fun w1 hw1 => ?_
  have hrows : RowsR (fun k => lo ≤ k) w1 vC (callsM m) := hw1.at
  obtain ⟨pc, cc, rfl, hlc⟩ := hrows.slice
  have hin := callsM_in m
  generalize hg : callsM m = g at *
  refine OpsH.sub (E' := [(13, .slice pc g.length cc), (3, .slice pc g.length cc)]) wsub (M' := []) (R' := [Ext w1, Ext w]) wsl wsr ?_
  refine wgh ?_
  refine OpsH.he (HE.make1 (B := w1.heap.size) (.bool false) rfl rfl rfl rfl rfl rfl (by show 1 * g.length ≤ _; omega) (by omega) szR) rfl ?_
  intro g0 _
  refine wgh ?_
  refine CdH.loop (σ := Nat) (fun i => [(3, .slice pc g.length cc), (4, .slice (some ⟨g0, 0, none⟩) g.length g.length), (5, .int .i64 i)]) (fun i => [.own w1.heap.size TBool 1 (.slice (some ⟨g0, 0, none⟩) g.length g.length) g.length (bv (outB g.length i))]) (fun _ => [Ext w1, Ext w]) (fun i => i ≤ g.length) (fun i => g.length - i) 0 wsub (sub_own rfl rfl (by rw [outB_zero]; simp [bv]) (List.nil_sublist _)) wsr (by omega) ?_
  intro i hi
  by_cases hlt : i < g.length
  · refine wgh ?_
    refine OpsH.he0 (HE0.setO (i := i) rfl rfl rfl rfl rfl wup (by rw [List.length_map, outB_len (by omega)]; omega)) ?_
    rintro ⟨⟩ _
    rw [bv_set, outB_set hlt]
    refine wgh ?_
    exact FinH.next (i + 1) wsub wsl wsr (by omega) (by omega)
  · obtain rfl : i = g.length := by omega
    refine wgh ?_
    refine CdH.loop (σ := Nat × Nat) (fun s => [(3, .slice pc g.length cc), (4, .slice (some ⟨s.2, 0, none⟩) g.length g.length), (6, .int .i64 s.1)]) (fun s => [.own w1.heap.size TBool 1 (.slice (some ⟨s.2, 0, none⟩) g.length g.length) g.length (bv (endsOf g s.1))]) (fun _ => [Ext w1, Ext w]) (fun s => s.1 ≤ g.length + 1 ∧ ∀ k, k < s.1 → someEnd g k = true) (fun s => g.length + 1 - s.1) (0, g0) wsub (sub_own rfl rfl (by rw [outB_all]; rfl) (List.nil_sublist _)) wsr ⟨by simp, fun k hk => by simp at hk⟩ ?_
    rintro ⟨n, ge⟩ ⟨hn, hs⟩
    dsimp only at hn hs ⊢
    have hel := endsOf_len g n
    by_cases hnl : n ≤ g.length
    · refine wgh ?_
      refine OpsH.he (HE.make1 (B := w1.heap.size) (.bool false) rfl rfl rfl rfl rfl rfl (by show 1 * g.length ≤ _; omega) (by omega) szR) rfl ?_
      intro gn _
      refine wgh ?_
      refine CdH.loop (σ := Nat) (fun i => [(3, .slice pc g.length cc), (4, .slice (some ⟨ge, 0, none⟩) g.length g.length), (6, .int .i64 n), (7, .slice (some ⟨gn, 0, none⟩) g.length g.length), (8, .bool (someE (endsOf g n) i)), (9, .int .i64 i)]) (fun i => [.own w1.heap.size TBool 1 (.slice (some ⟨gn, 0, none⟩) g.length g.length) g.length (bv (nxtE g (endsOf g n) i)), .own w1.heap.size TBool 1 (.slice (some ⟨ge, 0, none⟩) g.length g.length) g.length (bv (endsOf g n))]) (fun _ => [Ext w1, Ext w]) (fun i => i ≤ g.length) (fun i => g.length - i) 0 wsub (sub_own rfl rfl (by simp [bv, nxtE]) (List.Sublist.refl _)) wsr (by omega) ?_
      intro i hi
      by_cases hlt : i < g.length
      · obtain ⟨bc, oc, rfl, hF, hall⟩ := hrows.at hlt
        obtain ⟨ur, hcr, hrow⟩ := hall i hlt
        obtain ⟨pr, cr, rfl, hlr⟩ := hrow.slice
        have hsn := someE_succ (e := endsOf g n) (i := i) (by omega)
        have hnx := nxtE_succ g (endsOf g n) i
        refine wgh ?_
        refine OpsH.meetAt 5 [(46, .bool (someE (endsOf g n) (i + 1))), (3, .slice (some ⟨bc, oc, none⟩) g.length cc), (4, .slice (some ⟨ge, 0, none⟩) g.length g.length), (6, .int .i64 n), (7, .slice (some ⟨gn, 0, none⟩) g.length g.length), (9, .int .i64 i)] (fun hr => ?_) ?_
        · cases hb : someE (endsOf g n) i with
          | true =>
            rw [hb] at hsn
            refine OpsH.gs rfl rfl rfl ?_
            refine OpsH.gs rfl rfl rfl ?_
            refine OpsH.gs rfl rfl rfl ?_
            refine OpsH.gs rfl rfl rfl ?_
            refine OpsH.y_ (Yl.pickT rfl rfl) rfl ?_
            exact OpsH.sub (by rw [hsn]; exact wsub) (List.Sublist.refl _) (fun _ h => h) hr
          | false =>
            rw [hb] at hsn
            refine OpsH.yg rfl (Yl.move rfl) rfl ?_
            refine OpsH.yg rfl (Yl.move rfl) rfl ?_
            refine OpsH.yg rfl (Yl.idx1 rfl rfl rfl rfl rfl rfl (by omega)) rfl ?_
            refine OpsH.yg rfl (Yl.loadO (i := i) rfl rfl rfl (op_get (l := endsOf g n) (i := i) (by omega)) wmm) rfl ?_
            refine OpsH.y_ (Yl.pickF rfl rfl) rfl ?_
            exact OpsH.sub (by rw [hsn, Bool.false_or]; exact wsub) (List.Sublist.refl _) (fun _ h => h) hr
        dsimp only [List.drop]
        refine wgh ?_
        cases he : ix (endsOf g n) i with
        | false =>
          rw [he, if_neg (by simp)] at hnx
          refine CdH.loop (σ := Nat) (fun _ => [(3, .slice (some ⟨bc, oc, none⟩) g.length cc), (4, .slice (some ⟨ge, 0, none⟩) g.length g.length), (6, .int .i64 n), (7, .slice (some ⟨gn, 0, none⟩) g.length g.length), (8, .bool (someE (endsOf g n) (i + 1))), (9, .int .i64 i), (10, .int .i64 0)]) (fun _ => [.own w1.heap.size TBool 1 (.slice (some ⟨gn, 0, none⟩) g.length g.length) g.length (bv (nxtE g (endsOf g n) i)), .own w1.heap.size TBool 1 (.slice (some ⟨ge, 0, none⟩) g.length g.length) g.length (bv (endsOf g n))]) (fun _ => [Ext w1, Ext w]) (fun _ => True) (fun _ => 0) 0 wsub wsl wsr trivial ?_
          intro k _
          refine wgh ?_
          refine OpsH.y_ (Yl.loadO (i := i) rfl rfl rfl (op_get (l := endsOf g n) (i := i) (by omega)) wmm) rfl ?_
          rw [he]
          refine wgh ?_
          exact FinH.next (i + 1) wsub (by rw [hnx]; exact wsl) wsr (by omega) (by omega)
        | true =>
          rw [he, if_pos rfl] at hnx
          refine CdH.loop (σ := Nat) (fun k => [(3, .slice (some ⟨bc, oc, none⟩) g.length cc), (4, .slice (some ⟨ge, 0, none⟩) g.length g.length), (6, .int .i64 n), (7, .slice (some ⟨gn, 0, none⟩) g.length g.length), (8, .bool (someE (endsOf g n) (i + 1))), (9, .int .i64 i), (10, .int .i64 k)]) (fun k => [.own w1.heap.size TBool 1 (.slice (some ⟨gn, 0, none⟩) g.length g.length) g.length (bv (markR (nxtE g (endsOf g n) i) ((ix g i).take k))), .own w1.heap.size TBool 1 (.slice (some ⟨ge, 0, none⟩) g.length g.length) g.length (bv (endsOf g n))]) (fun _ => [Ext w1, Ext w]) (fun k => k ≤ (ix g i).length) (fun k => (ix g i).length - k) 0 wsub wsl wsr (by omega) ?_
          intro k hk
          by_cases hkl : k < (ix g i).length
          · obtain ⟨br, orr, rfl, -, hcell⟩ := hrow.at hkl
            have c9 := hcell k hkl
            have hk0 := hin i hlt (ix (ix g i) k) (by rw [ix_eq hkl]; exact List.getElem_mem hkl)
            have hmt := markR_take (l := nxtE g (endsOf g n) i) hkl
            obtain ⟨a, ea⟩ := Int.eq_ofNat_of_zero_le hk0.1
            rw [ea] at c9 hmt hk0
            rw [Int.toNat_natCast] at hmt
            refine wgh ?_
            refine OpsH.y_ (Yl.loadO (i := i) rfl rfl rfl (op_get (l := endsOf g n) (i := i) (by omega)) wmm) rfl ?_
            rw [he]
            refine wgh ?_
            refine OpsH.he0 (HE0.setO (i := a) rfl rfl rfl rfl rfl wup (by rw [List.length_map, markR_len, nxtE_len]; omega)) ?_
            rintro ⟨⟩ _
            rw [bv_set, ← hmt]
            refine wgh ?_
            exact FinH.next (k + 1) wsub wsl wsr (by omega) (by omega)
          · obtain rfl : k = (ix g i).length := by omega
            refine wgh ?_
            refine OpsH.y_ (Yl.loadO (i := i) rfl rfl rfl (op_get (l := endsOf g n) (i := i) (by omega)) wmm) rfl ?_
            rw [he]
            refine wgh ?_
            exact FinH.next (i + 1) wsub (by rw [hnx]; rw [List.take_length]; exact wsl) wsr (by omega) (by omega)
      · obtain rfl : i = g.length := by omega
        have hsa := someE_all g n
        have hna := nxtE_all hin n
        cases hse : someEnd g n with
        | false =>
          rw [hse] at hsa
          rw [hsa]
          refine wgh ?_
          exact FinH.ret1 rfl rfl fun w' hw' => ⟨by rw [deepG_here hnl hs hse], hw'.at⟩
        | true =>
          rw [hse] at hsa
          rw [hsa]
          refine wgh ?_
          refine FinH.next (n + 1, gn) wsub (by dsimp only; rw [← hna]; exact wsl) wsr ⟨by dsimp only; omega, fun k hk => ?_⟩ (by dsimp only; omega)
          dsimp only at hk
          rcases Nat.lt_or_ge k n with h | h
          · exact hs k h
          · obtain rfl : k = n := by omega
            exact hse
    · obtain rfl : n = g.length + 1 := by omega
      refine wgh ?_
      exact FinH.ret1 rfl rfl fun w' hw' => ⟨by rw [deepG_none hs], hw'.at⟩
end Go.Proofs.YtmkgfccfnpmcjaaGreatDoor
