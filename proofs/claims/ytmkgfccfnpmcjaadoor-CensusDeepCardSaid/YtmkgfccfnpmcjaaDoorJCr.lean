/- Space.whole, Space.Imported. -/
import Derived.Test.YtmkgfccfnpmcjaaDoorJSr
import Derived.Test.YtmkgfccfnpmcjaaDoorJQ3
import Derived.Test.YtmkgfccfnpmcjaaDoorJH2
namespace Go.Proofs.YtmkgfccfnpmcjaaDoor
open Go.RowKit
set_option maxRecDepth 100000
section
variable {ops : Array Oper} {Q : Exit → Act → World → Prop} {n : Nat} {E : Env} {M M' : List Res} {R R' : List (World → Prop)} {v : Value} {x y z : Operand} {t t2 : TypeId} {C : World → Prop}
theorem Yl.eqPN {ti : TypeId} {ad : Addr} (ht : G.P.underlying t = some (.pointer ti)) (hx : ev E x = some (.pointer (some ad))) (hy : ev E y = some (.pointer none)) : Yl G n (.binOp .eql t x y t2) E C (.bool false) :=
  ⟨fun w _ a ha d ty pos aft gd => by
    have h2 : ∀ m, (Op.equalIn (m + 1) t (.pointer (some ad)) (.pointer none)).run G.P w = .ok false w := by
      intro m; simp [Op.equalIn, run_underlying ht]
    have h3 : (Op.equal t (.pointer (some ad)) (.pointer none)).run G.P w = .ok false w := h2 9999
    simp [execOp, ha.eval hx, ha.eval hy, eqGuard, binOp, h3]⟩
theorem Yl.lookupE {k e : TypeId} {zv : Value} {bm : Nat} {g : Int → Option Value} {a : Int} {w0 : World} (ht : G.P.underlying t = some (.map k e)) (hk : G.P.underlying k = some (.int .i64)) (hzv : ∀ w, (zeroValue e).run G.P w = .ok zv w) (hx : ev E x = some (.map (some bm))) (hy : ev E y = some (.int .i64 a)) (ha : R64 a)
    (hM : IV w0 bm g) (hR : Ext w0 ∈ R) : Yl G n (.lookup t x y false) E (Ok M R) ((g a).getD zv) :=
  ⟨fun w hw ac hac d ty pos aft gd => by
    have := iv_lookup (t := t) ht hk hzv (hM.chg (show Ext w0 w from hw.get hR) (fun h => h)) (R64_wf ha)
    simp [execOp, hac.eval hx, hac.eval hy, this]⟩
end
theorem space_whole (bS sp : Nat) (w : World) (hb : Blk w bS [.pointer (some ⟨sp, 0, none⟩)] TSpace) : Calls G.P 31 #[.pointer (some ⟨bS, 0, none⟩)] w fun e w' => e = .returned (.pointer (some ⟨sp, 0, none⟩)) ∧ Ext w w' := by
  have c0 : w.cell? ⟨bS, 0, none⟩ = some (.pointer (some ⟨sp, 0, none⟩)) := hb.cell rfl
  refine enterH (l := [.pointer (some ⟨bS, 0, none⟩)]) Tryd.func31 rfl Tryd.ntmps31 rfl (Ok.start w) ?_
  refine wgh ?_
  refine OpsH.y_ (Yl.eqPN Tryd.underlying76 rfl rfl) rfl ?_
  refine wgh ?_
  refine OpsH.yg rfl (Yl.eqPN Tryd.underlying100 rfl rfl) rfl ?_
  refine wgh ?_
  exact FinH.ret1 rfl rfl fun w' hw' => ⟨rfl, hw'.at⟩
theorem space_Imported (B : Nat) (m : ApiModule) (v : Value) (k : Int) (w : World) (h : SpaceRd B m w v) (hk : R64 k) : Calls G.P 14 #[v, .int .i64 k] w fun e w' => e = .returned (.int .i64 (impN m k)) ∧ Ext w w' := by
  obtain ⟨bS, sp, im, dm, vs, tc, ig, dg, rfl, -, h⟩ := h
  have c7 : w.cell? ⟨sp, 7, none⟩ = some (.map (some im)) := h.x.cell rfl
  refine enterH (l := [.pointer (some ⟨bS, 0, none⟩), .int .i64 k]) Tryd.func14 rfl Tryd.ntmps14 rfl (Ok.start w) ?_
  refine wgh ?_
  refine OpsH.call1 rfl rfl rfl (fun w' hw' => space_whole bS sp w' (h.s.chg (show Ext w w' from hw'.at) (fun h => h))) ?_
  refine wgh ?_
  refine OpsH.y_ (Yl.lookupE (zv := .int .i64 0) Tryd.underlying101 Tryd.underlying36 (fun _ => rfl) rfl rfl hk h.im wmem) rfl ?_
  rw [h.cnt k]
  refine wgh ?_
  exact FinH.ret1 rfl rfl fun w' hw' => ⟨rfl, hw'.at⟩
end Go.Proofs.YtmkgfccfnpmcjaaDoor
/- slices.Compact on a row of numbers of the call's own, sorted. -/
namespace Go.Proofs.YtmkgfccfnpmcjaaDoor
open Go.RowKit
set_option maxRecDepth 100000

theorem bang_ix (zs : List Int) (j : Nat) : zs.toArray[j]! = ix zs j := by
  simp [ix, List.getD_eq_getElem?_getD]
theorem keeps_iff {zs : List Int} {j : Nat} : Lib.keeps zs.toArray j = true ↔ (j = 0 ∨ ix zs j ≠ ix zs (j - 1)) := by
  rw [← bang_ix, ← bang_ix]; simp [Lib.keeps]
theorem mem_compact {zs : List Int} (a : Int) : a ∈ Lib.compact zs ↔ a ∈ zs := by
  unfold Lib.compact Lib.compactUpTo
  rw [List.mem_map]
  constructor
  · rintro ⟨j, hj, rfl⟩
    have h1 := List.mem_range.1 (List.mem_filter.1 hj).1
    rw [bang_ix, ix_eq h1]; exact List.getElem_mem h1
  · intro ha
    obtain ⟨j, hj, rfl⟩ := List.getElem_of_mem ha
    induction j using Nat.strongRecOn with
    | _ j ih =>
      by_cases hk : Lib.keeps zs.toArray j = true
      · exact ⟨j, List.mem_filter.2 ⟨List.mem_range.2 hj, hk⟩, by rw [bang_ix, ix_eq hj]⟩
      · have h0 : j ≠ 0 := fun e => hk (keeps_iff.2 (.inl e))
        have h1 : ix zs j = ix zs (j - 1) := Classical.byContradiction fun h => hk (keeps_iff.2 (.inr h))
        obtain ⟨i, hi, e⟩ := ih (j - 1) (by omega) (by omega) (List.getElem_mem _)
        refine ⟨i, hi, ?_⟩
        rw [e, ← ix_eq hj, h1, ix_eq (by omega)]
theorem compact_sorted {zs : List Int} (hs : zs.Pairwise (· ≤ ·)) : (Lib.compact zs).Pairwise (· < ·) := by
  unfold Lib.compact Lib.compactUpTo
  rw [List.pairwise_map]
  have hr := List.pairwise_iff_getElem.1 hs
  have hle : ∀ i j, i ≤ j → j < zs.length → ix zs i ≤ ix zs j := fun i j hij hj => by
    rw [ix_eq (by omega), ix_eq hj]
    rcases Nat.lt_or_ge i j with h | h
    · exact hr i j (by omega) hj h
    · have : i = j := by omega
      subst this; exact Int.le_refl _
  have hp : ((List.range zs.length).filter (Lib.keeps zs.toArray)).Pairwise (· < ·) := List.Pairwise.filter _ List.pairwise_lt_range
  refine List.Pairwise.imp_of_mem (fun {a b} ha hb hab => ?_) hp
  have hb1 := List.mem_range.1 (List.mem_filter.1 hb).1
  rw [bang_ix, bang_ix]
  have h1 := (keeps_iff.1 (List.mem_filter.1 hb).2).resolve_left (by omega)
  have h2 := hle a (b - 1) (by omega) (by omega)
  have h3 := hle (b - 1) b (by omega) hb1
  omega
theorem setCells_chg (b : Nat) : ∀ (vs : List Value) (o : Nat) (w : World), Chg (fun k => k = b) w (w.setCells b o vs)
  | [], _, w => Chg.refl _ w
  | v :: r, o, w => (Chg.setCell (S := fun k => k = b) (p := ⟨b, o, none⟩) (Chg.refl _ w) (fun _ => rfl) v).trans (setCells_chg b r (o + 1) _)
theorem setCells_heap (b : Nat) {T : TypeId} {f : Nat × Nat} : ∀ (vs : List Value) (o : Nat) (w : World) (cur : List Value), w.heap[b]? = some (.cells cur.toArray T f) → o + vs.length ≤ cur.length → (w.setCells b o vs).heap[b]? = some (.cells (cur.take o ++ (vs ++ cur.drop (o + vs.length))).toArray T f)
  | [], o, w, cur, h, _ => by show w.heap[b]? = _; simpa using h
  | v :: r, o, w, cur, h, hl => by
    have hl' : o < cur.length := by simp at hl; omega
    have h1 : (w.setCell ⟨b, o, none⟩ v).heap[b]? = some (.cells (cur.set o v).toArray T f) := by
      simp [World.setCell, Array.getElem?_modify, h]
    have ih := setCells_heap b r (o + 1) _ (cur.set o v) h1 (by simp at hl ⊢; omega)
    rw [World.setCells, ih]
    have e1 : (cur.set o v).take (o + 1) = cur.take o ++ [v] := by
      rw [List.set_eq_take_append_cons_drop, if_pos hl', List.take_append]
      have : (cur.take o).length = o := by simp; omega
      simp [this]
      exact List.take_of_length_le (by rw [this]; omega)
    have e2 : (cur.set o v).drop (o + 1 + r.length) = cur.drop (o + (v :: r).length) := by
      rw [List.drop_set_of_lt (by omega)]
      congr 1; simp; omega
    rw [e1, e2]
    simp
theorem compact_len (zs : List Int) : (Lib.compact zs).length ≤ zs.length := Lib.compact_length_le zs
/-- slices.Compact on a row of numbers of the call's own -/
theorem slices_Compact (xs : List Int) (v : Value) (B : Nat) (w : World) (hown : OwnI B w v xs) : Calls G.P 16 #[v] w fun e w' => ∃ v', e = .returned v' ∧ OwnI B w' v' (Lib.compact xs) ∧ Chg (fun k => v.ownBlock = some k) w w' ∧ ∀ k, v'.ownBlock = some k → v.ownBlock = some k := by
  by_cases h0 : xs = []
  · subst h0
    obtain ⟨p, c, rfl, hn, hc, hg⟩ := own_slice hown
    refine (sh_slices_Compact_int_empty p c w).mono ?_
    rintro e w' ⟨rfl, rfl⟩
    exact ⟨_, rfl, hown, Chg.refl _ _, fun k hk => hk⟩
  · obtain ⟨p, c, rfl, hn, hc, hg⟩ := own_slice hown
    obtain ⟨g, rfl, hB, hlt⟩ := hg (List.length_pos_iff.2 h0)
    have hl := compact_len xs
    refine (sh_slices_Compact_int_cells g 0 xs.length c xs w (Nat.le_refl _) (by unfold maxLen at hc; omega) hn (fun j hj => ?_) (fun j _ => hown.free _)).mono ?_
    · rw [hown.get hj]
      simp [ix, List.getD_eq_getElem?_getD, hj]
    · rintro e w' ⟨rfl, q, rfl⟩
      rw [List.take_length]
      refine ⟨_, rfl, ?_, ((Chg.refl _ w).drewN q).trans ((setCells_chg g _ 0 _).mono (fun k _ e => by rw [e]; rfl)), fun k hk => hk⟩
      obtain ⟨h1, h2⟩ := hown
      rcases h2 with ⟨hn0, _⟩ | ⟨g', cap, cur, e, hbase, hb, h3, h4, h5, h6⟩
      · cases hn0
      · cases e
        have hcur : cur.toList.length = c * 1 := by simpa using h5
        have hb' : (w.drewN q).heap[g]? = some (.cells cur.toList.toArray 3 (0, 0)) := by simpa using hb
        have := setCells_heap g ((Lib.compact xs ++ List.replicate (xs.length - (Lib.compact xs).length) 0).map (Value.int .i64)) 0 (w.drewN q) cur.toList hb' (by simp; omega)
        refine ⟨by simp, .inr ⟨g, c, _, rfl, hbase, this, by omega, h4, ?_, ?_⟩⟩
        · simp; omega
        · simp
end Go.Proofs.YtmkgfccfnpmcjaaDoor
/- census.Calls. -/
namespace Go.Proofs.YtmkgfccfnpmcjaaDoor
open Go.RowKit
set_option maxRecDepth 100000
abbrev sortL (xs : List Int) : List Int := xs.mergeSort fun x y => decide (x ≤ y)
theorem ok_ownI {B : Nat} {v : Value} {xs : List Int} {w : World} (h : OwnI B w v xs) : Ok [.ownI B v xs] [] w :=
  ⟨fun q hq => by rw [List.mem_singleton] at hq; subst hq; exact ⟨h, fun k hk => (h.lt k hk).2⟩, List.pairwise_singleton _ _, fun p hp => absurd hp (by simp)⟩
theorem mb1 {q : Res} {k : Nat} : Mb [q] k ↔ q.F k := ⟨fun ⟨x, hx, hk⟩ => by rw [List.mem_singleton] at hx; subst hx; exact hk, fun h => ⟨q, by simp, h⟩⟩
theorem sort_mut (xs : List Int) (v : Value) (B : Nat) (w : World) (hw : Ok [.ownI B v xs] [] w) (hl : xs.length ≤ 1000000000) : Calls G.P 15 #[v] w (MutPost [.ownI B v xs] w (fun _ : Unit => .tuple #[]) (fun _ => True) (fun _ => [.ownI B v (sortL xs)])) := by
  have ho : OwnI B w v xs := (hw.m (.ownI B v xs) (by simp)).1
  by_cases h0 : xs = []
  · subst h0
    obtain ⟨p, c, rfl, _⟩ := own_slice ho
    refine (sh_slices_Sort_int_none p c w).mono ?_
    rintro e w' ⟨rfl, rfl⟩
    exact ⟨(), rfl, trivial, ok_ownI (by simpa [sortL] using ho), Chg.refl _ _, fun k hk _ => mb1.2 (show (Value.slice p 0 c).ownBlock = some k from (mb1 (q := .ownI B (.slice p 0 c) (sortL []))).1 hk)⟩
  · refine (slices_Sort xs v B w ho (List.length_pos_iff.2 h0) hl).mono ?_
    rintro e w' ⟨rfl, h1, h2⟩
    exact ⟨(), rfl, trivial, ok_ownI h1, h2.mono (fun k _ hk => mb1.2 hk), fun k hk _ => mb1.2 (show v.ownBlock = some k from (mb1 (q := .ownI B v (sortL xs))).1 hk)⟩
theorem compact_mut (xs : List Int) (v : Value) (B : Nat) (w : World) (hw : Ok [.ownI B v xs] [] w) : Calls G.P 16 #[v] w (MutPost [.ownI B v xs] w (fun u : Value => u) (fun _ => True) (fun u => [.ownI B u (Lib.compact xs)])) := by
  refine (slices_Compact xs v B w (hw.m (.ownI B v xs) (by simp)).1).mono ?_
  rintro e w' ⟨v', rfl, h1, h2, h3⟩
  exact ⟨v', rfl, trivial, ok_ownI h1, h2.mono (fun k _ hk => mb1.2 hk), fun k hk _ => mb1.2 (h3 k (mb1.1 hk))⟩
theorem sortL_pw (xs : List Int) : (sortL xs).Pairwise (· ≤ ·) := by
  refine (List.pairwise_mergeSort (le := fun x y => decide (x ≤ y)) ?_ ?_ _).imp (fun h => by simpa using h)
  · intro a b c h1 h2; simp only [decide_eq_true_eq] at *; omega
  · intro a b; simp only [Bool.or_eq_true, decide_eq_true_eq]; omega
theorem calls_compact (xs : List Ins) (n0 : Int) (nf : Nat) : Lib.compact (sortL (callsO xs n0 nf)) = callsB xs n0 nf :=
  sorted_ext (compact_sorted (sortL_pw _)) (callsB_sorted xs n0 nf) (fun a => by rw [mem_compact, List.mem_mergeSort, mem_callsO])
theorem callsO_succ {xs : List Ins} {n0 : Int} {nf j : Nat} (h : j < xs.length) : callsO (xs.take (j + 1)) n0 nf = callsO (xs.take j) n0 nf ++ if (ix xs j).op = 16 ∧ n0 ≤ (ix xs j).a ∧ (ix xs j).a - n0 < nf then [(ix xs j).a - n0] else [] := by
  unfold callsO
  rw [take_succ_ix h, List.filter_append, List.map_append]
  congr 1
  by_cases h1 : (ix xs j).op = 16 ∧ n0 ≤ (ix xs j).a ∧ (ix xs j).a - n0 < nf
  · rw [if_pos h1]; simp [h1.1, h1.2.1, h1.2.2]
  · rw [if_neg h1]
    have : ((ix xs j).op == 16 && decide (n0 ≤ (ix xs j).a) && decide ((ix xs j).a - n0 < nf)) = false := by
      rw [Bool.eq_false_iff]; intro e
      simp only [Bool.and_eq_true, beq_iff_eq, decide_eq_true_eq] at e
      exact h1 ⟨e.1.1, e.1.2, e.2⟩
    simp [this]
theorem callsO_len (xs : List Ins) (n0 : Int) (nf : Nat) : (callsO xs n0 nf).length ≤ xs.length := by
  unfold callsO; rw [List.length_map]; exact List.length_filter_le _ _
/-- the call graph of a module -/
def callsM (m : ApiModule) : List (List Int) := m.funcs.map fun f => callsB f.body (impN m 0) m.funcs.length
theorem callsM_ix {m : ApiModule} {i : Nat} (h : i < m.funcs.length) : ix (callsM m) i = callsB (ix m.funcs i).body (impN m 0) m.funcs.length := by
  rw [ix_eq (by simp [callsM]; exact h), ix_eq h]; simp [callsM]
abbrev TIs : Nat := 51
def RowsRd (B : Nat) (ls : List Value) (rs : List (List Int)) : World → Prop := fun w => ls.length = rs.length ∧ ∀ i, i < rs.length → IntsR (fun k => B ≤ k) w (ix ls i) (ix rs i)
theorem RowsRd.app {B : Nat} {ls : List Value} {rs : List (List Int)} {w : World} (h : RowsRd B ls rs w) {v : Value} {r : List Int} (hv : IntsR (fun k => B ≤ k) w v r) : RowsRd B (ls ++ [v]) (rs ++ [r]) w := by
  obtain ⟨h1, h2⟩ := h
  refine ⟨by simp [h1], fun i hi => ?_⟩
  by_cases hlt : i < rs.length
  · rw [ix_app_l hlt, ix_app_l (a := ls) (by omega)]; exact h2 i hlt
  · have e : i = rs.length := by simp at hi; omega
    subst e
    rw [ix_app_r (a := rs) (Nat.le_refl _), ix_app_r (a := ls) (by omega), h1, Nat.sub_self]; exact hv
theorem rows_read {B : Nat} {w : World} {v : Value} {ls : List Value} {rs : List (List Int)} {n : Nat} (ho : w.ownsRow B TIs 1 v n ls) (hn : n = rs.length) (hr : RowsRd B ls rs w) (hl : rs.length ≤ 1000000) : RowsR (fun k => B ≤ k) w v rs := by
  subst hn
  obtain ⟨p, c, rfl, _, _, hg⟩ := own_slice ho
  obtain ⟨h1, h2⟩ := hr
  refine ⟨p, c, rfl, by omega, ?_⟩
  by_cases h0 : rs = []
  · exact .inl h0
  · obtain ⟨g, rfl, hB, _⟩ := hg (List.length_pos_iff.2 h0)
    refine .inr ⟨g, 0, rfl, hB, fun i hi => ⟨ix ls i, ?_, h2 i hi⟩⟩
    rw [Nat.zero_add]; exact own_get ho (ix_some (by omega))
theorem space_fresh (m : ApiModule) : Fresh (fun lo w v => SpaceRd lo m w v) := fun {lo x S w w'} h hc hS => by
  have hc' : Chg (fun k => S k ∧ k < w.heap.size) w w' := hc.mono fun k hk hs => ⟨hs, hk⟩
  exact h.chg hc' fun k hk ⟨hs, hlt⟩ => hS k hlt hk hs
def CallsPost (m : ApiModule) (w : World) (e : Ending) (w' : World) : Prop := (∃ v, e = .returned v ∧ RowsR (fun k => w.heap.size ≤ k) w' v (callsM m)) ∧ Ext w w'

set_option maxHeartbeats 32000000 in
theorem census_Calls (F : Nat → Prop) (m : ApiModule) (cs : List Value) (w : World) (hm : ApiModuleV F w cs m) (hL : LensP m) (hs : SmallM m) : Calls G.P 8 #[.agg cs.toArray] w (CallsPost m w) := by
  have hm0 := hm
  obtain ⟨v0, v1, v2, v3, v4, v5, v6, v7, v8, v9, rfl, r0, r1, r2, r3, r4, r5, r6, r7, r8, r9, g0⟩ := hm
  obtain ⟨p2, c2, rfl, l2⟩ := r2.slice
  have hL0 := hL
  obtain ⟨-, L1, L2, -⟩ := hL
  refine enterH (l := [.agg (([v0, v1, Value.slice p2 m.funcs.length c2, v3, v4, v5, v6, Value.bool m.hasStart, Value.int .i64 m.start, v7, v8, v9] : List Value)).toArray]) Tryd.func8 rfl Tryd.ntmps8 rfl (Ok.start w) ?_
  refine wgh ?_
  refine OpsH.box ([v0, v1, Value.slice p2 m.funcs.length c2, v3, v4, v5, v6, Value.bool m.hasStart, Value.int .i64 m.start, v7, v8, v9] : List Value) rfl rfl rfl fun b => ?_
  refine wgh ?_
  refine OpsH.he (HE.callF (V := fun lo w v => SpaceRd lo m w v) (fun v => v) (space_fresh m) rfl rfl (fun w' hw' => space_Of F m _ w' (hm0.chg (show Ext w w' from hw'.at) (fun _ _ _ h => h)) hL0)) rfl ?_
  rintro ⟨lo, vS⟩ -
  dsimp only
  refine OpsH.call1 (v := .int .i64 (impN m 0)) rfl rfl rfl (fun w' hw' => space_Imported lo m vS 0 w' hw'.at (by unfold R64; omega)) ?_
  have hn0 : impN m 0 ≤ 100 := Nat.le_trans (impC_le _ _ _) L1
  generalize hn : impN m 0 = n0 at *
  refine wgh ?_
  refine CdH.nilO w.heap.size TIs 1 ?_
  refine CdH.der (RowsRd w.heap.size [] ((callsM m).take 0)) (fun w' _ => ⟨rfl, fun i hi => by simp at hi⟩) ?_
  refine CdH.loop (σ := Nat × Value × List Value) (fun s => [(1, .pointer (some ⟨b, 0, none⟩)), (3, .int .i64 n0), (4, s.2.1), (15, .slice p2 m.funcs.length c2), (16, .int .i64 m.funcs.length), (17, .int .i64 s.1)]) (fun s => [.own w.heap.size TIs 1 s.2.1 s.1 s.2.2, .blk b ([v0, v1, Value.slice p2 m.funcs.length c2, v3, v4, v5, v6, Value.bool m.hasStart, Value.int .i64 m.start, v7, v8, v9] : List Value) TMod]) (fun s => [RowsRd w.heap.size s.2.2 ((callsM m).take s.1), Ext w]) (fun s => s.1 ≤ m.funcs.length) (fun s => m.funcs.length - s.1) (0, .slice none 0 0, []) wsub wslb (by dsimp only; repeat (first | exact subR_nil | refine subR_cons (by repeat (first | with_reducible exact List.mem_cons_self | apply List.mem_cons_of_mem)) ?_)) (by dsimp only; omega) ?_
  rintro ⟨i, vo, ls⟩ hi
  dsimp only at hi ⊢
  by_cases hlt : i < m.funcs.length
  · obtain ⟨b1, o1, rfl, hF, cs5, ⟨u0, u1, rfl, q0, q1, q2⟩, hc5⟩ := r2.el hlt
    obtain ⟨x2, y2, rfl, z2⟩ := q1.slice
    obtain ⟨x0, y0, rfl, z0⟩ := q0.slice
    obtain ⟨hsm1, -⟩ := hs i hlt
    have hcx := callsM_ix hlt
    have hcl : i < (callsM m).length := by simp [callsM]; exact hlt
    rw [hn] at hcx
    generalize hxs : (ix m.funcs i).body = xs at *
    refine wgh ?_
    refine OpsH.y_ (Yl.loadE rfl rfl rfl wmem (by rfl) (by rfl) hc5) rfl ?_
    refine OpsH.alloc [Value.int .i64 0, Value.slice none 0 0, Value.slice none 0 0] rfl rfl rfl fun b6 => ?_
    refine wgh ?_
    refine CdH.nilI w.heap.size ?_
    refine CdH.loop (σ := Nat × Value) (fun s => [(1, .pointer (some ⟨b, 0, none⟩)), (3, .int .i64 n0), (4, vo), (7, s.2), (15, .slice (some ⟨b1, o1, none⟩) m.funcs.length c2), (16, .int .i64 m.funcs.length), (17, .int .i64 i), (22, .slice x2 xs.length y2), (23, .int .i64 xs.length), (24, .int .i64 s.1)]) (fun s => [.ownI w.heap.size s.2 (callsO (xs.take s.1) n0 m.funcs.length), .own w.heap.size TIs 1 vo i ls, .blk b ([v0, v1, Value.slice (some ⟨b1, o1, none⟩) m.funcs.length c2, v3, v4, v5, v6, Value.bool m.hasStart, Value.int .i64 m.start, v7, v8, v9] : List Value) TMod]) (fun s => [RowsRd w.heap.size ls ((callsM m).take i), Ext w]) (fun s => s.1 ≤ xs.length) (fun s => xs.length - s.1) (0, .slice none 0 0) wsub wslb wsr (by dsimp only; omega) ?_
    rintro ⟨j, vi⟩ hj
    dsimp only at hj ⊢
    by_cases hjl : j < xs.length
    · obtain ⟨b7, o7, rfl, -, hall⟩ := q1.at hjl
      have hra := (hall j hjl).ra
      obtain ⟨tv9, lv9, htv, hlv, hc9⟩ := (hall j hjl).all9
      obtain ⟨xt, yt, rfl, -⟩ := htv.slice
      obtain ⟨xl, yl, rfl, -⟩ := hlv.slice
      have hcs := callsO_succ (n0 := n0) (nf := m.funcs.length) hjl
      have hcol := callsO_len (xs.take j) n0 m.funcs.length
      rw [List.length_take] at hcol
      unfold R64 at hra
      refine wgh ?_
      refine OpsH.y_ (Yl.loadE rfl rfl rfl wmem (by rfl) (by rfl) hc9) rfl ?_
      refine OpsH.alloc [Value.int .i64 0, Value.int .i64 0, Value.int .i64 0, Value.int .u64 0, Value.int .i64 0, Value.int .i64 0, Value.int .i64 0, Value.slice none 0 0, Value.slice none 0 0] rfl rfl rfl fun b9 => ?_
      by_cases hge : (n0 : Int) ≤ (ix xs j).a
      · by_cases h16 : (ix xs j).op = 16
        · by_cases hlf : (ix xs j).a - n0 < m.funcs.length
          · rw [if_pos ⟨h16, hge, hlf⟩] at hcs
            refine wgh ?_
            refine OpsH.he (HE.bsl rfl rfl rfl rfl rfl wcel (by rfl) (by rfl)) rfl ?_
            intro b3 _
            refine OpsH.he (HE.appI rfl rfl (fun _ => wup) wup (by omega) szR rfl rfl) rfl ?_
            intro v3 _
            refine wgh ?_
            exact FinH.next (j + 1, v3) wsub (by dsimp only; rw [hcs]; exact wslb) wsr (by dsimp only; omega) (by dsimp only; omega)
          · rw [if_neg (fun h => hlf h.2.2), List.append_nil] at hcs
            refine wgh ?_
            exact FinH.next (j + 1, vi) wsub (by dsimp only; rw [hcs]; exact wslb) wsr (by dsimp only; omega) (by dsimp only; omega)
        · rw [if_neg (fun h => h16 h.1), List.append_nil] at hcs
          refine wgh ?_
          exact FinH.next (j + 1, vi) wsub (by dsimp only; rw [hcs]; exact wslb) wsr (by dsimp only; omega) (by dsimp only; omega)
      · rw [if_neg (fun h => hge h.2.1), List.append_nil] at hcs
        by_cases h16 : (ix xs j).op = 16
        · refine wgh ?_
          refine OpsH.y_ (Yl.subw rfl rfl) rfl ?_
          refine wgh ?_
          exact FinH.next (j + 1, vi) wsub (by dsimp only; rw [hcs]; exact wslb) wsr (by dsimp only; omega) (by dsimp only; omega)
        · refine wgh ?_
          refine OpsH.y_ (Yl.subw rfl rfl) rfl ?_
          refine wgh ?_
          exact FinH.next (j + 1, vi) wsub (by dsimp only; rw [hcs]; exact wslb) wsr (by dsimp only; omega) (by dsimp only; omega)
    · obtain rfl : j = xs.length := by omega
      rw [List.take_length]
      have hcol := callsO_len xs n0 m.funcs.length
      refine wgh ?_
      refine OpsH.he (HE.callM (M0 := [.ownI w.heap.size vi (callsO xs n0 m.funcs.length)]) (Mr := _) rfl rfl (fun w' hw' => sort_mut _ _ _ w' (hw'.sub (List.Sublist.refl _) (fun p hp => absurd hp (by simp))) (by omega))) rfl ?_
      rintro ⟨⟩ _
      dsimp only [List.cons_append, List.nil_append]
      refine wgh ?_
      refine OpsH.he (HE.callM (M0 := [.ownI w.heap.size vi (sortL (callsO xs n0 m.funcs.length))]) (Mr := _) rfl rfl (fun w' hw' => compact_mut _ _ _ w' (hw'.sub (List.Sublist.refl _) (fun p hp => absurd hp (by simp))))) rfl ?_
      rintro v8 _
      dsimp only [List.cons_append, List.nil_append]
      rw [calls_compact]
      refine OpsH.pure (φ := ∃ p n c, v8 = .slice p n c) (fun w' hw' => ?_) ?_
      · obtain ⟨p, c, e, _⟩ := own_slice (hw'.ownI (v := v8)); exact ⟨p, _, c, e⟩
      rintro ⟨p8, n8, c8, rfl⟩
      refine OpsH.freeze (fun w' => IntsR (fun k => w.heap.size ≤ k) w' (.slice p8 n8 c8) (callsB xs n0 m.funcs.length)) wrm (fun w' hq _ => OwnI.reads' hq (by have h1 : (callsB xs n0 m.funcs.length).length ≤ m.funcs.length := by { unfold callsB; rw [List.length_map]; exact Nat.le_trans (List.length_filter_le _ _) (by simp) }; omega)) ?_
      refine wgh ?_
      refine OpsH.he (HE.bsl rfl rfl rfl rfl rfl wcel (by rfl) (by rfl)) rfl ?_
      intro b3 _
      refine OpsH.he (HE.app rfl rfl (fun _ => wup) wup rfl rfl rfl (by rfl) (by rfl) (by rfl) (by rfl) (by rfl) (by rfl) (by omega) szR) rfl ?_
      intro v9' _
      refine wgh ?_
      refine FinH.der (RowsRd w.heap.size (ls ++ [.slice p8 n8 c8]) ((callsM m).take (i + 1))) (fun w' hw' => ?_) ?_
      · rw [take_succ_ix hcl, hcx]
        exact RowsRd.app (all_at hw') (all_at hw')
      exact FinH.next (i + 1, v9', ls ++ [.slice p8 n8 c8]) wsub wslb (by dsimp only; repeat (first | exact subR_nil | refine subR_cons (by repeat (first | with_reducible exact List.mem_cons_self | apply List.mem_cons_of_mem)) ?_)) (by dsimp only; omega) (by dsimp only; omega)
  · obtain rfl : i = m.funcs.length := by omega
    refine wgh ?_
    refine FinH.ret1 rfl rfl fun w' hw' => ⟨⟨vo, rfl, ?_⟩, hw'.at⟩
    have h1 : RowsRd w.heap.size ls ((callsM m).take m.funcs.length) w' := hw'.at
    rw [List.take_of_length_le (by simp [callsM])] at h1
    exact rows_read (hw'.own (v := vo)) (by simp [callsM]) h1 (by simp [callsM]; omega)
end Go.Proofs.YtmkgfccfnpmcjaaDoor
