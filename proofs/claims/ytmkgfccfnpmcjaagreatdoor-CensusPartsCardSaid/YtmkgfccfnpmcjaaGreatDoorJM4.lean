/- law07.rows, Light and law57.light: what their being true tells. Printed by gen_m4.py. -/
import Derived.Test.YtmkgfccfnpmcjaaGreatDoorJM1
namespace Go.Proofs.YtmkgfccfnpmcjaaGreatDoor
open Go.RowKit
set_option maxRecDepth 100000

/-- values of slices, and the bodies that they read -/
structure BL (w : World) (ls : List Value) (bs : List (List Ins)) : Prop where
  len : ls.length = bs.length
  rd : ∀ i, i < bs.length → Body w (ix ls i) (ix bs i)
theorem ix_app_l {α : Type} [Inhabited α] {a b : List α} {i : Nat} (h : i < a.length) : ix (a ++ b) i = ix a i := by simp [ix, List.getElem?_append_left h]
theorem ix_app_r {α : Type} [Inhabited α] {a b : List α} {i : Nat} (h : a.length ≤ i) : ix (a ++ b) i = ix b (i - a.length) := by simp [ix, List.getElem?_append_right h]
theorem BL.nil (w : World) : BL w [] [] := ⟨rfl, fun i h => by simp at h⟩
theorem BL.app {w : World} {ls ls' : List Value} {bs bs' : List (List Ins)} (h : BL w ls bs) (h' : BL w ls' bs') : BL w (ls ++ ls') (bs ++ bs') := by
  refine ⟨by simp [h.len, h'.len], fun i hi => ?_⟩
  by_cases hlt : i < bs.length
  · rw [ix_app_l (a := bs) hlt, ix_app_l (a := ls) (by rw [h.len]; exact hlt)]; exact h.rd i hlt
  · rw [ix_app_r (a := bs) (by omega), ix_app_r (a := ls) (by rw [h.len]; omega), h.len]
    exact h'.rd _ (by simp at hi; omega)
theorem BL.one {w : World} {v : Value} {x : List Ins} (h : Body w v x) : BL w [v] [x] := ⟨rfl, fun i hi => by
  obtain rfl : i = 0 := by simpa using hi
  exact h⟩
theorem BL.one' {w : World} {ls : List Value} {bs : List (List Ins)} (h : BL w ls bs) : ∀ u ∈ ls, u.oneCell' = true := by
  intro u hu
  obtain ⟨i, hi, rfl⟩ := List.getElem_of_mem hu
  have := h.rd i (by rw [← h.len]; exact hi)
  rw [ix_eq hi] at this
  obtain ⟨p, c, e, _⟩ := this.slice
  rw [e]; rfl
/-- the values of an inner slice -/
theorem SlR.raws {α : Type} [Inhabited α] {N : Nat} {V : (Nat → Prop) → World → Value → List α → Prop} {F : Nat → Prop} {w : World} {p : Option Addr} {n c : Nat} {xs : List (List α)} (h : SlR 1 N (RowAt V) F w (.slice p n c) xs) :
    ∃ ls : List Value, ls.length = xs.length ∧ n = xs.length ∧ (n = 0 ∨ ∃ b o, p = some ⟨b, o, none⟩ ∧ ∀ i, i < n → w.cell? ⟨b, o + i, none⟩ = some (ix ls i)) ∧ ∀ i, i < xs.length → V F w (ix ls i) (ix xs i) := by
  obtain ⟨p', c', e, hl, h⟩ := h
  cases e
  rcases h with h | ⟨b, o, rfl, hF, h⟩
  · subst h; exact ⟨[], rfl, rfl, .inl rfl, fun i hi => by simp at hi⟩
  · have hx : ∀ i, ∃ u, i < xs.length → w.cell? ⟨b, o + i, none⟩ = some u ∧ V F w u (ix xs i) := fun i => by
      by_cases hi : i < xs.length
      · obtain ⟨u, hu⟩ := h i hi
        rw [Nat.mul_one] at hu
        exact ⟨u, fun _ => hu⟩
      · exact ⟨undef, fun h => absurd h hi⟩
    refine ⟨(List.range xs.length).map fun i => (hx i).choose, by simp, rfl, .inr ⟨b, o, rfl, fun i hi => ?_⟩, fun i hi => ?_⟩
    · rw [show ix ((List.range xs.length).map fun i => (hx i).choose) i = (hx i).choose by simp [ix, hi]]
      exact ((hx i).choose_spec hi).1
    · rw [show ix ((List.range xs.length).map fun i => (hx i).choose) i = (hx i).choose by simp [ix, hi]]
      exact ((hx i).choose_spec hi).2
theorem ls_get {ls : List Value} {j : Nat} {u : Value} (h : ls[j]? = some u) : j < ls.length ∧ ix ls j = u := by
  obtain ⟨h1, h2⟩ := List.getElem?_eq_some_iff.1 h
  exact ⟨h1, by rw [ix_eq h1]; exact h2⟩

def OkRow (x : List Ins) : Prop := ∀ j, j < x.length → (ix x j).labels.length ≤ 100 ∧ (ix x j).types.length ≤ 100
def OkRows (bs : List (List Ins)) : Prop := (bs.map List.length).sum ≤ 3000 ∧ ∀ i, i < bs.length → OkRow (ix bs i)
/-- a bool, and what its being true tells -/
def BoolTells (P : Prop) (w : World) (e : Ending) (w' : World) : Prop := (∃ b : Bool, e = .returned (.bool b) ∧ (b = true → P)) ∧ Ext w w'
def sumTo (bs : List (List Ins)) (i : Nat) : Nat := ((bs.take i).map List.length).sum
theorem sumTo_succ {bs : List (List Ins)} {i : Nat} (h : i < bs.length) : sumTo bs (i + 1) = sumTo bs i + (ix bs i).length := by
  unfold sumTo; rw [take_succ_ix h]; simp
set_option maxHeartbeats 8000000 in
theorem law07_rows {N : Nat} (bs : List (List Ins)) (v : Value) (w : World) (hN : N ≤ 10000000000000) (hb : SlR 1 N (RowAt BodyR) (fun _ => True) w v bs) : Calls G.P 35 #[v, .int .i64 3000] w (BoolTells (OkRows bs) w) := by
  obtain ⟨p, c, rfl, hl⟩ := hb.slice
  refine enterH (l := [.slice p bs.length c, .int .i64 3000]) Tryz.func35 rfl Tryz.ntmps35 rfl (Ok.start w) ?_
  refine wgh ?_
  refine CdH.loop (σ := Nat) (fun i => [(0, .slice p bs.length c), (1, .int .i64 3000), (5, .int .i64 (sumTo bs i)), (6, .int .i64 i)]) (fun _ => []) (fun _ => [Ext w]) (fun i => i ≤ bs.length ∧ sumTo bs i ≤ 3000 ∧ ∀ k, k < i → OkRow (ix bs k)) (fun i => bs.length - i) 0 wsub wsl wsr ⟨by omega, by simp [sumTo], fun k h => by omega⟩ ?_
  rintro i ⟨hi, hsum, hok⟩
  by_cases hlt : i < bs.length
  · obtain ⟨b, o, rfl, hF, u, c1, hu⟩ := hb.el hlt
    rw [Nat.mul_one] at c1
    obtain ⟨p2, c2, rfl, hl2⟩ := hu.slice
    have hs := sumTo_succ hlt
    by_cases hbig : sumTo bs (i + 1) ≤ 3000
    · refine wgh ?_
      refine CdH.loop (σ := Nat) (fun j => [(0, .slice (some ⟨b, o, none⟩) bs.length c), (1, .int .i64 3000), (5, .int .i64 (sumTo bs (i + 1))), (6, .int .i64 i), (7, .int .i64 j)]) (fun _ => []) (fun _ => [Ext w]) (fun j => j ≤ (ix bs i).length ∧ ∀ k, k < j → (ix (ix bs i) k).labels.length ≤ 100 ∧ (ix (ix bs i) k).types.length ≤ 100) (fun j => (ix bs i).length - j) 0 wsub wsl wsr ⟨by omega, fun k h => by omega⟩ ?_
      rintro j ⟨hj, hlab⟩
      by_cases hjl : j < (ix bs i).length
      · obtain ⟨b2, o2, rfl, -, hall⟩ := hu.at hjl
        have he := hall j hjl
        obtain ⟨lv, cl_, hlv⟩ := he.labels
        obtain ⟨tv, ct, htv⟩ := he.types
        obtain ⟨pl, cpl, rfl, hll⟩ := hlv.slice
        obtain ⟨pt, cpt, rfl, htl⟩ := htv.slice
        by_cases g1 : (ix (ix bs i) j).labels.length ≤ 100
        · by_cases g2 : (ix (ix bs i) j).types.length ≤ 100
          · refine wgh ?_
            refine FinH.next (j + 1) wsub wsl wsr ⟨by omega, fun k hk => ?_⟩ (by omega)
            by_cases e : k = j
            · subst e; exact ⟨g1, g2⟩
            · exact hlab k (by omega)
          · refine wgh ?_
            exact FinH.ret1 rfl rfl fun w' hw' => ⟨⟨false, rfl, fun h => by cases h⟩, hw'.at⟩
        · refine wgh ?_
          exact FinH.ret1 rfl rfl fun w' hw' => ⟨⟨false, rfl, fun h => by cases h⟩, hw'.at⟩
      · refine wgh ?_
        refine FinH.next (i + 1) wsub wsl wsr ⟨by omega, hbig, fun k hk => ?_⟩ (by omega)
        by_cases e : k = i
        · subst e; exact fun q hq => hlab q (by omega)
        · exact hok k (by omega)
    · refine wgh ?_
      exact FinH.ret1 rfl rfl fun w' hw' => ⟨⟨false, rfl, fun h => by cases h⟩, hw'.at⟩
  · obtain rfl : i = bs.length := by omega
    refine wgh ?_
    refine FinH.ret1 rfl rfl fun w' hw' => ⟨⟨true, rfl, fun _ => ⟨?_, hok⟩⟩, hw'.at⟩
    have := hsum
    unfold sumTo at this; rwa [List.take_length] at this

def LensP (m : ApiModule) : Prop := m.types.length ≤ 100 ∧ m.imports.length ≤ 100 ∧ m.funcs.length ≤ 100 ∧ m.tables.length ≤ 100 ∧ m.mems.length ≤ 100 ∧ m.globals.length ≤ 100 ∧ m.exports.length ≤ 100 ∧ m.elems.length ≤ 100 ∧ m.datas.length ≤ 100
def LightP (m : ApiModule) : Prop := LensP m ∧ OkRows (m.funcs.map (·.body))
abbrev TBs : Nat := 53
theorem Body.true {F : Nat → Prop} {w : World} {v : Value} {x : List Ins} (h : BodyR F w v x) : Body w v x := h.mono (fun _ _ _ => trivial)
theorem bl_read {w w' : World} {B : Nat} {v : Value} {ls : List Value} {bs : List (List Ins)} (h : BL w ls bs) (hx : Ext w w') (ho : w'.ownsRow B TBs 1 v ls.length ls) (hl : ls.length ≤ 1000000) : SlR 1 10000000000000 (RowAt BodyR) (fun _ => True) w' v bs := by
  obtain ⟨p, c, rfl, _, _, hg⟩ := own_slice ho
  have hlen := h.len
  refine ⟨p, c, by rw [hlen], by omega, ?_⟩
  by_cases h0 : bs = []
  · exact .inl h0
  · obtain ⟨g, rfl, _, _⟩ := hg (by rw [hlen]; exact List.length_pos_iff.2 h0)
    refine .inr ⟨g, 0, rfl, trivial, fun i hi => ⟨ix ls i, ?_, (h.rd i hi).ext hx⟩⟩
    rw [Nat.zero_add, Nat.mul_one]
    exact own_get ho (ix_some (by omega))
theorem okrows_pre {a b : List (List Ins)} (h : OkRows (a ++ b)) : OkRows a := by
  obtain ⟨h1, h2⟩ := h
  refine ⟨?_, fun i hi => ?_⟩
  · simp only [List.map_append, List.sum_append] at h1; omega
  · have := h2 i (by simp; omega)
    rwa [ix_app_l hi] at this
section
variable {n : Nat} {E : Env} {M : List Res} {R : List (World → Prop)}
theorem HE.callB {f : Nat} {args : List Operand} {tys : Array TypeId} {vs : List Value} {P : Prop} (hf : G.fb[f]? = some true) (ha : evs E args = some vs) (hc : ∀ w, Ok M R w → Calls G.P f vs.toArray w (BoolTells P w)) :
    HE n (.call ⟨.value (.func f), args.toArray, tys⟩) E M R (fun b : Bool => b = true → P) (fun b => .bool b) (fun _ => M) (fun _ => R) :=
  HE.call (fun b : Bool => .bool b) hf ha fun w hw => (hc w hw).mono fun _e _w' ⟨⟨b, e1, h1⟩, hx⟩ => ⟨b, e1, h1, hw.ext hx⟩
end
set_option maxHeartbeats 16000000 in
theorem law07_Light (F : Nat → Prop) (m : ApiModule) (cs : List Value) (w : World) (hm : ApiModuleV F w cs m) : Calls G.P 21 #[.agg cs.toArray] w (BoolTells (LightP m) w) := by
  obtain ⟨v0, v1, v2, v3, v4, v5, v6, v7, v8, v9, rfl, r0, r1, r2, r3, r4, r5, r6, r7, r8, r9, g0⟩ := hm
  obtain ⟨p0, c0, rfl, l0⟩ := r0.slice
  obtain ⟨p1, c1, rfl, l1⟩ := r1.slice
  obtain ⟨p2, c2, rfl, l2⟩ := r2.slice
  obtain ⟨p3, c3, rfl, l3⟩ := r3.slice
  obtain ⟨p4, c4, rfl, l4⟩ := r4.slice
  obtain ⟨p5, c5, rfl, l5⟩ := r5.slice
  obtain ⟨p6, c6, rfl, l6⟩ := r6.slice
  obtain ⟨p7, c7, rfl, l7⟩ := r7.slice
  obtain ⟨p8, c8, rfl, l8⟩ := r8.slice
  obtain ⟨p9, c9, rfl, l9⟩ := r9.slice
  refine enterH (l := [.agg (([Value.slice p0 m.types.length c0, Value.slice p1 m.imports.length c1, Value.slice p2 m.funcs.length c2, Value.slice p3 m.tables.length c3, Value.slice p4 m.mems.length c4, Value.slice p5 m.globals.length c5, Value.slice p6 m.exports.length c6, Value.bool m.hasStart, Value.int .i64 m.start, Value.slice p7 m.elems.length c7, Value.slice p8 m.datas.length c8, Value.slice p9 m.customs.length c9] : List Value)).toArray]) Tryz.func21 rfl Tryz.ntmps21 rfl (Ok.start w) ?_
  refine wgh ?_
  refine OpsH.box ([Value.slice p0 m.types.length c0, Value.slice p1 m.imports.length c1, Value.slice p2 m.funcs.length c2, Value.slice p3 m.tables.length c3, Value.slice p4 m.mems.length c4, Value.slice p5 m.globals.length c5, Value.slice p6 m.exports.length c6, Value.bool m.hasStart, Value.int .i64 m.start, Value.slice p7 m.elems.length c7, Value.slice p8 m.datas.length c8, Value.slice p9 m.customs.length c9] : List Value) rfl rfl rfl fun b => ?_
  refine wgh ?_
  rcases Nat.lt_or_ge 100 m.types.length with q0 | q0
  · refine wgh ?_
    exact FinH.ret1 rfl rfl fun w' hw' => ⟨⟨false, rfl, fun h => by cases h⟩, hw'.at⟩
  rcases Nat.lt_or_ge 100 m.imports.length with q1 | q1
  · refine wgh ?_
    exact FinH.ret1 rfl rfl fun w' hw' => ⟨⟨false, rfl, fun h => by cases h⟩, hw'.at⟩
  rcases Nat.lt_or_ge 100 m.funcs.length with q2 | q2
  · refine wgh ?_
    exact FinH.ret1 rfl rfl fun w' hw' => ⟨⟨false, rfl, fun h => by cases h⟩, hw'.at⟩
  rcases Nat.lt_or_ge 100 m.tables.length with q3 | q3
  · refine wgh ?_
    exact FinH.ret1 rfl rfl fun w' hw' => ⟨⟨false, rfl, fun h => by cases h⟩, hw'.at⟩
  rcases Nat.lt_or_ge 100 m.mems.length with q4 | q4
  · refine wgh ?_
    exact FinH.ret1 rfl rfl fun w' hw' => ⟨⟨false, rfl, fun h => by cases h⟩, hw'.at⟩
  rcases Nat.lt_or_ge 100 m.globals.length with q5 | q5
  · refine wgh ?_
    exact FinH.ret1 rfl rfl fun w' hw' => ⟨⟨false, rfl, fun h => by cases h⟩, hw'.at⟩
  rcases Nat.lt_or_ge 100 m.exports.length with q6 | q6
  · refine wgh ?_
    exact FinH.ret1 rfl rfl fun w' hw' => ⟨⟨false, rfl, fun h => by cases h⟩, hw'.at⟩
  rcases Nat.lt_or_ge 100 m.elems.length with q7 | q7
  · refine wgh ?_
    exact FinH.ret1 rfl rfl fun w' hw' => ⟨⟨false, rfl, fun h => by cases h⟩, hw'.at⟩
  rcases Nat.lt_or_ge 100 m.datas.length with q8 | q8
  · refine wgh ?_
    exact FinH.ret1 rfl rfl fun w' hw' => ⟨⟨false, rfl, fun h => by cases h⟩, hw'.at⟩
  rcases Nat.lt_or_ge 100 m.customs.length with q9 | q9
  · refine wgh ?_
    exact FinH.ret1 rfl rfl fun w' hw' => ⟨⟨false, rfl, fun h => by cases h⟩, hw'.at⟩
  refine wgh ?_
  refine CdH.nilO w.heap.size TBs 1 ?_
  refine CdH.loop (σ := Nat × Int) (fun s => [(1, .pointer (some ⟨b, 0, none⟩)), (3, .slice none 0 0), (4, .int .i64 s.2), (5, .int .i64 s.1)]) (fun _ => [.own w.heap.size TBs 1 (.slice none 0 0) ([] : List Value).length ([]), .blk b ([Value.slice p0 m.types.length c0, Value.slice p1 m.imports.length c1, Value.slice p2 m.funcs.length c2, Value.slice p3 m.tables.length c3, Value.slice p4 m.mems.length c4, Value.slice p5 m.globals.length c5, Value.slice p6 m.exports.length c6, Value.bool m.hasStart, Value.int .i64 m.start, Value.slice p7 m.elems.length c7, Value.slice p8 m.datas.length c8, Value.slice p9 m.customs.length c9] : List Value) TMod]) (fun _ => [Ext w]) (fun s => s.1 ≤ m.types.length) (fun s => m.types.length - s.1) (0, 0) wsub wsl wsr (by dsimp only; omega) ?_
  rintro ⟨i5, n5⟩ hi
  dsimp only at hi ⊢
  by_cases hlt : i5 < m.types.length
  · obtain ⟨b1, o1, rfl, hF, he⟩ := r0.el hlt
    obtain ⟨u1, e1, hu1⟩ := he.params
    obtain ⟨u2, e2, hu2⟩ := he.results
    obtain ⟨x1, y1, rfl, z1⟩ := hu1.slice
    obtain ⟨x2, y2, rfl, z2⟩ := hu2.slice
    refine wgh ?_
    exact FinH.next (i5 + 1, _) wsub wsl wsr (by dsimp only; omega) (by dsimp only; omega)
  · skip
    refine wgh ?_
    refine CdH.loop (σ := Nat × Int) (fun s => [(1, .pointer (some ⟨b, 0, none⟩)), (3, .slice none 0 0), (4, .int .i64 s.2), (6, .int .i64 s.1)]) (fun _ => [.own w.heap.size TBs 1 (.slice none 0 0) ([] : List Value).length ([]), .blk b ([Value.slice p0 m.types.length c0, Value.slice p1 m.imports.length c1, Value.slice p2 m.funcs.length c2, Value.slice p3 m.tables.length c3, Value.slice p4 m.mems.length c4, Value.slice p5 m.globals.length c5, Value.slice p6 m.exports.length c6, Value.bool m.hasStart, Value.int .i64 m.start, Value.slice p7 m.elems.length c7, Value.slice p8 m.datas.length c8, Value.slice p9 m.customs.length c9] : List Value) TMod]) (fun _ => [Ext w]) (fun s => s.1 ≤ m.imports.length) (fun s => m.imports.length - s.1) (0, n5) wsub wsl wsr (by dsimp only; omega) ?_
    rintro ⟨i6, n6⟩ hi
    dsimp only at hi ⊢
    by_cases hlt : i6 < m.imports.length
    · obtain ⟨b1, o1, rfl, hF, he⟩ := r1.el hlt
      have e1 := he.module
      have e2 := he.name
      have z1 := he.module_r
      have z2 := he.name_r
      refine wgh ?_
      exact FinH.next (i6 + 1, _) wsub wsl wsr (by dsimp only; omega) (by dsimp only; omega)
    · skip
      refine wgh ?_
      refine CdH.loop (σ := Nat × Int × Value × List Value × List (List Ins)) (fun s => [(1, .pointer (some ⟨b, 0, none⟩)), (3, s.2.2.1), (4, .int .i64 s.2.1), (7, .int .i64 s.1)]) (fun s => [.own w.heap.size TBs 1 (s.2.2.1) (s.2.2.2.1 : List Value).length (s.2.2.2.1), .blk b ([Value.slice p0 m.types.length c0, Value.slice p1 m.imports.length c1, Value.slice p2 m.funcs.length c2, Value.slice p3 m.tables.length c3, Value.slice p4 m.mems.length c4, Value.slice p5 m.globals.length c5, Value.slice p6 m.exports.length c6, Value.bool m.hasStart, Value.int .i64 m.start, Value.slice p7 m.elems.length c7, Value.slice p8 m.datas.length c8, Value.slice p9 m.customs.length c9] : List Value) TMod]) (fun _ => [Ext w]) (fun s => s.1 ≤ m.funcs.length ∧ BL w s.2.2.2.1 s.2.2.2.2 ∧ s.2.2.2.2 = (m.funcs.take s.1).map (·.body)) (fun s => m.funcs.length - s.1) (0, n6, .slice none 0 0, [], []) wsub wsl wsr ⟨by dsimp only; omega, BL.nil w, by simp⟩ ?_
      rintro ⟨i7, n7, v27, ls7, bs7⟩ ⟨hi, hbl7, hbs7⟩
      dsimp only at *
      by_cases hlt : i7 < m.funcs.length
      · obtain ⟨b1, o1, rfl, hF, he⟩ := r2.el hlt
        obtain ⟨u1, e1, hu1⟩ := he.locals
        obtain ⟨u2, e2, hu2⟩ := he.body
        obtain ⟨x1, y1, rfl, z1⟩ := hu1.slice
        obtain ⟨x2, y2, rfl, z2⟩ := hu2.slice
        have hln : ls7.length = i7 := by rw [hbl7.len, hbs7]; simp; omega
        refine wgh ?_
        refine OpsH.he (HE.bsl rfl rfl rfl rfl rfl wcel (by rfl) (by rfl)) rfl ?_
        intro b2 _
        refine OpsH.he (HE.app rfl rfl (fun _ => wup) wup rfl rfl rfl (by rfl) (by rfl) (by rfl) (by rfl) (by rfl) (by rfl) (by omega) szR) rfl ?_
        intro v2 _
        refine wgh ?_
        refine FinH.next (i7 + 1, _, v2, ls7 ++ [_], bs7 ++ [(ix m.funcs i7).body]) wsub (.cons _ (sub_own rfl (by simp) rfl wsl)) wsr ⟨by dsimp only; omega, hbl7.app (BL.one (Body.true hu2)), ?_⟩ (by dsimp only; omega)
        dsimp only
        rw [take_succ_ix hlt, hbs7]; simp
      · skip
        refine wgh ?_
        obtain rfl : i7 = m.funcs.length := by omega
        rw [List.take_length] at hbs7
        have hlen7 : ls7.length ≤ 100 := by rw [hbl7.len, hbs7]; simp; omega
        refine CdH.loop (σ := Nat × Int × Value × List Value × List (List Ins)) (fun s => [(1, .pointer (some ⟨b, 0, none⟩)), (3, s.2.2.1), (4, .int .i64 s.2.1), (8, .int .i64 s.1)]) (fun s => [.own w.heap.size TBs 1 (s.2.2.1) (s.2.2.2.1 : List Value).length (s.2.2.2.1), .blk b ([Value.slice p0 m.types.length c0, Value.slice p1 m.imports.length c1, Value.slice p2 m.funcs.length c2, Value.slice p3 m.tables.length c3, Value.slice p4 m.mems.length c4, Value.slice p5 m.globals.length c5, Value.slice p6 m.exports.length c6, Value.bool m.hasStart, Value.int .i64 m.start, Value.slice p7 m.elems.length c7, Value.slice p8 m.datas.length c8, Value.slice p9 m.customs.length c9] : List Value) TMod]) (fun _ => [Ext w]) (fun s => s.1 ≤ m.globals.length ∧ BL w s.2.2.2.1 s.2.2.2.2 ∧ s.2.2.2.1.length ≤ 100 + s.1 ∧ ∃ tl, s.2.2.2.2 = m.funcs.map (·.body) ++ tl) (fun s => m.globals.length - s.1) (0, n7, v27, ls7, bs7) wsub wsl wsr ⟨by dsimp only; omega, hbl7, by dsimp only; omega, [], by simp [hbs7]⟩ ?_
        rintro ⟨i8, n8, v28, ls8, bs8⟩ ⟨hi, hbl8, hle8, tl8, htl8⟩
        dsimp only at *
        by_cases hlt : i8 < m.globals.length
        · obtain ⟨b1, o1, rfl, hF, he⟩ := r5.el hlt
          obtain ⟨u2, e2, hu2⟩ := he.init_
          obtain ⟨x2, y2, rfl, z2⟩ := hu2.slice
          refine wgh ?_
          refine OpsH.he (HE.bsl rfl rfl rfl rfl rfl wcel (by rfl) (by rfl)) rfl ?_
          intro b2 _
          refine OpsH.he (HE.app rfl rfl (fun _ => wup) wup rfl rfl rfl (by rfl) (by rfl) (by rfl) (by rfl) (by rfl) (by rfl) (by omega) szR) rfl ?_
          intro v2 _
          refine wgh ?_
          exact FinH.next (i8 + 1, _, v2, ls8 ++ [_], bs8 ++ [(ix m.globals i8).init_]) wsub (.cons _ (sub_own rfl (by simp) rfl wsl)) wsr ⟨by dsimp only; omega, hbl8.app (BL.one (Body.true hu2)), by dsimp only; rw [List.length_append, List.length_singleton]; omega, tl8 ++ [(ix m.globals i8).init_], by dsimp only; rw [htl8, List.append_assoc]⟩ (by dsimp only; omega)
        · skip
          refine wgh ?_
          refine CdH.loop (σ := Nat × Int) (fun s => [(1, .pointer (some ⟨b, 0, none⟩)), (3, v28), (4, .int .i64 s.2), (9, .int .i64 s.1)]) (fun _ => [.own w.heap.size TBs 1 (v28) (ls8 : List Value).length (ls8), .blk b ([Value.slice p0 m.types.length c0, Value.slice p1 m.imports.length c1, Value.slice p2 m.funcs.length c2, Value.slice p3 m.tables.length c3, Value.slice p4 m.mems.length c4, Value.slice p5 m.globals.length c5, Value.slice p6 m.exports.length c6, Value.bool m.hasStart, Value.int .i64 m.start, Value.slice p7 m.elems.length c7, Value.slice p8 m.datas.length c8, Value.slice p9 m.customs.length c9] : List Value) TMod]) (fun _ => [Ext w]) (fun s => s.1 ≤ m.exports.length) (fun s => m.exports.length - s.1) (0, n8) wsub wsl wsr (by dsimp only; omega) ?_
          rintro ⟨i9, n9⟩ hi
          dsimp only at hi ⊢
          by_cases hlt : i9 < m.exports.length
          · obtain ⟨b1, o1, rfl, hF, he⟩ := r6.el hlt
            have e1 := he.name
            have z1 := he.name_r
            refine wgh ?_
            exact FinH.next (i9 + 1, _) wsub wsl wsr (by dsimp only; omega) (by dsimp only; omega)
          · skip
            refine wgh ?_
            refine CdH.loop (σ := Nat × Int × Value × List Value × List (List Ins)) (fun s => [(1, .pointer (some ⟨b, 0, none⟩)), (3, s.2.2.1), (4, .int .i64 s.2.1), (10, .int .i64 s.1)]) (fun s => [.own w.heap.size TBs 1 (s.2.2.1) (s.2.2.2.1 : List Value).length (s.2.2.2.1), .blk b ([Value.slice p0 m.types.length c0, Value.slice p1 m.imports.length c1, Value.slice p2 m.funcs.length c2, Value.slice p3 m.tables.length c3, Value.slice p4 m.mems.length c4, Value.slice p5 m.globals.length c5, Value.slice p6 m.exports.length c6, Value.bool m.hasStart, Value.int .i64 m.start, Value.slice p7 m.elems.length c7, Value.slice p8 m.datas.length c8, Value.slice p9 m.customs.length c9] : List Value) TMod]) (fun _ => [Ext w]) (fun s => s.1 ≤ m.elems.length ∧ BL w s.2.2.2.1 s.2.2.2.2 ∧ s.2.2.2.1.length ≤ 200 + 301 * s.1 ∧ ∃ tl, s.2.2.2.2 = m.funcs.map (·.body) ++ tl) (fun s => m.elems.length - s.1) (0, n9, v28, ls8, bs8) wsub wsl wsr ⟨by dsimp only; omega, hbl8, by dsimp only; omega, tl8, htl8⟩ ?_
            rintro ⟨i10, n10, v30, ls10, bs10⟩ ⟨hi, hbl10, hle10, tl10, htl10⟩
            dsimp only at *
            by_cases hlt : i10 < m.elems.length
            · obtain ⟨b1, o1, rfl, hF, he⟩ := r7.el hlt
              obtain ⟨u1, e1, hu1⟩ := he.items
              obtain ⟨u2, e2, hu2⟩ := he.offset
              obtain ⟨x1, y1, rfl, z1⟩ := hu1.slice
              obtain ⟨x2, y2, rfl, z2⟩ := hu2.slice
              by_cases h300 : (ix m.elems i10).items.length ≤ 300
              · obtain ⟨ls', hls', -, hrd, hbd⟩ := hu1.raws
                refine wgh ?_
                refine OpsH.he (HE.bsl rfl rfl rfl rfl rfl wcel (by rfl) (by rfl)) rfl ?_
                intro b2 _
                refine OpsH.he (HE.app rfl rfl (fun _ => wup) wup rfl rfl rfl (by rfl) (by rfl) (by rfl) (by rfl) (by rfl) (by rfl) (by omega) szR) rfl ?_
                intro v2 _
                refine wgh ?_
                refine OpsH.he (HE.appR ls' rfl rfl (fun _ => wup) ?_ (by rw [hls', Nat.mul_one]) rfl rfl rfl (by rfl) (by rfl) (by rfl) (by rfl) ?_ (by omega) szR) rfl ?_
                · rcases hrd with h | ⟨bk, ok, h1, h2⟩
                  · exact .inl h
                  · exact .inr ⟨bk, ok, h1, fun w' hw' j u hj => by
                      obtain ⟨q1, q2⟩ := ls_get hj
                      have := h2 j (by omega)
                      rw [q2] at this
                      exact (show Ext w w' from hw'.at).cell this⟩
                · exact BL.one' (w := w) (bs := (ix m.elems i10).items) ⟨hls', fun i hi => Body.true (hbd i hi)⟩
                intro v3 _
                refine wgh ?_
                refine FinH.next (i10 + 1, _, v3, ls10 ++ [_] ++ ls', bs10 ++ [(ix m.elems i10).offset] ++ (ix m.elems i10).items) wsub (.cons _ (sub_own rfl ?_ rfl wsl)) wsr ⟨by dsimp only; omega, (hbl10.app (BL.one (Body.true hu2))).app ⟨hls', fun i hi => Body.true (hbd i hi)⟩, by dsimp only; simp only [List.length_append, List.length_singleton]; omega, tl10 ++ [(ix m.elems i10).offset] ++ (ix m.elems i10).items, by dsimp only; rw [htl10]; simp⟩ (by dsimp only; omega)
                dsimp only; simp only [List.length_append, List.length_singleton]; omega
              · refine wgh ?_
                exact FinH.ret1 rfl rfl fun w' hw' => ⟨⟨false, rfl, fun h => by cases h⟩, hw'.at⟩
            · skip
              refine wgh ?_
              refine CdH.loop (σ := Nat × Int × Value × List Value × List (List Ins)) (fun s => [(1, .pointer (some ⟨b, 0, none⟩)), (3, s.2.2.1), (4, .int .i64 s.2.1), (11, .int .i64 s.1)]) (fun s => [.own w.heap.size TBs 1 (s.2.2.1) (s.2.2.2.1 : List Value).length (s.2.2.2.1), .blk b ([Value.slice p0 m.types.length c0, Value.slice p1 m.imports.length c1, Value.slice p2 m.funcs.length c2, Value.slice p3 m.tables.length c3, Value.slice p4 m.mems.length c4, Value.slice p5 m.globals.length c5, Value.slice p6 m.exports.length c6, Value.bool m.hasStart, Value.int .i64 m.start, Value.slice p7 m.elems.length c7, Value.slice p8 m.datas.length c8, Value.slice p9 m.customs.length c9] : List Value) TMod]) (fun _ => [Ext w]) (fun s => s.1 ≤ m.datas.length ∧ BL w s.2.2.2.1 s.2.2.2.2 ∧ s.2.2.2.1.length ≤ 40000 + s.1 ∧ ∃ tl, s.2.2.2.2 = m.funcs.map (·.body) ++ tl) (fun s => m.datas.length - s.1) (0, n10, v30, ls10, bs10) wsub wsl wsr ⟨by dsimp only; omega, hbl10, by dsimp only; omega, tl10, htl10⟩ ?_
              rintro ⟨i11, n11, v31, ls11, bs11⟩ ⟨hi, hbl11, hle11, tl11, htl11⟩
              dsimp only at *
              by_cases hlt : i11 < m.datas.length
              · obtain ⟨b1, o1, rfl, hF, he⟩ := r8.el hlt
                obtain ⟨u1, e1, hu1⟩ := he.bytes
                obtain ⟨u2, e2, hu2⟩ := he.offset
                obtain ⟨x1, y1, rfl, z1⟩ := hu1.slice
                obtain ⟨x2, y2, rfl, z2⟩ := hu2.slice
                refine wgh ?_
                refine OpsH.he (HE.bsl rfl rfl rfl rfl rfl wcel (by rfl) (by rfl)) rfl ?_
                intro b2 _
                refine OpsH.he (HE.app rfl rfl (fun _ => wup) wup rfl rfl rfl (by rfl) (by rfl) (by rfl) (by rfl) (by rfl) (by rfl) (by omega) szR) rfl ?_
                intro v2 _
                refine wgh ?_
                exact FinH.next (i11 + 1, _, v2, ls11 ++ [_], bs11 ++ [(ix m.datas i11).offset]) wsub (.cons _ (sub_own rfl (by simp) rfl wsl)) wsr ⟨by dsimp only; omega, hbl11.app (BL.one (Body.true hu2)), by dsimp only; rw [List.length_append, List.length_singleton]; omega, tl11 ++ [(ix m.datas i11).offset], by dsimp only; rw [htl11, List.append_assoc]⟩ (by dsimp only; omega)
              · skip
                refine wgh ?_
                refine CdH.loop (σ := Nat × Int) (fun s => [(1, .pointer (some ⟨b, 0, none⟩)), (3, v31), (4, .int .i64 s.2), (12, .int .i64 s.1)]) (fun _ => [.own w.heap.size TBs 1 (v31) (ls11 : List Value).length (ls11), .blk b ([Value.slice p0 m.types.length c0, Value.slice p1 m.imports.length c1, Value.slice p2 m.funcs.length c2, Value.slice p3 m.tables.length c3, Value.slice p4 m.mems.length c4, Value.slice p5 m.globals.length c5, Value.slice p6 m.exports.length c6, Value.bool m.hasStart, Value.int .i64 m.start, Value.slice p7 m.elems.length c7, Value.slice p8 m.datas.length c8, Value.slice p9 m.customs.length c9] : List Value) TMod]) (fun _ => [Ext w]) (fun s => s.1 ≤ m.customs.length) (fun s => m.customs.length - s.1) (0, n11) wsub wsl wsr (by dsimp only; omega) ?_
                rintro ⟨i12, n12⟩ hi
                dsimp only at hi ⊢
                by_cases hlt : i12 < m.customs.length
                · obtain ⟨b1, o1, rfl, hF, he⟩ := r9.el hlt
                  obtain ⟨u1, e1, hu1⟩ := he.bytes
                  have e2 := he.name
                  have z2 := he.name_r
                  obtain ⟨x1, y1, rfl, z1⟩ := hu1.slice
                  refine wgh ?_
                  exact FinH.next (i12 + 1, _) wsub wsl wsr (by dsimp only; omega) (by dsimp only; omega)
                · skip
                  refine wgh ?_
                  by_cases h9 : n12 ≤ 9000
                  · refine wgh ?_
                    refine OpsH.heg rfl (HE.callB rfl rfl (fun w' hw' => law07_rows bs11 _ w' (by omega) (bl_read hbl11 hw'.at hw'.own (by omega)))) rfl ?_
                    intro tb htb
                    refine wgh ?_
                    refine FinH.ret1 rfl rfl fun w' hw' => ⟨⟨tb, rfl, fun h => ⟨⟨q0, q1, q2, q3, q4, q5, q6, q7, q8⟩, ?_⟩⟩, hw'.at⟩
                    have := htb h
                    rw [htl11] at this
                    exact okrows_pre this
                  · refine wgh ?_
                    exact FinH.ret1 rfl rfl fun w' hw' => ⟨⟨false, rfl, fun h => by cases h⟩, hw'.at⟩

def LightF (m : ApiModule) : Prop := m.funcs.length ≤ 40 ∧ LightP m
set_option maxHeartbeats 16000000 in
theorem law57_light (F : Nat → Prop) (m : ApiModule) (cs : List Value) (w : World) (hm : ApiModuleV F w cs m) : Calls G.P 6 #[.agg cs.toArray] w (BoolTells (LightF m) w) := by
  have hm0 := hm
  obtain ⟨v0, v1, v2, v3, v4, v5, v6, v7, v8, v9, rfl, r0, r1, r2, r3, r4, r5, r6, r7, r8, r9, g0⟩ := hm
  obtain ⟨p2, c2, rfl, l2⟩ := r2.slice
  refine enterH (l := [.agg (([v0, v1, Value.slice p2 m.funcs.length c2, v3, v4, v5, v6, Value.bool m.hasStart, Value.int .i64 m.start, v7, v8, v9] : List Value)).toArray]) Tryz.func6 rfl Tryz.ntmps6 rfl (Ok.start w) ?_
  refine wgh ?_
  refine OpsH.box ([v0, v1, Value.slice p2 m.funcs.length c2, v3, v4, v5, v6, Value.bool m.hasStart, Value.int .i64 m.start, v7, v8, v9] : List Value) rfl rfl rfl fun b => ?_
  refine wgh ?_
  refine OpsH.he (HE.callB rfl rfl (fun w' hw' => law07_Light F m _ w' (hm0.chg (show Ext w w' from hw'.at) (fun _ _ _ h => h)))) rfl ?_
  intro tb htb
  cases tb with
  | false =>
    refine wgh ?_
    exact FinH.ret1 rfl rfl fun w' hw' => ⟨⟨false, rfl, fun h => by cases h⟩, hw'.at⟩
  | true =>
    have hL := htb rfl
    rcases Nat.lt_or_ge 40 m.funcs.length with q | q
    · refine wgh ?_
      exact FinH.ret1 rfl rfl fun w' hw' => ⟨⟨false, rfl, fun h => by cases h⟩, hw'.at⟩
    · refine wgh ?_
      refine CdH.loop (σ := Nat) (fun i => [(1, .pointer (some ⟨b, 0, none⟩)), (3, .int .i64 i)]) (fun _ => [.blk b ([v0, v1, Value.slice p2 m.funcs.length c2, v3, v4, v5, v6, Value.bool m.hasStart, Value.int .i64 m.start, v7, v8, v9] : List Value) TMod]) (fun _ => [Ext w]) (fun i => i ≤ m.funcs.length) (fun i => m.funcs.length - i) 0 wsub wsl wsr (by omega) ?_
      intro i hi
      by_cases hlt : i < m.funcs.length
      · obtain ⟨b1, o1, rfl, hF, he⟩ := r2.el hlt
        obtain ⟨u2, e2, hu2⟩ := he.body
        obtain ⟨x2, y2, rfl, z2⟩ := hu2.slice
        refine wgh ?_
        refine CdH.loop (σ := Nat × Int) (fun s => [(1, .pointer (some ⟨b, 0, none⟩)), (3, .int .i64 i), (4, .slice x2 (ix m.funcs i).body.length y2), (5, .int .i64 s.2), (6, .int .i64 s.1)]) (fun _ => [.blk b ([v0, v1, Value.slice (some ⟨b1, o1, none⟩) m.funcs.length c2, v3, v4, v5, v6, Value.bool m.hasStart, Value.int .i64 m.start, v7, v8, v9] : List Value) TMod]) (fun _ => [Ext w]) (fun s => s.1 ≤ (ix m.funcs i).body.length) (fun s => (ix m.funcs i).body.length - s.1) (0, 0) wsub wsl wsr (by dsimp only; omega) ?_
        rintro ⟨j, nl⟩ hj
        dsimp only at hj ⊢
        by_cases hjl : j < (ix m.funcs i).body.length
        · obtain ⟨b3, o3, rfl, -, hall⟩ := hu2.at hjl
          have hx := hall j hjl
          have c3 := hx.op
          obtain ⟨lv, c4, hlv⟩ := hx.labels
          obtain ⟨pl, cpl, rfl, hll⟩ := hlv.slice
          generalize (ix (ix m.funcs i).body j).op = op at *
          rcases (show op = 12 ∨ op = 13 ∨ op = 14 ∨ op = 4 ∨ op = 5 ∨ (op ≠ 12 ∧ op ≠ 13 ∧ op ≠ 14 ∧ op ≠ 4 ∧ op ≠ 5) from by omega) with hc_ | hc_ | hc_ | hc_ | hc_ | ⟨hc12_, hc13_, hc14_, hc4_, hc5_⟩
          · refine wgh ?_
            exact FinH.next (j + 1, _) wsub wsl wsr (by dsimp only; omega) (by dsimp only; omega)
          · refine wgh ?_
            exact FinH.next (j + 1, _) wsub wsl wsr (by dsimp only; omega) (by dsimp only; omega)
          · refine wgh ?_
            exact FinH.next (j + 1, _) wsub wsl wsr (by dsimp only; omega) (by dsimp only; omega)
          · refine wgh ?_
            exact FinH.next (j + 1, _) wsub wsl wsr (by dsimp only; omega) (by dsimp only; omega)
          · refine wgh ?_
            exact FinH.next (j + 1, _) wsub wsl wsr (by dsimp only; omega) (by dsimp only; omega)
          · refine wgh ?_
            exact FinH.next (j + 1, _) wsub wsl wsr (by dsimp only; omega) (by dsimp only; omega)
        · refine wgh ?_
          refine OpsH.y_ (Yl.gtrD rfl rfl) rfl ?_
          refine wgh ?_
          refine CdH.condB rfl (fun h => ?_) (fun h => ?_)
          · refine wgh ?_
            exact FinH.ret1 rfl rfl fun w' hw' => ⟨⟨false, rfl, fun h => by cases h⟩, hw'.at⟩
          · refine wgh ?_
            exact FinH.next (i + 1) wsub wsl wsr (by omega) (by omega)
      · refine wgh ?_
        exact FinH.ret1 rfl rfl fun w' hw' => ⟨⟨true, rfl, fun _ => ⟨q, hL⟩⟩, hw'.at⟩
end Go.Proofs.YtmkgfccfnpmcjaaGreatDoor
