/- The shelf's contract of slices.Sort at []int, laid by the kit's tools over this seat's dump; its form over a row of the call's own. Printed by gen_so.py. -/
import Derived.Shelf.Sort.Plain
import Derived.Sort.OwnSortedInts
import Derived.Test.YtmkgfccfnpmcjaaDoorJE
import Derived.Test.YtmkgfccfnpmcjaaDoorJMv
import Derived.Test.YtmkgfccfnpmcjaaDoorJR8
namespace Go.Proofs.YtmkgfccfnpmcjaaDoor
open Go.Shelf Go.RowKit Go.Sort
def laysSort_ren : Go.Shelf.Ren := ⟨fun | 189 => 15 | 125 => 33 | 257 => 32 | 128 => 57 | 129 => 58 | 294 => 49 | 295 => 50 | 296 => 51 | 297 => 52 | 298 => 53 | 299 => 54 | 216 => 38 | 300 => 55 | 301 => 56 | 328 => 66 | 329 => 67 | 330 => 68 | 331 => 69 | 332 => 70 | 215 => 61 | 343 => 75 | n => n, fun | 28 => 51 | 3 => 3 | 46 => 121 | 0 => 0 | 51 => 146 | 53 => 47 | 4 => 4 | 183 => 140 | 182 => 139 | 131 => 91 | 5 => 5 | 9 => 9 | 218 => 158 | 222 => 162 | 228 => 170 | 229 => 171 | n => n, fun | n => n⟩
theorem laysSort : Go.Proofs.Lays.n189 Tryd.prog laysSort_ren := {
  mixed := by kernel_rfl
  f125 := Tryd.func33.trans (congrArg some (by kernel_rfl))
  f128 := Tryd.func57.trans (congrArg some (by kernel_rfl))
  f129 := Tryd.func58.trans (congrArg some (by kernel_rfl))
  f189 := Tryd.func15.trans (congrArg some (by kernel_rfl))
  f215 := Tryd.func61.trans (congrArg some (by kernel_rfl))
  f216 := Tryd.func38.trans (congrArg some (by kernel_rfl))
  f257 := Tryd.func32.trans (congrArg some (by kernel_rfl))
  f294 := Tryd.func49.trans (congrArg some (by kernel_rfl))
  f295 := Tryd.func50.trans (congrArg some (by kernel_rfl))
  f296 := Tryd.func51.trans (congrArg some (by kernel_rfl))
  f297 := Tryd.func52.trans (congrArg some (by kernel_rfl))
  f298 := Tryd.func53.trans (congrArg some (by kernel_rfl))
  f299 := Tryd.func54.trans (congrArg some (by kernel_rfl))
  f300 := Tryd.func55.trans (congrArg some (by kernel_rfl))
  f301 := Tryd.func56.trans (congrArg some (by kernel_rfl))
  f328 := Tryd.func66.trans (congrArg some (by kernel_rfl))
  f329 := Tryd.func67.trans (congrArg some (by kernel_rfl))
  f330 := Tryd.func68.trans (congrArg some (by kernel_rfl))
  f331 := Tryd.func69.trans (congrArg some (by kernel_rfl))
  f332 := Tryd.func70.trans (congrArg some (by kernel_rfl))
  f343 := Tryd.func75.trans (congrArg some (by kernel_rfl))
  t0 := Tryd.underlying0
  a0 := Tryd.isAgg0
  z0 := Tryd.sizeOf0
  v0 := Tryd.zeroValue0
  t3 := Tryd.underlying3
  a3 := Tryd.isAgg3
  z3 := Tryd.sizeOf3
  v3 := Tryd.zeroValue3
  t4 := Tryd.underlying4
  a4 := Tryd.isAgg4
  z4 := Tryd.sizeOf4
  v4 := Tryd.zeroValue4
  t5 := Tryd.underlying5
  a5 := Tryd.isAgg5
  z5 := Tryd.sizeOf5
  v5 := Tryd.zeroValue5
  t9 := Tryd.underlying9
  a9 := Tryd.isAgg9
  z9 := Tryd.sizeOf9
  v9 := Tryd.zeroValue9
  t28 := Tryd.underlying51
  a28 := Tryd.isAgg51
  z28 := Tryd.sizeOf51
  v28 := Tryd.zeroValue51
  t46 := Tryd.underlying121
  a46 := Tryd.isAgg121
  z46 := Tryd.sizeOf121
  v46 := Tryd.zeroValue121
  t51 := Tryd.underlying146
  a51 := Tryd.isAgg146
  z51 := Tryd.sizeOf146
  v51 := Tryd.zeroValue146
  t53 := Tryd.underlying47
  a53 := Tryd.isAgg47
  z53 := Tryd.sizeOf47
  v53 := Tryd.zeroValue47
  t131 := Tryd.underlying91
  a131 := Tryd.isAgg91
  z131 := Tryd.sizeOf91
  v131 := Tryd.zeroValue91
  t182 := Tryd.underlying139
  a182 := Tryd.isAgg139
  z182 := Tryd.sizeOf139
  v182 := Tryd.zeroValue139
  t183 := Tryd.underlying140
  a183 := Tryd.isAgg140
  z183 := Tryd.sizeOf140
  v183 := Tryd.zeroValue140
  t218 := Tryd.underlying158
  a218 := Tryd.isAgg158
  z218 := Tryd.sizeOf158
  v218 := Tryd.zeroValue158
  t222 := Tryd.underlying162
  a222 := Tryd.isAgg162
  z222 := Tryd.sizeOf162
  v222 := Tryd.zeroValue162
  t228 := Tryd.underlying170
  a228 := Tryd.isAgg170
  z228 := Tryd.sizeOf170
  v228 := Tryd.zeroValue170
  t229 := Tryd.underlying171
  a229 := Tryd.isAgg171
  z229 := Tryd.sizeOf171
  v229 := Tryd.zeroValue171 }
open Go.Sort Go.RowKit in
theorem sort_int (blk off cap : Nat) (zs : List Int) (w : World) (hH : Holds (Value.int .i64) w blk off zs.toArray) (hblk : blk < w.heap.size) (hsz : zs.length < 4611686018427387904) :
    Calls Tryd.prog 15 #[.slice (some ⟨blk, off, none⟩) zs.length cap] w fun e w' =>
      e = .returned (.tuple #[]) ∧ ∃ n os, w' = grow (putRow (Value.int .i64) (Sort.ahead w n) blk off (zs.mergeSort fun x y => decide (x ≤ y)).toArray) os := Any.slices_Sort_int laysSort blk off cap zs w hH hblk hsz

/-- slices.Sort on a row of the call's own -/
theorem slices_Sort (xs : List Int) (v : Value) (B : Nat) (w : World) (hown : OwnI B w v xs) (h0 : 0 < xs.length) (hsm : xs.length ≤ 1000000000) :
    Calls G.P 15 #[v] w fun e w' => e = .returned (.tuple #[]) ∧ OwnI B w' v (xs.mergeSort fun x y => decide (x ≤ y)) ∧ Chg (fun k => v.ownBlock = some k) w w' := by
  rcases hown.2 with ⟨hn, e⟩ | ⟨g, cap, cur, rfl, hbase, hb, h1, h2, h3, h4⟩
  · exfalso; simp_all
  · have hc := sort_int g 0 cap xs w (holds_of_blockI hb (by simpa using h4)) (Array.getElem?_eq_some_iff.1 hb).1 (by omega)
    refine Calls.mono hc ?_
    rintro e w' ⟨rfl, n, os, rfl⟩
    refine ⟨rfl, ?_, (Chg.ofGrown (grownBy_sortedI _)).mono (fun k _ e => e)⟩
    have := ownsRow_sortedI (ts := xs.mergeSort fun x y => decide (x ≤ y)) (ss := xs) (n := n) (os := os) (by simp) hbase hb h1 h2 h3
    unfold OwnI
    rw [List.length_mergeSort]
    exact this
end Go.Proofs.YtmkgfccfnpmcjaaDoor
/- cfg.begins: where blocks begin, in order. -/
namespace Go.Proofs.YtmkgfccfnpmcjaaDoor
open Go.RowKit

theorem sorted_ext : ∀ {l m : List Int}, l.Pairwise (· < ·) → m.Pairwise (· < ·) → (∀ a, a ∈ l ↔ a ∈ m) → l = m
  | [], [], _, _, _ => rfl
  | [], b :: m, _, _, h => by have := (h b).2 (by simp); cases this
  | a :: l, [], _, _, h => by have := (h a).1 (by simp); cases this
  | a :: l, b :: m, hl, hm, h => by
    rw [List.pairwise_cons] at hl hm
    have e : a = b := by
      have h1 := (h a).1 (by simp)
      have h2 := (h b).2 (by simp)
      rcases List.mem_cons.1 h1 with e | h1
      · exact e
      · rcases List.mem_cons.1 h2 with e | h2
        · exact e.symm
        · have := hl.1 b h2; have := hm.1 a h1; omega
    subst e
    rw [sorted_ext hl.2 hm.2 (fun c => ?_)]
    have hc := h c
    simp only [List.mem_cons] at hc
    constructor
    · intro hcl
      have hlt := hl.1 c hcl
      rcases hc.1 (.inr hcl) with e | h
      · omega
      · exact h
    · intro hcm
      have hlt := hm.1 c hcm
      rcases hc.2 (.inr hcm) with e | h
      · omega
      · exact h

/-- the places at which blocks begin -/
def startsR (xs : List Ins) : List Int := ((List.range xs.length).filter (startB xs)).map (fun j : Nat => (j : Int))
theorem fbTo_firsts (xs : List Ins) (k : Nat) : (fbTo xs k).map (·.1) = (List.range k).filter (startB xs) := by
  induction k with
  | zero => rfl
  | succ k ih =>
    rw [List.range_succ, List.filter_append]
    cases hs : startB xs k with
    | true => rw [fbTo_yes hs, List.map_append, ih]; simp [hs]
    | false =>
      rw [fbTo_no hs, List.map_set, ← ih]
      simp only [List.filter_cons, hs, List.filter_nil, Bool.false_eq_true, if_false, List.append_nil]
      by_cases h0 : (fbTo xs k).length = 0
      · rw [List.length_eq_zero_iff.1 h0]; rfl
      · rw [ix_eq (by omega)]
        apply List.ext_getElem
        · simp
        · intro i h1 h2
          rw [List.getElem_set]
          split
          · rename_i e; subst e; simp
          · rfl
theorem startsR_eq (xs : List Ins) : startsR xs = (fbTo xs xs.length).map (fun p => (p.1 : Int)) := by
  unfold startsR; rw [← fbTo_firsts, List.map_map]; rfl
theorem startsR_sorted (xs : List Ins) : (startsR xs).Pairwise (· < ·) := by
  unfold startsR
  rw [List.pairwise_map]
  have h : ((List.range xs.length).filter (startB xs)).Pairwise (· < ·) := (List.pairwise_lt_range).filter _
  exact h.imp (fun h => by omega)

def ins (l : List Int) (a : Int) : List Int := if a ∈ l then l else l ++ [a]
theorem mem_ins {l : List Int} {a b : Int} : b ∈ ins l a ↔ b ∈ l ∨ b = a := by
  unfold ins; split
  · rename_i h; constructor
    · exact .inl
    · rintro (h1 | rfl)
      · exact h1
      · exact h
  · simp
theorem ins_len (l : List Int) (a : Int) : (ins l a).length ≤ l.length + 1 := by unfold ins; split <;> simp
/-- the map's keys after i instructions -/
def keysTo (xs : List Ins) : Nat → List Int
  | 0 => [0]
  | i + 1 =>
    let l := if (ix xs i).op = 11 then ins (keysTo xs i) i else keysTo xs i
    if endsB (ix xs i).op = true ∧ i + 1 < xs.length then ins l ((i : Int) + 1) else l
theorem keysTo_len (xs : List Ins) : ∀ i, (keysTo xs i).length ≤ 2 * i + 1
  | 0 => by simp [keysTo]
  | i + 1 => by
    have h := keysTo_len xs i
    have h1 : (if (ix xs i).op = 11 then ins (keysTo xs i) i else keysTo xs i).length ≤ (keysTo xs i).length + 1 := by split; exact ins_len _ _; omega
    have h2 := ins_len (if (ix xs i).op = 11 then ins (keysTo xs i) i else keysTo xs i) ((i : Int) + 1)
    simp only [keysTo]
    split <;> omega
theorem mem_keysTo (xs : List Ins) : ∀ (i : Nat) (a : Int), a ∈ keysTo xs i ↔ ∃ j : Nat, a = j ∧ (j = 0 ∨ (j < i ∧ (ix xs j).op = 11) ∨ (1 ≤ j ∧ j ≤ i ∧ j < xs.length ∧ endsB (ix xs (j - 1)).op = true))
  | 0, a => by
    simp only [keysTo, List.mem_singleton]
    constructor
    · rintro rfl; exact ⟨0, rfl, .inl rfl⟩
    · rintro ⟨j, rfl, h | h | h⟩ <;> omega
  | i + 1, a => by
    have ih := mem_keysTo xs i a
    have h1 : a ∈ (if (ix xs i).op = 11 then ins (keysTo xs i) i else keysTo xs i) ↔ a ∈ keysTo xs i ∨ ((ix xs i).op = 11 ∧ a = i) := by
      split
      · rename_i h; rw [mem_ins]; simp [h]
      · rename_i h; simp [h]
    have h2 : a ∈ keysTo xs (i + 1) ↔ (a ∈ keysTo xs i ∨ ((ix xs i).op = 11 ∧ a = i)) ∨ ((endsB (ix xs i).op = true ∧ i + 1 < xs.length) ∧ a = (i : Int) + 1) := by
      simp only [keysTo]
      split
      · rename_i h; rw [mem_ins, h1]; simp [h]
      · rename_i h; rw [h1]; simp only [h, false_and, or_false]
    rw [h2, ih]
    constructor
    · rintro ((⟨j, rfl, h⟩ | ⟨h, rfl⟩) | ⟨⟨h, h'⟩, rfl⟩)
      · refine ⟨j, rfl, ?_⟩
        rcases h with h | ⟨h, h'⟩ | ⟨h, h', h3⟩
        · exact .inl h
        · exact .inr (.inl ⟨by omega, h'⟩)
        · exact .inr (.inr ⟨h, by omega, h3⟩)
      · exact ⟨i, rfl, .inr (.inl ⟨by omega, h⟩)⟩
      · exact ⟨i + 1, by omega, .inr (.inr ⟨by omega, by omega, h', by simpa using h⟩)⟩
    · rintro ⟨j, rfl, h⟩
      rcases h with h | ⟨h, h'⟩ | ⟨h, h', h3, h4⟩
      · exact .inl (.inl ⟨j, rfl, .inl h⟩)
      · by_cases e : j = i
        · subst e; exact .inl (.inr ⟨h', rfl⟩)
        · exact .inl (.inl ⟨j, rfl, .inr (.inl ⟨by omega, h'⟩)⟩)
      · by_cases e : j = i + 1
        · subst e; exact .inr ⟨⟨by simpa using h4, h3⟩, by omega⟩
        · exact .inl (.inl ⟨j, rfl, .inr (.inr ⟨h, by omega, h3, h4⟩)⟩)
theorem keysTo_rng {xs : List Ins} {i : Nat} (hi : i ≤ xs.length) {a : Int} (h : a ∈ keysTo xs i) : 0 ≤ a ∧ a ≤ xs.length := by
  obtain ⟨j, rfl, h | ⟨h, _⟩ | ⟨_, h, _⟩⟩ := (mem_keysTo xs i a).1 h <;> omega
theorem mem_starts {xs : List Ins} (h0 : 0 < xs.length) (a : Int) : a ∈ keysTo xs xs.length ↔ a ∈ startsR xs := by
  rw [mem_keysTo]
  unfold startsR
  rw [List.mem_map]
  constructor
  · rintro ⟨j, rfl, h⟩
    have hj : j < xs.length ∧ startB xs j = true := by
      unfold startB
      rcases h with h | ⟨h, h'⟩ | ⟨h, h', h3, h4⟩
      · subst h; exact ⟨h0, by simp⟩
      · exact ⟨h, by simp [h']⟩
      · exact ⟨h3, by simp [h4]⟩
    exact ⟨j, List.mem_filter.2 ⟨List.mem_range.2 hj.1, hj.2⟩, rfl⟩
  · rintro ⟨j, hj, rfl⟩
    obtain ⟨h1, h2⟩ := List.mem_filter.1 hj
    have h1 := List.mem_range.1 h1
    refine ⟨j, rfl, ?_⟩
    by_cases e : j = 0
    · exact .inl e
    · unfold startB at h2
      simp only [Bool.or_eq_true, beq_iff_eq] at h2
      rcases h2 with (h2 | h2) | h2
      · exact absurd h2 e
      · exact .inr (.inl ⟨h1, h2⟩)
      · exact .inr (.inr ⟨by omega, by omega, h1, h2⟩)
theorem sort_starts {xs : List Ins} (h0 : 0 < xs.length) {L : List Int} (hn : L.Nodup) (hm : ∀ a, a ∈ L ↔ a ∈ keysTo xs xs.length) : (L.mergeSort fun x y => decide (x ≤ y)) = startsR xs := by
  have hp : (L.mergeSort fun x y => decide (x ≤ y)).Perm L := List.mergeSort_perm _ _
  refine sorted_ext ?_ (startsR_sorted xs) (fun a => ?_)
  · have h1 : (L.mergeSort fun x y => decide (x ≤ y)).Pairwise (fun a b => decide (a ≤ b) = true) := List.pairwise_mergeSort (by intro a b c h1 h2; simp only [decide_eq_true_eq] at *; omega) (by intro a b; simp only [Bool.or_eq_true, decide_eq_true_eq]; omega) L
    have h2 : (L.mergeSort fun x y => decide (x ≤ y)).Pairwise (fun a b => a ≠ b) := hp.nodup_iff.2 hn
    refine (h1.and h2).imp (fun h => ?_)
    have := h.1; have := h.2
    simp only [decide_eq_true_eq] at *; omega
  · rw [hp.mem_iff, hm, mem_starts h0]
theorem wf64 {a : Int} (h0 : 0 ≤ a) (h1 : a ≤ 10000000000) : (Lit.int .i64 a).wf = true := by
  have e1 : IntKind.i64.min = -9223372036854775808 := by decide
  have e2 : IntKind.i64.max = 9223372036854775807 := by decide
  simp only [Lit.wf, e1, e2, Bool.and_eq_true, decide_eq_true_eq]
  omega
end Go.Proofs.YtmkgfccfnpmcjaaDoor
/- Walk of cfg.begins. -/
namespace Go.Proofs.YtmkgfccfnpmcjaaDoor
open Go.RowKit

theorem nonempty_of_ok {xs : List Ins} (hok : (checkR xs).2 = 0) : 0 < xs.length := by
  rcases Nat.eq_zero_or_pos xs.length with h | h
  · have := (check_ok hok).2
    rw [h] at this; simp [roundR] at this
  · exact h

set_option maxRecDepth 100000 in
theorem cfg_begins (xs : List Ins) (v : Value) (w : World) (hb : Body w v xs) (hsm : xs.length ≤ 100000000) (h0 : 0 < xs.length) :
    Calls G.P 21 #[v] w fun e w' => ∃ r, e = .returned r ∧ OwnI w.heap.size w' r (startsR xs) ∧ Ext w w' := by
  obtain ⟨p, cap, rfl, hl⟩ := hb.slice
  refine enter (G := G) Tryd.func21 rfl Tryd.ntmps21 rfl ?_
  refine wgo ?_
  refine Ops.e Eff.makeMap rfl ?_
  rintro _ w1 ⟨rfl, hm1, hx1, hz1⟩
  refine Ops.e0 (Eff.insert Tryd.underlying126 Tryd.underlying3 rfl rfl rfl hm1 (wf64 (by omega) (by omega)) (by simp)) ?_
  rintro _ w2 ⟨hm2, hc2, hz2⟩
  have hx2 : Ext w w2 := hx1.trans' hc2 (fun i hi e => by omega)
  generalize hbm : w.heap.size = bm at *
  refine wgo ?_
  refine Cd.loop (σ := Nat) (fun s => [(0, .slice p xs.length cap), (3, .map (some bm)), (10, .slice p xs.length cap), (11, .int .i64 xs.length), (12, .int .i64 s)])
    (fun s wr => s ≤ xs.length ∧ IM wr bm (keysTo xs s) ∧ Ext w wr) (fun s => xs.length - s) 0 wsub ⟨Nat.zero_le _, hm2, hx2⟩ ?_
  rintro i wr ⟨hi, hm, hext⟩
  by_cases hlt : i < xs.length
  · have hbr : Body wr _ xs := hb.ext hext
    obtain ⟨b, off, rfl, -, hI⟩ := hbr.at hlt
    obtain ⟨pt, ct, pl, cl, hti, hli, hcells⟩ := (hI i hlt).cells
    have hlm := hm.lt
    refine wgo ?_
    refine Ops.y (Yl.loadA (s := 9) rfl rfl rfl rfl rfl (by intro _ hw_; cases hw_; exact hcells)) rfl ?_
    refine Ops.e (Eff.alloc rfl) rfl ?_
    rintro _ wx ⟨rfl, hnx⟩
    refine wgo ?_
    refine Ops.e0 (Eff.storeB rfl rfl rfl rfl rfl (by simp [insC, Value.oneCell']) hnx.blk rfl) ?_
    rintro _ wy ⟨hby, hcy, hsy⟩
    have hx : Ext wr wy := hnx.ext.trans' hcy (fun k hk e => by omega)
    have hmy := hm.chg hx (fun h => h)
    have hexty : Ext w wy := hext.trans hx
    generalize hxb : wr.heap.size = xb at *
    have hop : wy.cell? ⟨xb, 0, none⟩ = some (.int .i64 (ix xs i).op) := hby.cell rfl
    have hks : ∀ a ∈ keysTo xs i, (Lit.int .i64 a).wf = true := fun a ha => by
      have := keysTo_rng hi ha
      exact wf64 this.1 (by omega)
    have hK : keysTo xs (i + 1) = if endsB (ix xs i).op = true ∧ i + 1 < xs.length then ins (if (ix xs i).op = 11 then ins (keysTo xs i) i else keysTo xs i) ((i : Int) + 1) else (if (ix xs i).op = 11 then ins (keysTo xs i) i else keysTo xs i) := rfl
    by_cases h11 : (ix xs i).op = 11
    · have he : endsB (ix xs i).op = false := by rw [h11]; rfl
      rw [if_neg (by simp [he]), if_pos h11] at hK
      refine wgo ?_
      refine Ops.e0 (Eff.mapUpdate Tryd.underlying126 Tryd.underlying3 rfl rfl rfl hmy (wf64 (by omega) (by omega)) hks) ?_
      rintro _ wm ⟨hmm, hcm, hzm⟩
      have hop2 : wm.cell? ⟨xb, 0, none⟩ = some (.int .i64 (ix xs i).op) := hcm.cell (by show ¬ xb = bm; omega) hop
      refine wgo ?_
      refine Ops.call rfl rfl rfl (cfg_ends (ix xs i).op wm) ?_
      rintro _ _ ⟨rfl, rfl⟩
      refine ⟨_, rfl, ?_⟩
      rw [he]
      refine wgo ?_
      exact Fin.next (i + 1) wsub ⟨by omega, by rw [hK]; exact hmm, hexty.trans' hcm (fun k hk e => by omega)⟩ (by omega)
    · rw [if_neg h11] at hK
      refine wgo ?_
      refine Ops.call rfl rfl rfl (cfg_ends (ix xs i).op wy) ?_
      rintro _ _ ⟨rfl, rfl⟩
      refine ⟨_, rfl, ?_⟩
      cases he : endsB (ix xs i).op with
      | false =>
        rw [if_neg (by simp [he])] at hK
        refine wgo ?_
        exact Fin.next (i + 1) wsub ⟨by omega, by rw [hK]; exact hmy, hexty⟩ (by omega)
      | true =>
        by_cases hln : i + 1 < xs.length
        · rw [if_pos ⟨he, hln⟩] at hK
          refine wgo ?_
          refine Ops.e0 (Eff.mapUpdate Tryd.underlying126 Tryd.underlying3 rfl rfl rfl hmy (wf64 (by omega) (by omega)) hks) ?_
          rintro _ wm ⟨hmm, hcm, hzm⟩
          refine wgo ?_
          exact Fin.next (i + 1) wsub ⟨by omega, by rw [hK]; exact hmm, hexty.trans' hcm (fun k hk e => by omega)⟩ (by omega)
        · rw [if_neg (by simp [hln])] at hK
          refine wgo ?_
          exact Fin.next (i + 1) wsub ⟨by omega, by rw [hK]; exact hmy, hexty⟩ (by omega)
  · obtain rfl : i = xs.length := by omega
    refine wgo ?_
    refine Ops.e (Eff.range Tryd.underlying126 rfl hm) rfl ?_
    rintro _ w3 ⟨rfl, ⟨es, clock, hit⟩, hx3, hz3⟩
    have hes : es.size = (keysTo xs xs.length).length := by
      have := congrArg List.length hit.keys
      simpa using this
    have hkl := keysTo_len xs xs.length
    have hext3 : Ext w w3 := hext.trans hx3
    have hbl := hm.lt
    have hszr := hext.size
    generalize hr : wr.heap.size = r at *
    refine wgo ?_
    refine Cd.loop (σ := List Int × Value × Array Nat) (fun s => [(6, s.2.1), (40, .pointer (some ⟨r, 0, none⟩))])
      (fun s wr => IT wr bm r (keysTo xs xs.length) s.1 es clock s.2.2 ∧ OwnI (r + 1) wr s.2.1 s.1 ∧ s.1.length + (leftOf es s.2.2).size ≤ es.size ∧ Ext w wr) (fun s => (leftOf es s.2.2).size) ([], _, #[]) wsub
      ⟨hit, OwnI.nil _ _, by simp only [List.length_nil, Nat.zero_add]; exact Array.size_filter_le, hext3⟩ ?_
    rintro ⟨L, o, seen⟩ w4 ⟨hit4, hown4, hlen4, hext4⟩
    dsimp only at hit4 hown4 hlen4 hext4 ⊢
    have hlr := hit4.lt
    refine wgo ?_
    refine Ops.e (Eff.next rfl hit4) rfl ?_
    rintro _ w5 (⟨hz, rfl, rfl⟩ | ⟨a, val, seen', rfl, hit5, hsh, hc5, hs5, hen⟩)
    · have hall := hit4.all hz
      have hsort := sort_starts h0 hit4.nd hall
      have hLpos : 0 < L.length := by
        have : (0 : Int) ∈ L := (hall 0).2 ((mem_keysTo xs xs.length 0).2 ⟨0, rfl, .inl rfl⟩)
        exact List.length_pos_of_mem this
      refine wgo ?_
      refine Ops.call rfl rfl rfl (slices_Sort L o _ w5 hown4 hLpos (by omega)) ?_
      rintro _ w6 ⟨rfl, hown6, hc6⟩
      refine ⟨_, rfl, ?_⟩
      rw [hsort] at hown6
      refine wgo ?_
      refine Fin.ret1 rfl rfl ⟨_, rfl, own_base hown6 (fun k hk => by have := (hown6.lt k hk).1; omega), hext4.trans' hc6 (fun k hk e => by have := (hown4.lt k e).1; omega)⟩
    · have hown5 : OwnI (r + 1) w5 o L := own_chg hown4 hc5 (fun k hk e => by have := (hown4.lt k hk).1; omega)
      refine wgo ?_
      refine Ops.e (Eff.entry rfl hen) rfl ?_
      rintro _ _ ⟨rfl, rfl⟩
      refine wgo ?_
      refine Ops.e (Eff.buildSlice (cs := [.int .i64 a]) (e := 3) rfl (by kernel_rfl)) rfl ?_
      rintro _ w6 ⟨rfl, hn6⟩
      have hz6 := hn6.size
      refine Ops.e (Eff.appIB rfl rfl (hown5.ext hn6.ext) (by omega) (hn6.blk.cell rfl) (by omega)) rfl ?_
      rintro v7 w7 ⟨hown7, hc7, hb7⟩
      refine wgo ?_
      refine Fin.next (L ++ [a], v7, seen') wsub ⟨(hit5.chg hn6.ext (fun h => h) (fun h => h)).chg hc7 (fun e => by have := (hown5.lt _ e).1; omega) (fun e => by have := (hown5.lt _ e).1; omega), hown7, by simp; omega, ?_⟩ hsh
      exact ((hext4.trans' hc5 (fun k hk e => by omega)).trans hn6.ext).trans' hc7 (fun k hk e => by have := (hown5.lt k e).1; omega)
end Go.Proofs.YtmkgfccfnpmcjaaDoor
/- Plain laws (no program in sight): the functions that a body calls. -/
namespace Go.Proofs.YtmkgfccfnpmcjaaDoor

/-- equal neighbours become one -/
def compactL : List Int → List Int
  | [] => []
  | [a] => [a]
  | a :: b :: r => if a = b then compactL (b :: r) else a :: compactL (b :: r)
theorem compactL_mem : ∀ (l : List Int) (x : Int), x ∈ compactL l ↔ x ∈ l
  | [], x => by simp [compactL]
  | [a], x => by simp [compactL]
  | a :: b :: r, x => by
    rw [compactL]
    split
    · rename_i h; subst h
      rw [compactL_mem (a :: r) x]; simp
    · rw [List.mem_cons, compactL_mem (b :: r) x, List.mem_cons (a := x) (b := a)]
theorem compactL_sorted : ∀ (l : List Int), l.Pairwise (· ≤ ·) → (compactL l).Pairwise (· < ·)
  | [], _ => by simp [compactL]
  | [a], _ => by simp [compactL]
  | a :: b :: r, h => by
    obtain ⟨h1, h2⟩ := List.pairwise_cons.1 h
    have ih := compactL_sorted (b :: r) h2
    rw [compactL]
    split
    · exact ih
    · rename_i hne
      refine List.pairwise_cons.2 ⟨fun x hx => ?_, ih⟩
      rw [compactL_mem] at hx
      have h3 := h1 b (by simp)
      rcases List.mem_cons.1 hx with rfl | hx
      · omega
      · have := (List.pairwise_cons.1 h2).1 x hx; omega
theorem compactL_len : ∀ (l : List Int), (compactL l).length ≤ l.length
  | [] => by simp [compactL]
  | [a] => by simp [compactL]
  | a :: b :: r => by
    have := compactL_len (b :: r)
    rw [compactL]; split
    · simp at this ⊢; omega
    · simp at this ⊢; omega

/-- whether a body calls own function k, the first own one having the number n0 -/
def callsK (xs : List Ins) (n0 : Int) (k : Nat) : Bool := xs.any fun x => x.op == 16 && x.a == n0 + k
/-- the own functions that a body calls, of nf -/
def callsB (xs : List Ins) (n0 : Int) (nf : Nat) : List Int := ((List.range nf).filter (callsK xs n0)).map fun k : Nat => (k : Int)
/-- as they stand in the body -/
def callsO (xs : List Ins) (n0 : Int) (nf : Nat) : List Int := (xs.filter fun x => x.op == 16 && decide (n0 ≤ x.a) && decide (x.a - n0 < nf)).map fun x => x.a - n0
theorem callsB_sorted (xs : List Ins) (n0 : Int) (nf : Nat) : (callsB xs n0 nf).Pairwise (· < ·) := by
  unfold callsB
  rw [List.pairwise_map]
  exact (List.Pairwise.filter _ List.pairwise_lt_range).imp (fun h => by omega)
theorem mem_callsB {xs : List Ins} {n0 : Int} {nf : Nat} {a : Int} : a ∈ callsB xs n0 nf ↔ ∃ k : Nat, a = k ∧ k < nf ∧ ∃ x ∈ xs, x.op = 16 ∧ x.a = n0 + k := by
  unfold callsB
  rw [List.mem_map]
  constructor
  · rintro ⟨k, hk, rfl⟩
    obtain ⟨h1, h2⟩ := List.mem_filter.1 hk
    refine ⟨k, rfl, List.mem_range.1 h1, ?_⟩
    unfold callsK at h2
    obtain ⟨x, hx, h⟩ := List.any_eq_true.1 h2
    simp only [Bool.and_eq_true, beq_iff_eq] at h
    exact ⟨x, hx, h⟩
  · rintro ⟨k, rfl, hk, x, hx, h1, h2⟩
    refine ⟨k, List.mem_filter.2 ⟨List.mem_range.2 hk, ?_⟩, rfl⟩
    unfold callsK
    exact List.any_eq_true.2 ⟨x, hx, by simp [h1, h2]⟩
theorem mem_callsO {xs : List Ins} {n0 : Int} {nf : Nat} {a : Int} : a ∈ callsO xs n0 nf ↔ a ∈ callsB xs n0 nf := by
  rw [mem_callsB]
  unfold callsO
  rw [List.mem_map]
  constructor
  · rintro ⟨x, hx, rfl⟩
    obtain ⟨h1, h2⟩ := List.mem_filter.1 hx
    simp only [Bool.and_eq_true, beq_iff_eq, decide_eq_true_eq] at h2
    exact ⟨(x.a - n0).toNat, by omega, by omega, x, h1, h2.1.1, by omega⟩
  · rintro ⟨k, rfl, hk, x, hx, h1, h2⟩
    refine ⟨x, List.mem_filter.2 ⟨hx, ?_⟩, by omega⟩
    simp only [Bool.and_eq_true, beq_iff_eq, decide_eq_true_eq]
    exact ⟨⟨h1, by omega⟩, by omega⟩
/-- sorted, and equal ones joined: the called functions in order -/
theorem calls_sorted (xs : List Ins) (n0 : Int) (nf : Nat) : compactL ((callsO xs n0 nf).mergeSort fun x y => decide (x ≤ y)) = callsB xs n0 nf := by
  refine sorted_ext (compactL_sorted _ ?_) (callsB_sorted xs n0 nf) (fun a => ?_)
  · refine (List.pairwise_mergeSort (le := fun x y => decide (x ≤ y)) ?_ ?_ _).imp (fun h => by simpa using h)
    · intro a b c h1 h2; simp only [decide_eq_true_eq] at *; omega
    · intro a b; simp only [Bool.or_eq_true, decide_eq_true_eq]; omega
  · rw [compactL_mem, List.mem_mergeSort, mem_callsO]
end Go.Proofs.YtmkgfccfnpmcjaaDoor
