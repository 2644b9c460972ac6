/- Rules for a scope with a label (no goto taken). -/
import Derived.Test.YtmkgfccfnpmcjaaDoorJK
import Derived.Scope
import Derived.Test.YtmkgfccfnpmcjaaDoorJR6
import Derived.Test.YtmkgfccfnpmcjaaDoorJR4
import Derived.Test.YtmkgfccfnpmcjaaDoorJR5
namespace Go.Proofs.YtmkgfccfnpmcjaaDoor
open Go.RowKit
variable {G : Prg} {Q : Exit → Act → World → Prop} {n : Nat} {E : Env} {w : World}
theorem Cd.scope {c : Code} (h : Cd G (Exit.noGoto Q) n c E w) : Cd G Q n (.scope c) E w := ⟨fun a ha => wp_scope_straight (h.h a ha)⟩
theorem Fin.ngN (h : Fin Q n .normal E w) : Fin (Exit.noGoto Q) n .normal E w := ⟨fun a ha => h.h a ha⟩
theorem Fin.ngR (h : Fin Q n .ret E w) : Fin (Exit.noGoto Q) n .ret E w := ⟨fun a ha => h.h a ha⟩
theorem Fin.ngX {id : Nat} (h : Fin Q n (.exit id) E w) : Fin (Exit.noGoto Q) n (.exit id) E w := ⟨fun a ha => h.h a ha⟩
end Go.Proofs.YtmkgfccfnpmcjaaDoor
/- Walks of the reference of layer 36: Preds. -/
namespace Go.Proofs.YtmkgfccfnpmcjaaDoor
open Go.RowKit

/-- the blocks that lead to block i, among the first k -/
def predTo (bs : List Bk) (i k : Nat) : List Int := ((List.range k).filter (fun j => (ix bs j).next.contains (i : Int))).map (fun j : Nat => (j : Int))
def predsR (bs : List Bk) : List (List Int) := (List.range bs.length).map (fun i => predTo bs i bs.length)
theorem predTo_len (bs : List Bk) (i k : Nat) : (predTo bs i k).length ≤ k := by
  unfold predTo; rw [List.length_map]; have := List.length_filter_le (fun j => (ix bs j).next.contains (i : Int)) (List.range k); simpa using this
theorem predTo_succ (bs : List Bk) (i k : Nat) : predTo bs i (k + 1) = if (ix bs k).next.contains (i : Int) then predTo bs i k ++ [(k : Int)] else predTo bs i k := by
  unfold predTo
  rw [List.range_succ, List.filter_append, List.map_append]
  by_cases h : (ix bs k).next.contains (i : Int) = true
  · rw [if_pos h, List.filter_cons_of_pos (by exact h)]; rfl
  · rw [if_neg h, List.filter_cons_of_neg (by exact h)]; simp

/-- rows of slices of the call's own, read -/
theorem OwnF.rows {base T n : Nat} {w : World} {v : Value} {f : Nat → List Value} (h : OwnF base T 1 w v n f) {F : Nat → Prop} {rs : List (List Int)} {rvs : List Value} (hn : n = rs.length) (hl : n ≤ 1000000000) (hf : ∀ i, i < n → f i = [ix rvs i])
    (hx : ∀ i, i < n → IntsR F w (ix rvs i) (ix rs i)) (hF : ∀ k, v.ownBlock = some k → F k) : RowsR F w v rs := by
  subst hn
  obtain ⟨p, cap, rfl, h1, h2, h3⟩ := h.slice
  refine ⟨p, cap, rfl, by omega, ?_⟩
  by_cases h0 : rs = []
  · exact .inl h0
  · obtain ⟨g, rfl, h4, h5⟩ := h3 (List.length_pos_iff.2 h0)
    refine .inr ⟨g, 0, rfl, hF g rfl, fun i hi => ⟨ix rvs i, ?_, hx i hi⟩⟩
    have := h.cell (i := i) (j := 0) (u := ix rvs i) hi (by rw [hf i hi]; rfl)
    simpa using this

theorem ix_append_left {α : Type} [Inhabited α] {l m : List α} {i : Nat} (h : i < l.length) : ix (l ++ m) i = ix l i := by
  rw [ix_eq h, ix_eq (by rw [List.length_append]; omega), List.getElem_append_left h]
theorem ix_append_last {α : Type} [Inhabited α] {l : List α} {a : α} {i : Nat} (h : i = l.length) : ix (l ++ [a]) i = a := by
  subst h; rw [ix_eq (by simp)]; simp
theorem ix_map_range {α : Type} [Inhabited α] {n : Nat} {f : Nat → α} {i : Nat} (h : i < n) : ix ((List.range n).map f) i = f i := by
  rw [ix_eq (by simpa using h)]; simp
theorem ix_set_same {α : Type} [Inhabited α] {l : List α} {i : Nat} {a : α} (h : i < l.length) : ix (l.set i a) i = a := by
  rw [ix_eq (by simpa using h)]; simp
theorem ix_set_other {α : Type} [Inhabited α] {l : List α} {i j : Nat} {a : α} (h : j ≠ i) : ix (l.set i a) j = ix l j := by
  unfold ix; rw [List.getD_eq_getElem?_getD, List.getD_eq_getElem?_getD, List.getElem?_set_ne (Ne.symm h)]

end Go.Proofs.YtmkgfccfnpmcjaaDoor
/- Plain laws about the blocks round a place (no program in sight), and a rule for results of which the first is a struct in memory. -/
namespace Go.Proofs.YtmkgfccfnpmcjaaDoor
open Go.RowKit

theorem round_sorted (xs : List Ins) (k : Nat) : (roundR xs k).Pairwise (· < ·) := by
  induction k with
  | zero => simp [roundR]
  | succ k ih =>
    have h1 : ∀ l : List Int, l = roundR xs k → ((if opensB (ix xs k).op then l ++ [(k : Int)] else l) : List Int).Pairwise (· < ·) := by
      rintro l rfl
      split
      · rw [List.pairwise_append]
        refine ⟨ih, by simp, fun a ha b hb => ?_⟩
        simp at hb; subst hb; exact (roundR_mem ha).2
      · exact ih
    have h2 : ∀ l : List Int, l.Pairwise (· < ·) → (if (ix xs k).op = 11 ∧ 0 < l.length then l.dropLast else l).Pairwise (· < ·) := by
      intro l hl
      split
      · exact hl.sublist (List.dropLast_sublist _)
      · exact hl
    exact h2 _ (h1 _ rfl)
theorem round_inj {xs : List Ins} {k i j : Nat} (hi : i < (roundR xs k).length) (hj : j < (roundR xs k).length) (h : ix (roundR xs k) i = ix (roundR xs k) j) : i = j := by
  rw [ix_eq hi, ix_eq hj] at h
  have hs := round_sorted xs k
  rw [List.pairwise_iff_getElem] at hs
  rcases Nat.lt_trichotomy i j with h1 | h1 | h1
  · have := hs i j hi hj h1; omega
  · exact h1
  · have := hs j i hj hi h1; omega

theorem elsedR_succ (xs : List Ins) (h i : Nat) : elsedR xs h (i + 1) = (elsedR xs h i || elseAt xs h i) := by
  unfold elsedR; rw [List.range_succ, List.any_append]; simp
/-- the block that a opened has its else before i -/
def hadOf (xs : List Ins) (a : Int) (i : Nat) : Bool := decide (0 ≤ a) && elsedR xs a.toNat i
theorem hadOf_other {xs : List Ins} {a : Int} {i : Nat} (h : (ix xs i).op ≠ 5) : hadOf xs a (i + 1) = hadOf xs a i := by
  unfold hadOf; rw [elsedR_succ]
  have : elseAt xs a.toNat i = false := by simp [elseAt, h]
  rw [this, Bool.or_false]
theorem hadOf_new {xs : List Ins} {i : Nat} : hadOf xs (i : Int) (i + 1) = false := by
  unfold hadOf
  rw [elsedR_false (fun j hj => by simp only [elseAt, decide_eq_false_iff_not, Int.toNat_natCast]; omega)]
  simp
theorem hadOf_last {xs : List Ins} {i h : Nat} (h5 : (ix xs i).op = 5) (hz : 0 < (roundR xs i).length) (hl : lastI (roundR xs i) = h) (hi : h < i) : hadOf xs (h : Int) (i + 1) = true := by
  unfold hadOf
  rw [elsedR_true (i := i) (by omega) (by simp [elseAt, h5, hz, hl, hi])]
  simp
theorem hadOf_not_last {xs : List Ins} {i : Nat} {a : Int} (hl : lastI (roundR xs i) ≠ a) : hadOf xs a (i + 1) = hadOf xs a i := by
  unfold hadOf
  by_cases h0 : 0 ≤ a
  · rw [elsedR_succ]
    have : elseAt xs a.toNat i = false := by
      simp only [elseAt, decide_eq_false_iff_not]
      rintro ⟨_, _, _, h⟩
      rw [Int.toNat_of_nonneg h0] at h; exact hl h
    rw [this, Bool.or_false]
  · simp [h0]

theorem round_open {xs : List Ins} {i : Nat} (h : opensB (ix xs i).op = true) : roundR xs (i + 1) = roundR xs i ++ [(i : Int)] := by
  have h11 : (ix xs i).op ≠ 11 := by simp [opensB] at h; omega
  show stepR _ _ _ = _
  unfold stepR; simp [h, h11]
theorem round_end {xs : List Ins} {i : Nat} (h : (ix xs i).op = 11) (hz : 0 < (roundR xs i).length) : roundR xs (i + 1) = (roundR xs i).dropLast := by
  show stepR _ _ _ = _
  unfold stepR; simp [h, opensB]
  intro h0; simp [h0] at hz
theorem round_plain {xs : List Ins} {i : Nat} (h : opensB (ix xs i).op = false) (h11 : (ix xs i).op ≠ 11) : roundR xs (i + 1) = roundR xs i := by
  show stepR _ _ _ = _
  unfold stepR; simp [h, h11]
theorem round_32 {xs : List Ins} : ∀ (i : Nat), (∀ j, j < i → checkAt xs j = none) → (roundR xs i).length ≤ 32
  | 0, _ => by simp [roundR]
  | i + 1, h => by
    have ih := round_32 i (fun j hj => h j (by omega))
    have hc := h i (by omega)
    cases ho : opensB (ix xs i).op with
    | true =>
      rw [round_open ho, List.length_append]
      unfold checkAt at hc
      dsimp only at hc
      split at hc
      · cases hc
      · split at hc
        · cases hc
        · split at hc
          · cases hc
          · rename_i h32; simp only [ho, true_and] at h32; simp; omega
    | false =>
      by_cases h11 : (ix xs i).op = 11
      · by_cases hz : 0 < (roundR xs i).length
        · rw [round_end h11 hz]; simp; omega
        · have : roundR xs (i + 1) = roundR xs i := by
            show stepR _ _ _ = _
            unfold stepR; simp [ho]; intro _ h; simp [h] at hz
          rw [this]; exact ih
      · rw [round_plain ho h11]; exact ih

/-- how deep each of the first k instructions lies, and what opened the block round it -/
def depthsTo (xs : List Ins) : Nat → List Int
  | 0 => List.replicate xs.length (-1)
  | k + 1 => (depthsTo xs k).set k (roundR xs k).length
def headsTo (xs : List Ins) : Nat → List Int
  | 0 => List.replicate xs.length (-1)
  | k + 1 => (headsTo xs k).set k (lastI (roundR xs k))
theorem depthsTo_len (xs : List Ins) (k : Nat) : (depthsTo xs k).length = xs.length := by induction k with
  | zero => simp [depthsTo]
  | succ k ih => simp [depthsTo, ih]
theorem headsTo_len (xs : List Ins) (k : Nat) : (headsTo xs k).length = xs.length := by induction k with
  | zero => simp [headsTo]
  | succ k ih => simp [headsTo, ih]
theorem depthsTo_ix {xs : List Ins} {k i : Nat} (hi : i < k) (hk : k ≤ xs.length) : ix (depthsTo xs k) i = (roundR xs i).length := by
  induction k with
  | zero => omega
  | succ k ih =>
    rw [depthsTo]
    by_cases e : i = k
    · subst e; rw [ix_set_same (by rw [depthsTo_len]; omega)]
    · rw [ix_set_other e]; exact ih (by omega) (by omega)
theorem headsTo_ix {xs : List Ins} {k i : Nat} (hi : i < k) (hk : k ≤ xs.length) : ix (headsTo xs k) i = lastI (roundR xs i) := by
  induction k with
  | zero => omega
  | succ k ih =>
    rw [headsTo]
    by_cases e : i = k
    · subst e; rw [ix_set_same (by rw [headsTo_len]; omega)]
    · rw [ix_set_other e]; exact ih (by omega) (by omega)
def depthsR (xs : List Ins) : List Int := depthsTo xs xs.length
def headsR (xs : List Ins) : List Int := headsTo xs xs.length

/-- a result that is a struct in memory, and two more -/
theorem Fin.ret3c {fn : Func} {R : Ending → World → Prop} {n : Nat} {E : Env} {w : World} {a T t u b Tb s : Nat} {ti : TI} {v x : Value} {cs : List Value} (hr : fn.results = #[.cell a T, .tmp t, .tmp u]) (ha : lk E a = some (.pointer (some ⟨b, 0, none⟩))) (hT : G.ty T = some ti) (hag : ti.agg = true) (hsz : ti.size = s) (hb : Blk w b cs Tb) (hl : cs.length = s)
    (hv : lk E t = some v) (hx : lk E u = some x) (hR : R (.returned (.tuple #[.agg cs.toArray, v, x])) w) : Fin (bodyPost G.P fn R) n .ret E w :=
  Fin.ofRun (.inl rfl) (fun ac hac => by
    have h1 := (G.tyOk T ti hT).agg w
    have h2 := (G.tyOk T ti hT).size w
    rw [hag] at h1
    subst hl
    have h3 := run_loadCells (P := G.P) (w := w) (bk := b) cs 0 0 #[] (fun j hj => by
      have := hb.cell (j := j) (List.getElem?_eq_getElem hj)
      rw [List.getElem?_eq_getElem hj, ← this]; simp)
    have g1 : ac.tmps[a]?.getD undef = .pointer (some ⟨b, 0, none⟩) := by have := (hac.eq a _ ha).2; simpa using this
    have g2 : ac.tmps[t]?.getD undef = v := by have := (hac.eq t _ hv).2; simpa using this
    have g3 : ac.tmps[u]?.getD undef = x := by have := (hac.eq u _ hx).2; simpa using this
    simp [results, hr, g1, g2, g3, asAddr, loadVar, h1, h2, hsz, loadCells, h3]) hR
end Go.Proofs.YtmkgfccfnpmcjaaDoor
/- Walks of package nest: none and look. -/
namespace Go.Proofs.YtmkgfccfnpmcjaaDoor
open Go.RowKit

/-- a whole new slice of n elements in block g -/
abbrev sl (g n : Nat) : Value := .slice (some ⟨g, 0, none⟩) n n

theorem nest_none (n : Nat) (w : World) (hn : n ≤ 1000000000000) :
    Calls G.P 59 #[.int .i64 n] w fun e w' => e = .returned (sl w.heap.size n) ∧ OwnI w.heap.size w' (sl w.heap.size n) (List.replicate n (-1)) ∧ Ext w w' ∧ w.heap.size < w'.heap.size := by
  refine enter (G := G) Tryd.func59 rfl Tryd.ntmps59 rfl ?_
  refine wgo ?_
  refine Ops.e (Eff.make (base := w.heap.size) rfl rfl rfl rfl (by show 8 * n ≤ _; omega) (by unfold maxLen; omega) (Nat.le_refl _)) rfl ?_
  rintro _ w1 ⟨rfl, hm1, hx1, hsz1⟩
  have hm2 : OwnI w.heap.size w1 (sl w.heap.size n) (List.replicate n 0) := by
    have h3 : w1.ownsRow w.heap.size 3 1 (sl w.heap.size n) n (madeCells #[.int .i64 0] (n * 1)).toList := hm1
    rw [Nat.mul_one, toList_madeCells_one] at h3
    unfold OwnI; simpa using h3
  refine wgo ?_
  refine Cd.loop (σ := Nat) (fun s => [(3, sl w.heap.size n), (8, .int .i64 n), (9, .int .i64 s)]) (fun s wr => s ≤ n ∧ OwnI w.heap.size wr (sl w.heap.size n) (List.replicate s (-1) ++ List.replicate (n - s) 0) ∧ Ext w wr ∧ w.heap.size < wr.heap.size) (fun s => n - s) 0 wsub ⟨Nat.zero_le _, by simpa using hm2, hx1, hsz1⟩ ?_
  rintro s wr ⟨hs, hown, hext, hsz⟩
  by_cases hlt : s < n
  · have hcl := hown.get (i := s) (by simp; omega)
    refine wgo ?_
    refine Ops.e0 (Eff.store rfl rfl rfl rfl rfl hcl (hown.free _)) ?_
    rintro _ _ rfl
    obtain ⟨hs1, hs2⟩ := hown.set s (-1)
    refine wgo ?_
    refine Fin.next (s + 1) wsub ⟨by omega, ?_, hext.trans' hs2 (fun i hi e => by omega), by simpa [World.setCell] using hsz⟩ (by omega)
    have e : (List.replicate s (-1 : Int) ++ List.replicate (n - s) 0).set s (-1) = List.replicate (s + 1) (-1) ++ List.replicate (n - (s + 1)) 0 := by
      rw [List.set_append_right _ _ (by simp), show n - s = (n - (s + 1)) + 1 by omega, List.replicate_succ, List.length_replicate, Nat.sub_self, List.set_cons_zero, List.replicate_succ' (n := s)]
      simp
    rw [e] at hs1; exact hs1
  · obtain rfl : s = n := by omega
    refine wgo ?_
    refine Fin.ret1 rfl rfl ⟨rfl, by simpa using hown, hext, hsz⟩

/-- what look holds in a round: the result's block rb, the four rows, the struct's block sb, the stack of open blocks -/
structure LS (w0 wr : World) (rb e1 e2 e3 e4 sb n : Nat) (E1 E2 E3 E4 : List Int) (ov : Value) (m : Nat) (f : Nat → List Value) : Prop where
  ext : Ext w0 wr
  ord : w0.heap.size ≤ rb ∧ rb < e1 ∧ e1 < e2 ∧ e2 < e3 ∧ e3 < e4 ∧ e4 < sb ∧ sb < wr.heap.size
  res : Blk wr rb [.slice none 0 0, .slice none 0 0, .slice none 0 0, .slice none 0 0] 123
  sh : Blk wr sb [sl e1 n, sl e2 n, sl e3 n, sl e4 n] 123
  o1 : OwnI w0.heap.size wr (sl e1 n) E1
  o2 : OwnI w0.heap.size wr (sl e2 n) E2
  o3 : OwnI w0.heap.size wr (sl e3 n) E3
  o4 : OwnI w0.heap.size wr (sl e4 n) E4
  op : OwnF w0.heap.size 150 2 wr ov m f
  ob : ∀ k, ov.ownBlock = some k → sb < k

theorem LS.chg {S : Nat → Prop} {w0 wr w' : World} {rb e1 e2 e3 e4 sb n : Nat} {E1 E2 E3 E4 : List Int} {ov : Value} {m : Nat} {f : Nat → List Value} (h : LS w0 wr rb e1 e2 e3 e4 sb n E1 E2 E3 E4 ov m f) (hc : Chg S wr w') (hS : ∀ k, S k → sb < k ∧ ov.ownBlock ≠ some k) : LS w0 w' rb e1 e2 e3 e4 sb n E1 E2 E3 E4 ov m f := by
  have ho := h.ord
  have key : ∀ e, e ≤ sb → ∀ k, (sl e n).ownBlock = some k → ¬ S k := fun e he k hk hs => by
    have e2 : e = k := Option.some.inj hk
    have := (hS k hs).1; omega
  exact ⟨h.ext.trans' hc (fun i hi hs => by have := (hS i hs).1; omega), by have := hc.size; omega, h.res.chg hc (fun hs => by have := (hS _ hs).1; omega), h.sh.chg hc (fun hs => by have := (hS _ hs).1; omega),
    own_chg h.o1 hc (key e1 (by omega)), own_chg h.o2 hc (key e2 (by omega)), own_chg h.o3 hc (key e3 (by omega)), own_chg h.o4 hc (key e4 (by omega)), h.op.chg hc (fun k hk hs => (hS k hs).2 hk), h.ob⟩

theorem LS.set1 {w0 wr : World} {rb e1 e2 e3 e4 sb n : Nat} {E1 E2 E3 E4 : List Int} {ov : Value} {m : Nat} {f : Nat → List Value} (h : LS w0 wr rb e1 e2 e3 e4 sb n E1 E2 E3 E4 ov m f) (i : Nat) (a : Int) :
    LS w0 (wr.setCell ⟨e1, 0 + i, none⟩ (.int .i64 a)) rb e1 e2 e3 e4 sb n (E1.set i a) E2 E3 E4 ov m f := by
  obtain ⟨hs1, hs2⟩ := h.o1.set i a
  have hz : (wr.setCell ⟨e1, 0 + i, none⟩ (.int .i64 a)).heap.size = wr.heap.size := by simp [World.setCell]
  have ho := h.ord
  exact ⟨h.ext.trans' hs2 (fun q hq e => by omega), by rw [hz]; exact ho, h.res.chg hs2 (fun e => by omega), h.sh.chg hs2 (fun e => by omega), hs1, own_chg h.o2 hs2 (fun q hq e => by have e2 : e2 = q := Option.some.inj hq; have := h.ord; omega), own_chg h.o3 hs2 (fun q hq e => by have e2 : e3 = q := Option.some.inj hq; have := h.ord; omega), own_chg h.o4 hs2 (fun q hq e => by have e2 : e4 = q := Option.some.inj hq; have := h.ord; omega), h.op.chg hs2 (fun q hq e => by have := h.ob q hq; omega), h.ob⟩


theorem LS.set2 {w0 wr : World} {rb e1 e2 e3 e4 sb n : Nat} {E1 E2 E3 E4 : List Int} {ov : Value} {m : Nat} {f : Nat → List Value} (h : LS w0 wr rb e1 e2 e3 e4 sb n E1 E2 E3 E4 ov m f) (i : Nat) (a : Int) :
    LS w0 (wr.setCell ⟨e2, 0 + i, none⟩ (.int .i64 a)) rb e1 e2 e3 e4 sb n E1 (E2.set i a) E3 E4 ov m f := by
  obtain ⟨hs1, hs2⟩ := h.o2.set i a
  have hz : (wr.setCell ⟨e2, 0 + i, none⟩ (.int .i64 a)).heap.size = wr.heap.size := by simp [World.setCell]
  have ho := h.ord
  exact ⟨h.ext.trans' hs2 (fun q hq e => by omega), by rw [hz]; exact ho, h.res.chg hs2 (fun e => by omega), h.sh.chg hs2 (fun e => by omega), own_chg h.o1 hs2 (fun q hq e => by have e2 : e1 = q := Option.some.inj hq; have := h.ord; omega), hs1, own_chg h.o3 hs2 (fun q hq e => by have e2 : e3 = q := Option.some.inj hq; have := h.ord; omega), own_chg h.o4 hs2 (fun q hq e => by have e2 : e4 = q := Option.some.inj hq; have := h.ord; omega), h.op.chg hs2 (fun q hq e => by have := h.ob q hq; omega), h.ob⟩


theorem LS.set3 {w0 wr : World} {rb e1 e2 e3 e4 sb n : Nat} {E1 E2 E3 E4 : List Int} {ov : Value} {m : Nat} {f : Nat → List Value} (h : LS w0 wr rb e1 e2 e3 e4 sb n E1 E2 E3 E4 ov m f) (i : Nat) (a : Int) :
    LS w0 (wr.setCell ⟨e3, 0 + i, none⟩ (.int .i64 a)) rb e1 e2 e3 e4 sb n E1 E2 (E3.set i a) E4 ov m f := by
  obtain ⟨hs1, hs2⟩ := h.o3.set i a
  have hz : (wr.setCell ⟨e3, 0 + i, none⟩ (.int .i64 a)).heap.size = wr.heap.size := by simp [World.setCell]
  have ho := h.ord
  exact ⟨h.ext.trans' hs2 (fun q hq e => by omega), by rw [hz]; exact ho, h.res.chg hs2 (fun e => by omega), h.sh.chg hs2 (fun e => by omega), own_chg h.o1 hs2 (fun q hq e => by have e2 : e1 = q := Option.some.inj hq; have := h.ord; omega), own_chg h.o2 hs2 (fun q hq e => by have e2 : e2 = q := Option.some.inj hq; have := h.ord; omega), hs1, own_chg h.o4 hs2 (fun q hq e => by have e2 : e4 = q := Option.some.inj hq; have := h.ord; omega), h.op.chg hs2 (fun q hq e => by have := h.ob q hq; omega), h.ob⟩


theorem LS.set4 {w0 wr : World} {rb e1 e2 e3 e4 sb n : Nat} {E1 E2 E3 E4 : List Int} {ov : Value} {m : Nat} {f : Nat → List Value} (h : LS w0 wr rb e1 e2 e3 e4 sb n E1 E2 E3 E4 ov m f) (i : Nat) (a : Int) :
    LS w0 (wr.setCell ⟨e4, 0 + i, none⟩ (.int .i64 a)) rb e1 e2 e3 e4 sb n E1 E2 E3 (E4.set i a) ov m f := by
  obtain ⟨hs1, hs2⟩ := h.o4.set i a
  have hz : (wr.setCell ⟨e4, 0 + i, none⟩ (.int .i64 a)).heap.size = wr.heap.size := by simp [World.setCell]
  have ho := h.ord
  exact ⟨h.ext.trans' hs2 (fun q hq e => by omega), by rw [hz]; exact ho, h.res.chg hs2 (fun e => by omega), h.sh.chg hs2 (fun e => by omega), own_chg h.o1 hs2 (fun q hq e => by have e2 : e1 = q := Option.some.inj hq; have := h.ord; omega), own_chg h.o2 hs2 (fun q hq e => by have e2 : e2 = q := Option.some.inj hq; have := h.ord; omega), own_chg h.o3 hs2 (fun q hq e => by have e2 : e3 = q := Option.some.inj hq; have := h.ord; omega), hs1, h.op.chg hs2 (fun q hq e => by have := h.ob q hq; omega), h.ob⟩


theorem LS.setO {w0 wr : World} {rb e1 e2 e3 e4 sb n : Nat} {E1 E2 E3 E4 : List Int} {g cap m : Nat} {f : Nat → List Value} (h : LS w0 wr rb e1 e2 e3 e4 sb n E1 E2 E3 E4 (.slice (some ⟨g, 0, none⟩) m cap) m f) {i j : Nat} (hi : i < m) (hj : j < 2) (u : Value) :
    LS w0 (wr.setCell ⟨g, 0 + i * 2 + j, none⟩ u) rb e1 e2 e3 e4 sb n E1 E2 E3 E4 (.slice (some ⟨g, 0, none⟩) m cap) m (upd f i ((f i).set j u)) := by
  obtain ⟨hs1, hs2⟩ := h.op.set hi hj u
  have hz : (wr.setCell ⟨g, 0 + i * 2 + j, none⟩ u).heap.size = wr.heap.size := by simp [World.setCell]
  have ho := h.ord
  have hg := h.ob g rfl
  have key : ∀ e, e ≤ sb → ∀ k, (sl e n).ownBlock = some k → ¬ k = g := fun e he k hk hs => by
    have e2 : e = k := Option.some.inj hk
    omega
  exact ⟨h.ext.trans' hs2 (fun q hq e => by omega), by rw [hz]; exact ho, h.res.chg hs2 (fun e => by omega), h.sh.chg hs2 (fun e => by omega),
    own_chg h.o1 hs2 (key e1 (by omega)), own_chg h.o2 hs2 (key e2 (by omega)), own_chg h.o3 hs2 (key e3 (by omega)), own_chg h.o4 hs2 (key e4 (by omega)), hs1, h.ob⟩
theorem LS.app {w0 wr w' : World} {rb e1 e2 e3 e4 sb n : Nat} {E1 E2 E3 E4 : List Int} {ov v' : Value} {m : Nat} {f f' : Nat → List Value} (h : LS w0 wr rb e1 e2 e3 e4 sb n E1 E2 E3 E4 ov m f) (ho : OwnF w0.heap.size 150 2 w' v' (m + 1) f') (hc : Chg (fun k => ov.ownBlock = some k) wr w') (hb : v'.ownBlock = ov.ownBlock ∨ v'.ownBlock = some wr.heap.size) :
    LS w0 w' rb e1 e2 e3 e4 sb n E1 E2 E3 E4 v' (m + 1) f' := by
  have hor := h.ord
  have hn : ∀ k, k ≤ sb → ov.ownBlock ≠ some k := fun k hk e => by have := h.ob k e; omega
  have key : ∀ e, e ≤ sb → ∀ k, (sl e n).ownBlock = some k → ¬ ov.ownBlock = some k := fun e he k hk => by
    have e2 : e = k := Option.some.inj hk
    exact hn k (by omega)
  refine ⟨h.ext.trans' hc (fun i hi hs => by have := h.ob i hs; omega), by have := hc.size; omega, h.res.chg hc (hn _ (by omega)), h.sh.chg hc (hn _ (by omega)),
    own_chg h.o1 hc (key e1 (by omega)), own_chg h.o2 hc (key e2 (by omega)), own_chg h.o3 hc (key e3 (by omega)), own_chg h.o4 hc (key e4 (by omega)), ho, fun k hk => ?_⟩
  rcases hb with e | e
  · rw [e] at hk; exact h.ob k hk
  · rw [e] at hk; cases hk; omega
theorem LS.pop {w0 wr : World} {rb e1 e2 e3 e4 sb n : Nat} {E1 E2 E3 E4 : List Int} {g cap m : Nat} {f : Nat → List Value} (h : LS w0 wr rb e1 e2 e3 e4 sb n E1 E2 E3 E4 (.slice (some ⟨g, 0, none⟩) (m + 1) cap) (m + 1) f) : LS w0 wr rb e1 e2 e3 e4 sb n E1 E2 E3 E4 (.slice (some ⟨g, 0, none⟩) m cap) m f :=
  ⟨h.ext, h.ord, h.res, h.sh, h.o1, h.o2, h.o3, h.o4, h.op.pop, h.ob⟩
theorem LS.congr {w0 wr : World} {rb e1 e2 e3 e4 sb n : Nat} {E1 E2 E3 E4 : List Int} {ov : Value} {m : Nat} {f g : Nat → List Value} (h : LS w0 wr rb e1 e2 e3 e4 sb n E1 E2 E3 E4 ov m f) (e : ∀ i, i < m → f i = g i) : LS w0 wr rb e1 e2 e3 e4 sb n E1 E2 E3 E4 ov m g :=
  ⟨h.ext, h.ord, h.res, h.sh, h.o1, h.o2, h.o3, h.o4, h.op.congr e, h.ob⟩

/-- the open blocks at place i -/
def opC (xs : List Ins) (i : Nat) (j : Nat) : List Value := [.int .i64 (ix (roundR xs i) j), .bool (hadOf xs (ix (roundR xs i) j) i)]

/-- what look gives -/
def LookPost (w : World) (xs : List Ins) (e : Ending) (w' : World) : Prop :=
  Ext w w' ∧ (((checkR xs).2 ≠ 0 ∧ e = .returned (.tuple #[.agg #[.slice none 0 0, .slice none 0 0, .slice none 0 0, .slice none 0 0], .int .i64 (checkR xs).1, .int .i64 (checkR xs).2])) ∨
   ((checkR xs).2 = 0 ∧ ∃ v1 v2 v3 v4, e = .returned (.tuple #[.agg #[v1, v2, v3, v4], .int .i64 (checkR xs).1, .int .i64 (checkR xs).2]) ∧ OwnI w.heap.size w' v1 (endsR xs) ∧ OwnI w.heap.size w' v2 (elsesR xs) ∧ OwnI w.heap.size w' v3 (depthsR xs) ∧ OwnI w.heap.size w' v4 (headsR xs)))
end Go.Proofs.YtmkgfccfnpmcjaaDoor
