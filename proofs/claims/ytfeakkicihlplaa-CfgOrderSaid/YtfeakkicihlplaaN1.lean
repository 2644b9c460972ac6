/- Walks of package nest: none and look. -/
import Derived.Test.YtfeakkicihlplaaN0
import Derived.Test.YtfeakkicihlplaaR5
import Derived.Test.YtfeakkicihlplaaK2
namespace Go.Proofs.Ytfeakkicihlplaa
open Go.RowKit

/-- a whole new slice of n elements in block g -/
abbrev sl (g n : Nat) : Value := .slice (some ⟨g, 0, none⟩) n n

theorem nest_none (n : Nat) (w : World) (hn : n ≤ 1000000000000) :
    Calls G.P 57 #[.int .i64 n] w fun e w' => e = .returned (sl w.heap.size n) ∧ OwnI w.heap.size w' (sl w.heap.size n) (List.replicate n (-1)) ∧ Ext w w' ∧ w.heap.size < w'.heap.size := by
  refine enter (G := G) Try.func57 rfl Try.ntmps57 rfl ?_
  refine wgo ?_
  refine Ops.e (Eff.make (base := w.heap.size) rfl rfl rfl rfl (by show 8 * n ≤ _; omega) (by unfold maxLen; omega) (Nat.le_refl _)) rfl ?_
  rintro _ w1 ⟨rfl, hm1, hx1, hsz1⟩
  have hm2 : OwnI w.heap.size w1 (sl w.heap.size n) (List.replicate n 0) := by
    have h3 : w1.ownsRow w.heap.size 3 1 (sl w.heap.size n) n (madeCells #[.int .i64 0] (n * 1)).toList := hm1
    rw [Nat.mul_one, toList_madeCells_one] at h3
    unfold OwnI; simpa using h3
  refine wgo ?_
  refine Cd.loop (σ := Nat) (fun s => [(3, sl w.heap.size n), (8, .int .i64 n), (9, .int .i64 s)]) (fun s wr => s ≤ n ∧ OwnI w.heap.size wr (sl w.heap.size n) (List.replicate s (-1) ++ List.replicate (n - s) 0) ∧ Ext w wr ∧ w.heap.size < wr.heap.size) (fun s => n - s) 0 wsub ⟨Nat.zero_le _, by simpa using hm2, hx1, hsz1⟩ ?_
  rintro s wr ⟨hs, hown, hext, hsz⟩
  by_cases hlt : s < n
  · have hcl := hown.get (i := s) (by simp; omega)
    refine wgo ?_
    refine Ops.e0 (Eff.store rfl rfl rfl rfl rfl hcl (hown.free _)) ?_
    rintro _ _ rfl
    obtain ⟨hs1, hs2⟩ := hown.set s (-1)
    refine wgo ?_
    refine Fin.next (s + 1) wsub ⟨by omega, ?_, hext.trans' hs2 (fun i hi e => by omega), by simpa [World.setCell] using hsz⟩ (by omega)
    have e : (List.replicate s (-1 : Int) ++ List.replicate (n - s) 0).set s (-1) = List.replicate (s + 1) (-1) ++ List.replicate (n - (s + 1)) 0 := by
      rw [List.set_append_right _ _ (by simp), show n - s = (n - (s + 1)) + 1 by omega, List.replicate_succ, List.length_replicate, Nat.sub_self, List.set_cons_zero, List.replicate_succ' (n := s)]
      simp
    rw [e] at hs1; exact hs1
  · obtain rfl : s = n := by omega
    refine wgo ?_
    refine Fin.ret1 rfl rfl ⟨rfl, by simpa using hown, hext, hsz⟩

/-- what look holds in a round: the result's block rb, the four rows, the struct's block sb, the stack of open blocks -/
structure LS (w0 wr : World) (rb e1 e2 e3 e4 sb n : Nat) (E1 E2 E3 E4 : List Int) (ov : Value) (m : Nat) (f : Nat → List Value) : Prop where
  ext : Ext w0 wr
  ord : w0.heap.size ≤ rb ∧ rb < e1 ∧ e1 < e2 ∧ e2 < e3 ∧ e3 < e4 ∧ e4 < sb ∧ sb < wr.heap.size
  res : Blk wr rb [.slice none 0 0, .slice none 0 0, .slice none 0 0, .slice none 0 0] 77
  sh : Blk wr sb [sl e1 n, sl e2 n, sl e3 n, sl e4 n] 77
  o1 : OwnI w0.heap.size wr (sl e1 n) E1
  o2 : OwnI w0.heap.size wr (sl e2 n) E2
  o3 : OwnI w0.heap.size wr (sl e3 n) E3
  o4 : OwnI w0.heap.size wr (sl e4 n) E4
  op : OwnF w0.heap.size 93 2 wr ov m f
  ob : ∀ k, ov.ownBlock = some k → sb < k

theorem LS.chg {S : Nat → Prop} {w0 wr w' : World} {rb e1 e2 e3 e4 sb n : Nat} {E1 E2 E3 E4 : List Int} {ov : Value} {m : Nat} {f : Nat → List Value} (h : LS w0 wr rb e1 e2 e3 e4 sb n E1 E2 E3 E4 ov m f) (hc : Chg S wr w') (hS : ∀ k, S k → sb < k ∧ ov.ownBlock ≠ some k) : LS w0 w' rb e1 e2 e3 e4 sb n E1 E2 E3 E4 ov m f := by
  have ho := h.ord
  have key : ∀ e, e ≤ sb → ∀ k, (sl e n).ownBlock = some k → ¬ S k := fun e he k hk hs => by
    have e2 : e = k := Option.some.inj hk
    have := (hS k hs).1; omega
  exact ⟨h.ext.trans' hc (fun i hi hs => by have := (hS i hs).1; omega), by have := hc.size; omega, h.res.chg hc (fun hs => by have := (hS _ hs).1; omega), h.sh.chg hc (fun hs => by have := (hS _ hs).1; omega),
    own_chg h.o1 hc (key e1 (by omega)), own_chg h.o2 hc (key e2 (by omega)), own_chg h.o3 hc (key e3 (by omega)), own_chg h.o4 hc (key e4 (by omega)), h.op.chg hc (fun k hk hs => (hS k hs).2 hk), h.ob⟩

theorem LS.set1 {w0 wr : World} {rb e1 e2 e3 e4 sb n : Nat} {E1 E2 E3 E4 : List Int} {ov : Value} {m : Nat} {f : Nat → List Value} (h : LS w0 wr rb e1 e2 e3 e4 sb n E1 E2 E3 E4 ov m f) (i : Nat) (a : Int) :
    LS w0 (wr.setCell ⟨e1, 0 + i, none⟩ (.int .i64 a)) rb e1 e2 e3 e4 sb n (E1.set i a) E2 E3 E4 ov m f := by
  obtain ⟨hs1, hs2⟩ := h.o1.set i a
  have hz : (wr.setCell ⟨e1, 0 + i, none⟩ (.int .i64 a)).heap.size = wr.heap.size := by simp [World.setCell]
  have ho := h.ord
  exact ⟨h.ext.trans' hs2 (fun q hq e => by omega), by rw [hz]; exact ho, h.res.chg hs2 (fun e => by omega), h.sh.chg hs2 (fun e => by omega), hs1, own_chg h.o2 hs2 (fun q hq e => by have e2 : e2 = q := Option.some.inj hq; have := h.ord; omega), own_chg h.o3 hs2 (fun q hq e => by have e2 : e3 = q := Option.some.inj hq; have := h.ord; omega), own_chg h.o4 hs2 (fun q hq e => by have e2 : e4 = q := Option.some.inj hq; have := h.ord; omega), h.op.chg hs2 (fun q hq e => by have := h.ob q hq; omega), h.ob⟩


theorem LS.set2 {w0 wr : World} {rb e1 e2 e3 e4 sb n : Nat} {E1 E2 E3 E4 : List Int} {ov : Value} {m : Nat} {f : Nat → List Value} (h : LS w0 wr rb e1 e2 e3 e4 sb n E1 E2 E3 E4 ov m f) (i : Nat) (a : Int) :
    LS w0 (wr.setCell ⟨e2, 0 + i, none⟩ (.int .i64 a)) rb e1 e2 e3 e4 sb n E1 (E2.set i a) E3 E4 ov m f := by
  obtain ⟨hs1, hs2⟩ := h.o2.set i a
  have hz : (wr.setCell ⟨e2, 0 + i, none⟩ (.int .i64 a)).heap.size = wr.heap.size := by simp [World.setCell]
  have ho := h.ord
  exact ⟨h.ext.trans' hs2 (fun q hq e => by omega), by rw [hz]; exact ho, h.res.chg hs2 (fun e => by omega), h.sh.chg hs2 (fun e => by omega), own_chg h.o1 hs2 (fun q hq e => by have e2 : e1 = q := Option.some.inj hq; have := h.ord; omega), hs1, own_chg h.o3 hs2 (fun q hq e => by have e2 : e3 = q := Option.some.inj hq; have := h.ord; omega), own_chg h.o4 hs2 (fun q hq e => by have e2 : e4 = q := Option.some.inj hq; have := h.ord; omega), h.op.chg hs2 (fun q hq e => by have := h.ob q hq; omega), h.ob⟩


theorem LS.set3 {w0 wr : World} {rb e1 e2 e3 e4 sb n : Nat} {E1 E2 E3 E4 : List Int} {ov : Value} {m : Nat} {f : Nat → List Value} (h : LS w0 wr rb e1 e2 e3 e4 sb n E1 E2 E3 E4 ov m f) (i : Nat) (a : Int) :
    LS w0 (wr.setCell ⟨e3, 0 + i, none⟩ (.int .i64 a)) rb e1 e2 e3 e4 sb n E1 E2 (E3.set i a) E4 ov m f := by
  obtain ⟨hs1, hs2⟩ := h.o3.set i a
  have hz : (wr.setCell ⟨e3, 0 + i, none⟩ (.int .i64 a)).heap.size = wr.heap.size := by simp [World.setCell]
  have ho := h.ord
  exact ⟨h.ext.trans' hs2 (fun q hq e => by omega), by rw [hz]; exact ho, h.res.chg hs2 (fun e => by omega), h.sh.chg hs2 (fun e => by omega), own_chg h.o1 hs2 (fun q hq e => by have e2 : e1 = q := Option.some.inj hq; have := h.ord; omega), own_chg h.o2 hs2 (fun q hq e => by have e2 : e2 = q := Option.some.inj hq; have := h.ord; omega), hs1, own_chg h.o4 hs2 (fun q hq e => by have e2 : e4 = q := Option.some.inj hq; have := h.ord; omega), h.op.chg hs2 (fun q hq e => by have := h.ob q hq; omega), h.ob⟩


theorem LS.set4 {w0 wr : World} {rb e1 e2 e3 e4 sb n : Nat} {E1 E2 E3 E4 : List Int} {ov : Value} {m : Nat} {f : Nat → List Value} (h : LS w0 wr rb e1 e2 e3 e4 sb n E1 E2 E3 E4 ov m f) (i : Nat) (a : Int) :
    LS w0 (wr.setCell ⟨e4, 0 + i, none⟩ (.int .i64 a)) rb e1 e2 e3 e4 sb n E1 E2 E3 (E4.set i a) ov m f := by
  obtain ⟨hs1, hs2⟩ := h.o4.set i a
  have hz : (wr.setCell ⟨e4, 0 + i, none⟩ (.int .i64 a)).heap.size = wr.heap.size := by simp [World.setCell]
  have ho := h.ord
  exact ⟨h.ext.trans' hs2 (fun q hq e => by omega), by rw [hz]; exact ho, h.res.chg hs2 (fun e => by omega), h.sh.chg hs2 (fun e => by omega), own_chg h.o1 hs2 (fun q hq e => by have e2 : e1 = q := Option.some.inj hq; have := h.ord; omega), own_chg h.o2 hs2 (fun q hq e => by have e2 : e2 = q := Option.some.inj hq; have := h.ord; omega), own_chg h.o3 hs2 (fun q hq e => by have e2 : e3 = q := Option.some.inj hq; have := h.ord; omega), hs1, h.op.chg hs2 (fun q hq e => by have := h.ob q hq; omega), h.ob⟩


theorem LS.setO {w0 wr : World} {rb e1 e2 e3 e4 sb n : Nat} {E1 E2 E3 E4 : List Int} {g cap m : Nat} {f : Nat → List Value} (h : LS w0 wr rb e1 e2 e3 e4 sb n E1 E2 E3 E4 (.slice (some ⟨g, 0, none⟩) m cap) m f) {i j : Nat} (hi : i < m) (hj : j < 2) (u : Value) :
    LS w0 (wr.setCell ⟨g, 0 + i * 2 + j, none⟩ u) rb e1 e2 e3 e4 sb n E1 E2 E3 E4 (.slice (some ⟨g, 0, none⟩) m cap) m (upd f i ((f i).set j u)) := by
  obtain ⟨hs1, hs2⟩ := h.op.set hi hj u
  have hz : (wr.setCell ⟨g, 0 + i * 2 + j, none⟩ u).heap.size = wr.heap.size := by simp [World.setCell]
  have ho := h.ord
  have hg := h.ob g rfl
  have key : ∀ e, e ≤ sb → ∀ k, (sl e n).ownBlock = some k → ¬ k = g := fun e he k hk hs => by
    have e2 : e = k := Option.some.inj hk
    omega
  exact ⟨h.ext.trans' hs2 (fun q hq e => by omega), by rw [hz]; exact ho, h.res.chg hs2 (fun e => by omega), h.sh.chg hs2 (fun e => by omega),
    own_chg h.o1 hs2 (key e1 (by omega)), own_chg h.o2 hs2 (key e2 (by omega)), own_chg h.o3 hs2 (key e3 (by omega)), own_chg h.o4 hs2 (key e4 (by omega)), hs1, h.ob⟩
theorem LS.app {w0 wr w' : World} {rb e1 e2 e3 e4 sb n : Nat} {E1 E2 E3 E4 : List Int} {ov v' : Value} {m : Nat} {f f' : Nat → List Value} (h : LS w0 wr rb e1 e2 e3 e4 sb n E1 E2 E3 E4 ov m f) (ho : OwnF w0.heap.size 93 2 w' v' (m + 1) f') (hc : Chg (fun k => ov.ownBlock = some k) wr w') (hb : v'.ownBlock = ov.ownBlock ∨ v'.ownBlock = some wr.heap.size) :
    LS w0 w' rb e1 e2 e3 e4 sb n E1 E2 E3 E4 v' (m + 1) f' := by
  have hor := h.ord
  have hn : ∀ k, k ≤ sb → ov.ownBlock ≠ some k := fun k hk e => by have := h.ob k e; omega
  have key : ∀ e, e ≤ sb → ∀ k, (sl e n).ownBlock = some k → ¬ ov.ownBlock = some k := fun e he k hk => by
    have e2 : e = k := Option.some.inj hk
    exact hn k (by omega)
  refine ⟨h.ext.trans' hc (fun i hi hs => by have := h.ob i hs; omega), by have := hc.size; omega, h.res.chg hc (hn _ (by omega)), h.sh.chg hc (hn _ (by omega)),
    own_chg h.o1 hc (key e1 (by omega)), own_chg h.o2 hc (key e2 (by omega)), own_chg h.o3 hc (key e3 (by omega)), own_chg h.o4 hc (key e4 (by omega)), ho, fun k hk => ?_⟩
  rcases hb with e | e
  · rw [e] at hk; exact h.ob k hk
  · rw [e] at hk; cases hk; omega
theorem LS.pop {w0 wr : World} {rb e1 e2 e3 e4 sb n : Nat} {E1 E2 E3 E4 : List Int} {g cap m : Nat} {f : Nat → List Value} (h : LS w0 wr rb e1 e2 e3 e4 sb n E1 E2 E3 E4 (.slice (some ⟨g, 0, none⟩) (m + 1) cap) (m + 1) f) : LS w0 wr rb e1 e2 e3 e4 sb n E1 E2 E3 E4 (.slice (some ⟨g, 0, none⟩) m cap) m f :=
  ⟨h.ext, h.ord, h.res, h.sh, h.o1, h.o2, h.o3, h.o4, h.op.pop, h.ob⟩
theorem LS.congr {w0 wr : World} {rb e1 e2 e3 e4 sb n : Nat} {E1 E2 E3 E4 : List Int} {ov : Value} {m : Nat} {f g : Nat → List Value} (h : LS w0 wr rb e1 e2 e3 e4 sb n E1 E2 E3 E4 ov m f) (e : ∀ i, i < m → f i = g i) : LS w0 wr rb e1 e2 e3 e4 sb n E1 E2 E3 E4 ov m g :=
  ⟨h.ext, h.ord, h.res, h.sh, h.o1, h.o2, h.o3, h.o4, h.op.congr e, h.ob⟩

/-- the open blocks at place i -/
def opC (xs : List Ins) (i : Nat) (j : Nat) : List Value := [.int .i64 (ix (roundR xs i) j), .bool (hadOf xs (ix (roundR xs i) j) i)]

/-- what look gives -/
def LookPost (w : World) (xs : List Ins) (e : Ending) (w' : World) : Prop :=
  Ext w w' ∧ (((checkR xs).2 ≠ 0 ∧ e = .returned (.tuple #[.agg #[.slice none 0 0, .slice none 0 0, .slice none 0 0, .slice none 0 0], .int .i64 (checkR xs).1, .int .i64 (checkR xs).2])) ∨
   ((checkR xs).2 = 0 ∧ ∃ v1 v2 v3 v4, e = .returned (.tuple #[.agg #[v1, v2, v3, v4], .int .i64 (checkR xs).1, .int .i64 (checkR xs).2]) ∧ OwnI w.heap.size w' v1 (endsR xs) ∧ OwnI w.heap.size w' v2 (elsesR xs) ∧ OwnI w.heap.size w' v3 (depthsR xs) ∧ OwnI w.heap.size w' v4 (headsR xs)))
end Go.Proofs.Ytfeakkicihlplaa
