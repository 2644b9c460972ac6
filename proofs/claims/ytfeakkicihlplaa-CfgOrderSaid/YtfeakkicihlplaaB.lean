/- Rows of structs of the call's own, given by a function from places to cells; blocks of a body read in a world. -/
import Derived.Test.YtfeakkicihlplaaD
namespace Go.Proofs.Ytfeakkicihlplaa
open Go.RowKit

theorem flat_len (s : Nat) (f : Nat → List Value) : ∀ n, (∀ i, i < n → (f i).length = s) → ((List.range n).flatMap f).length = n * s
  | 0, _ => by simp
  | n + 1, h => by
    rw [List.range_succ, List.flatMap_append, List.length_append, flat_len s f n (fun i hi => h i (by omega))]
    simp [h n (by omega), Nat.succ_mul]
theorem flat_get (s : Nat) (f : Nat → List Value) : ∀ n, (∀ i, i < n → (f i).length = s) → ∀ i j, i < n → j < s → ((List.range n).flatMap f)[i * s + j]? = (f i)[j]?
  | 0, _, _, _, hi, _ => by omega
  | n + 1, h, i, j, hi, hj => by
    have hl := flat_len s f n (fun i hi => h i (by omega))
    rw [List.range_succ, List.flatMap_append]
    by_cases e : i = n
    · subst e
      rw [List.getElem?_append_right (by rw [hl]; omega), hl]
      simp [Nat.add_sub_cancel_left]
    · have : i * s + j < n * s := by
        have : (i + 1) * s ≤ n * s := Nat.mul_le_mul_right _ (by omega)
        rw [Nat.succ_mul] at this; omega
      rw [List.getElem?_append_left (by rw [hl]; exact this)]
      exact flat_get s f n (fun i hi => h i (by omega)) i j (by omega) hj
/-- f with the cells of place i changed -/
def upd (f : Nat → List Value) (i : Nat) (c : List Value) : Nat → List Value := fun k => if k = i then c else f k
theorem upd_same (f : Nat → List Value) (i : Nat) (c : List Value) : upd f i c i = c := by simp [upd]
theorem upd_other (f : Nat → List Value) {i k : Nat} (c : List Value) (h : k ≠ i) : upd f i c k = f k := by simp [upd, h]
theorem flat_congr {f g : Nat → List Value} : ∀ {n : Nat}, (∀ i, i < n → f i = g i) → (List.range n).flatMap f = (List.range n).flatMap g
  | 0, _ => by simp
  | n + 1, h => by
    rw [List.range_succ, List.flatMap_append, List.flatMap_append, flat_congr (fun i hi => h i (by omega))]
    simp [h n (by omega)]
theorem flat_set (s : Nat) (f : Nat → List Value) (u : Value) : ∀ n, (∀ i, i < n → (f i).length = s) → ∀ i j, i < n → j < s → ((List.range n).flatMap f).set (i * s + j) u = (List.range n).flatMap (upd f i ((f i).set j u))
  | 0, _, _, _, hi, _ => by omega
  | n + 1, h, i, j, hi, hj => by
    have hl := flat_len s f n (fun i hi => h i (by omega))
    rw [List.range_succ, List.flatMap_append, List.flatMap_append]
    by_cases e : i = n
    · subst e
      rw [List.set_append_right _ _ (by rw [hl]; omega), hl, Nat.add_sub_cancel_left]
      congr 1
      · exact flat_congr (fun k hk => (upd_other f _ (by omega)).symm)
      · simp [upd]
    · have : i * s + j < n * s := by
        have : (i + 1) * s ≤ n * s := Nat.mul_le_mul_right _ (by omega)
        rw [Nat.succ_mul] at this; omega
      rw [List.set_append_left _ _ (by rw [hl]; exact this), flat_set s f u n (fun i hi => h i (by omega)) i j (by omega) hj]
      congr 1
      simp [upd, Ne.symm e]

/-- v is a slice of n elements of s cells of the call's own; element i has the cells f i -/
structure OwnF (base T s : Nat) (w : World) (v : Value) (n : Nat) (f : Nat → List Value) : Prop where
  own : w.ownsRow base T s v n ((List.range n).flatMap f)
  len : ∀ i, i < n → (f i).length = s

theorem OwnF.nil (base T s : Nat) (w : World) (f : Nat → List Value) : OwnF base T s w (.slice none 0 0) 0 f := ⟨World.ownsRow_nil w base T s, fun _ h => by omega⟩
theorem OwnF.chg {S : Nat → Prop} {base T s n : Nat} {w w' : World} {v : Value} {f : Nat → List Value} (h : OwnF base T s w v n f) (hc : Chg S w w') (hd : ∀ k, v.ownBlock = some k → ¬ S k) : OwnF base T s w' v n f := ⟨own_chg h.own hc hd, h.len⟩
theorem OwnF.ext {base T s n : Nat} {w w' : World} {v : Value} {f : Nat → List Value} (h : OwnF base T s w v n f) (hc : Ext w w') : OwnF base T s w' v n f := h.chg hc (fun _ _ h => h)
theorem OwnF.lt {base T s n : Nat} {w : World} {v : Value} {f : Nat → List Value} (h : OwnF base T s w v n f) : ∀ k, v.ownBlock = some k → base ≤ k ∧ k < w.heap.size := h.own.lt
theorem OwnF.slice {base T s n : Nat} {w : World} {v : Value} {f : Nat → List Value} (h : OwnF base T s w v n f) : ∃ p cap, v = .slice p n cap ∧ n ≤ cap ∧ cap ≤ maxLen ∧ (0 < n → ∃ g, p = some ⟨g, 0, none⟩ ∧ base ≤ g ∧ g < w.heap.size) := own_slice h.own
theorem OwnF.cell {base T s n g cap : Nat} {w : World} {f : Nat → List Value} (h : OwnF base T s w (.slice (some ⟨g, 0, none⟩) n cap) n f) {i j : Nat} {u : Value} (hi : i < n) (hu : (f i)[j]? = some u) : w.cell? ⟨g, 0 + i * s + j, none⟩ = some u := by
  have hj : j < s := by rw [← h.len i hi]; exact (List.getElem?_eq_some_iff.1 hu).1
  have hlt : i * s + j < n * s := by
    have : (i + 1) * s ≤ n * s := Nat.mul_le_mul_right _ (by omega)
    rw [Nat.succ_mul] at this; omega
  rw [Nat.zero_add, h.own.cellAt (i * s + j) hlt, flat_get s f n h.len i j hi hj, hu]
theorem OwnF.free {base T s n g cap : Nat} {w : World} {f : Nat → List Value} (h : OwnF base T s w (.slice (some ⟨g, 0, none⟩) n cap) n f) (j : Nat) : w.frozen? ⟨g, j, none⟩ = false := h.own.frozenAt j
theorem OwnF.set {base T s n g cap : Nat} {w : World} {f : Nat → List Value} (h : OwnF base T s w (.slice (some ⟨g, 0, none⟩) n cap) n f) {i j : Nat} (hi : i < n) (hj : j < s) (u : Value) :
    OwnF base T s (w.setCell ⟨g, 0 + i * s + j, none⟩ u) (.slice (some ⟨g, 0, none⟩) n cap) n (upd f i ((f i).set j u)) ∧ Chg (fun k => k = g) w (w.setCell ⟨g, 0 + i * s + j, none⟩ u) := by
  rw [Nat.zero_add]
  obtain ⟨h1, h2⟩ := h.own.stored (i * s + j) u
  refine ⟨⟨by rw [← flat_set s f u n h.len i j hi hj]; exact h1, fun k hk => ?_⟩, (Chg.ofGrown h2).mono (fun k _ e => by cases e; rfl)⟩
  by_cases e : k = i
  · subst e; rw [upd_same]; simpa using h.len k hk
  · rw [upd_other _ _ e]; exact h.len k hk
theorem OwnF.congr {base T s n : Nat} {w : World} {v : Value} {f g : Nat → List Value} (h : OwnF base T s w v n f) (e : ∀ i, i < n → f i = g i) : OwnF base T s w v n g :=
  ⟨by rw [← flat_congr e]; exact h.own, fun i hi => by rw [← e i hi]; exact h.len i hi⟩
theorem OwnF.pop {base T s n g cap : Nat} {w : World} {f : Nat → List Value} (h : OwnF base T s w (.slice (some ⟨g, 0, none⟩) (n + 1) cap) (n + 1) f) : OwnF base T s w (.slice (some ⟨g, 0, none⟩) n cap) n f := by
  refine ⟨?_, fun i hi => h.len i (by omega)⟩
  have h1 := h.own
  rw [List.range_succ, List.flatMap_append] at h1
  exact ownsRow_pop (flat_len s f n (fun i hi => h.len i (by omega))) h1
theorem OwnF.ofNew {w w' : World} {c : List Value} {T base : Nat} (h : New w w' c T) (hb : base ≤ w.heap.size) : OwnF base T c.length w' (.slice (some ⟨w.heap.size, 0, none⟩) 1 1) 1 (fun _ => c) :=
  ⟨by have := own_new (n := 1) (size := c.length) h hb (by unfold maxLen; omega) (by simp); simpa using this, fun _ _ => rfl⟩

/-- append of one element, a struct, onto such a row -/
theorem OwnF.appB {n : Nat} {E : Env} {w : World} {t : TypeId} {v : Value} {x y : Operand} {ti te : TI}
    {base T s m bk : Nat} {f : Nat → List Value} {c : List Value} (hown : OwnF base T s w v m f) (ht : G.ty t = some ti) (he : ti.elem = some T) (hte : G.ty T = some te) (hs : te.size = s) (hzs : te.zero.cells.size = te.size) (hsz : 0 < te.size) (hbt : te.bytes ≤ 1000)
    (hx : ev E x = some v) (hy : ev E y = some (.slice (some ⟨bk, 0, none⟩) 1 1)) (hb : base ≤ w.heap.size) (hc : Blk w bk c T) (hcl : c.length = s) (h1 : ∀ u ∈ c, u.oneCell' = true) (hlen : m ≤ 100000000000) :
    Eff G n (.call ⟨.builtin .append, #[x, y], #[t, t]⟩) E w (fun v' w' => OwnF base T s w' v' (m + 1) (upd f m c) ∧ Chg (fun k => v.ownBlock = some k) w w' ∧ (v'.ownBlock = v.ownBlock ∨ v'.ownBlock = some w.heap.size)) := by
  subst hs
  refine (Eff.appendB (G := G) (ti := ti) (te := te) (e := T) (base := base) (len := m) (m := 1) (c := 1) (bk := bk) (of_ := 0) (xs := (List.range m).flatMap f) (news := c) ht he hte hzs hsz hx hown.own hy (by rw [hcl]; omega) ?_ h1 ?_ ?_ hb).mono ?_
  · intro j u hj
    rw [Nat.zero_add]; exact hc.cell hj
  · unfold maxLen; omega
  · have := Nat.mul_le_mul (show m + 1 ≤ 100000000001 by omega) hbt; omega
  · rintro v' w' ⟨h2, h3⟩
    refine ⟨⟨?_, fun i hi => ?_⟩, h3⟩
    · rw [List.range_succ, List.flatMap_append, flat_congr (fun k hk => upd_other f c (by omega))]
      simpa [upd] using h2
    · by_cases e : i = m
      · subst e; rw [upd_same]; exact hcl
      · rw [upd_other _ _ e]; exact hown.len i (by omega)

theorem OwnF.app {n : Nat} {E : Env} {w : World} {t : TypeId} {v : Value} {x y : Operand} {ti te : TI}
    {base T s m bk : Nat} {f : Nat → List Value} {c : List Value} (hown : OwnF base T s w v m f) (ht : G.ty t = some ti) (he : ti.elem = some T) (hte : G.ty T = some te) (hs : te.size = s) (hzs : te.zero.cells.size = te.size) (hsz : 0 < te.size) (hbt : te.bytes ≤ 1000)
    (hx : ev E x = some v) (hy : ev E y = some (.slice (some ⟨bk, 0, none⟩) 1 1)) (hb : base ≤ w.heap.size) (hc : Blk w bk c T) (hcl : c.length = s) (h1 : ∀ u ∈ c, u.oneCell' = true) (hlen : m ≤ 100000000000) :
    Eff G n (.call ⟨.builtin .append, #[x, y], #[t, t]⟩) E w (fun v' w' => OwnF base T s w' v' (m + 1) (upd f m c) ∧ Chg (fun k => v.ownBlock = some k) w w') :=
  (hown.appB ht he hte hs hzs hsz hbt hx hy hb hc hcl h1 hlen).mono fun _ _ h => ⟨h.1, h.2.1⟩

/-- a block of a body: its range, what comes after it, whether it is reached -/
structure Bk where
  fr : Int
  to : Int
  next : List Int
  live : Bool
  deriving Inhabited, DecidableEq

/-- the cells of a block -/
def bkC (x : Bk) (nv : Value) : List Value := [.int .i64 x.fr, .int .i64 x.to, nv, .bool x.live]

/-- v is a slice of blocks that reads bs; nvs: the slices of the successors -/
def BlocksN (F : Nat → Prop) (w : World) (v : Value) (bs : List Bk) (nvs : List Value) : Prop :=
  ∃ p cap, v = .slice p bs.length cap ∧ bs.length ≤ 2932031007317 ∧ nvs.length = bs.length ∧ (∀ i, i < bs.length → IntsR F w (ix nvs i) (ix bs i).next) ∧
    (bs = [] ∨ ∃ b off, p = some ⟨b, off, none⟩ ∧ F b ∧ ∀ i, i < bs.length → ∀ j, j < 4 → w.cell? ⟨b, off + i * 4 + j, none⟩ = (bkC (ix bs i) (ix nvs i))[j]?)
theorem BlocksN.chg {F S : Nat → Prop} {w w' : World} {v : Value} {bs : List Bk} {nvs : List Value} (h : BlocksN F w v bs nvs) (hc : Chg S w w') (hd : ∀ k, k < w.heap.size → F k → ¬ S k) : BlocksN F w' v bs nvs := by
  obtain ⟨p, cap, rfl, hl, hn, hi, h⟩ := h
  refine ⟨p, cap, rfl, hl, hn, fun i h1 => (hi i h1).chg hc hd, ?_⟩
  rcases h with h | ⟨b, off, hp, hF, h⟩
  · exact .inl h
  · refine .inr ⟨b, off, hp, hF, fun i h1 j h2 => ?_⟩
    have h3 := h i h1 j h2
    have h4 : ∃ u, (bkC (ix bs i) (ix nvs i))[j]? = some u := ⟨_, List.getElem?_eq_getElem (by simpa [bkC] using h2)⟩
    obtain ⟨u, h4⟩ := h4
    rw [h4] at h3 ⊢
    exact hc.cell (hd b (cell_lt h3) hF) h3
/-- v is a slice of blocks that reads bs -/
def BlocksR (F : Nat → Prop) (w : World) (v : Value) (bs : List Bk) : Prop := ∃ nvs, BlocksN F w v bs nvs
theorem BlocksR.chg {F S : Nat → Prop} {w w' : World} {v : Value} {bs : List Bk} (h : BlocksR F w v bs) (hc : Chg S w w') (hd : ∀ k, k < w.heap.size → F k → ¬ S k) : BlocksR F w' v bs := h.imp fun _ h => h.chg hc hd
theorem BlocksR.ext {F : Nat → Prop} {w w' : World} {v : Value} {bs : List Bk} (h : BlocksR F w v bs) (hc : Ext w w') : BlocksR F w' v bs := h.chg hc (fun _ _ _ h => h)
theorem BlocksN.slice {F : Nat → Prop} {w : World} {v : Value} {bs : List Bk} {nvs : List Value} (h : BlocksN F w v bs nvs) : ∃ p cap, v = .slice p bs.length cap ∧ bs.length ≤ 2932031007317 := by
  obtain ⟨p, cap, rfl, hl, _⟩ := h
  exact ⟨p, cap, rfl, hl⟩
/-- the cells of block i, one by one -/
structure BkAt (F : Nat → Prop) (w : World) (b o : Nat) (x : Bk) (nv : Value) : Prop where
  fr : w.cell? ⟨b, o, none⟩ = some (.int .i64 x.fr)
  to : w.cell? ⟨b, o + 1, none⟩ = some (.int .i64 x.to)
  nx : w.cell? ⟨b, o + 2, none⟩ = some nv
  live : w.cell? ⟨b, o + 3, none⟩ = some (.bool x.live)
  next : IntsR F w nv x.next
theorem BlocksN.at {F : Nat → Prop} {w : World} {p : Option Addr} {n cap : Nat} {bs : List Bk} {nvs : List Value} (h : BlocksN F w (.slice p n cap) bs nvs) {i : Nat} (hi : i < bs.length) :
    ∃ b off, p = some ⟨b, off, none⟩ ∧ F b ∧ ∀ i, i < bs.length → BkAt F w b (off + i * 4) (ix bs i) (ix nvs i) := by
  obtain ⟨p', cap', e, hl, hn, hx, h⟩ := h
  cases e
  rcases h with h | ⟨b, off, hp, hF, h⟩
  · subst h; cases hi
  · exact ⟨b, off, hp, hF, fun i hi => ⟨h i hi 0 (by omega), h i hi 1 (by omega), h i hi 2 (by omega), h i hi 3 (by omega), hx i hi⟩⟩

/-- a row of blocks of the call's own, read -/
theorem OwnF.blocks {base T n : Nat} {w : World} {v : Value} {f : Nat → List Value} (h : OwnF base T 4 w v n f) {F : Nat → Prop} {bs : List Bk} {nvs : List Value} (hn : n = bs.length) (hl : n ≤ 2932031007317) (hnv : nvs.length = bs.length) (hf : ∀ i, i < n → f i = bkC (ix bs i) (ix nvs i))
    (hx : ∀ i, i < n → IntsR F w (ix nvs i) (ix bs i).next) (hF : ∀ k, v.ownBlock = some k → F k) : BlocksN F w v bs nvs := by
  subst hn
  obtain ⟨p, cap, rfl, h1, h2, h3⟩ := h.slice
  refine ⟨p, cap, rfl, hl, hnv, hx, ?_⟩
  by_cases h0 : bs = []
  · exact .inl h0
  · obtain ⟨g, rfl, h4, h5⟩ := h3 (List.length_pos_iff.2 h0)
    refine .inr ⟨g, 0, rfl, hF g rfl, fun i hi j hj => ?_⟩
    have h6 : ∃ u, (f i)[j]? = some u := ⟨_, List.getElem?_eq_getElem (by rw [h.len i hi]; exact hj)⟩
    obtain ⟨u, h6⟩ := h6
    rw [h.cell hi h6, ← hf i hi, h6]

/-- v is a slice of slices of numbers that reads rs -/
def RowsR (F : Nat → Prop) (w : World) (v : Value) (rs : List (List Int)) : Prop :=
  ∃ p cap, v = .slice p rs.length cap ∧ rs.length ≤ 5864062014634 ∧
    (rs = [] ∨ ∃ b off, p = some ⟨b, off, none⟩ ∧ F b ∧ ∀ i, i < rs.length → ∃ u, w.cell? ⟨b, off + i, none⟩ = some u ∧ IntsR F w u (ix rs i))
theorem RowsR.chg {F S : Nat → Prop} {w w' : World} {v : Value} {rs : List (List Int)} (h : RowsR F w v rs) (hc : Chg S w w') (hd : ∀ k, k < w.heap.size → F k → ¬ S k) : RowsR F w' v rs := by
  obtain ⟨p, cap, rfl, hl, h⟩ := h
  refine ⟨p, cap, rfl, hl, ?_⟩
  rcases h with h | ⟨b, off, hp, hF, h⟩
  · exact .inl h
  · refine .inr ⟨b, off, hp, hF, fun i hi => ?_⟩
    obtain ⟨u, h1, h2⟩ := h i hi
    exact ⟨u, hc.cell (hd b (cell_lt h1) hF) h1, h2.chg hc hd⟩
theorem RowsR.slice {F : Nat → Prop} {w : World} {v : Value} {rs : List (List Int)} (h : RowsR F w v rs) : ∃ p cap, v = .slice p rs.length cap ∧ rs.length ≤ 5864062014634 := by
  obtain ⟨p, cap, rfl, hl, _⟩ := h
  exact ⟨p, cap, rfl, hl⟩
theorem RowsR.at {F : Nat → Prop} {w : World} {p : Option Addr} {n cap : Nat} {rs : List (List Int)} (h : RowsR F w (.slice p n cap) rs) {i : Nat} (hi : i < rs.length) :
    ∃ b off, p = some ⟨b, off, none⟩ ∧ F b ∧ ∀ i, i < rs.length → ∃ u, w.cell? ⟨b, off + i, none⟩ = some u ∧ IntsR F w u (ix rs i) := by
  obtain ⟨p', cap', e, hl, h⟩ := h
  cases e
  rcases h with h | ⟨b, off, hp, hF, h⟩
  · subst h; cases hi
  · exact ⟨b, off, hp, hF, h⟩

end Go.Proofs.Ytfeakkicihlplaa
