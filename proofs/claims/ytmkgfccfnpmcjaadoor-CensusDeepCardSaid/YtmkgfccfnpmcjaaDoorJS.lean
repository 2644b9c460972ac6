/- Rows of structs of the call's own, given by a function from places to cells; blocks of a body read in a world. -/
import Derived.Test.YtmkgfccfnpmcjaaDoorJE
namespace Go.Proofs.YtmkgfccfnpmcjaaDoor
open Go.RowKit

theorem flat_len (s : Nat) (f : Nat → List Value) : ∀ n, (∀ i, i < n → (f i).length = s) → ((List.range n).flatMap f).length = n * s
  | 0, _ => by simp
  | n + 1, h => by
    rw [List.range_succ, List.flatMap_append, List.length_append, flat_len s f n (fun i hi => h i (by omega))]
    simp [h n (by omega), Nat.succ_mul]
theorem flat_get (s : Nat) (f : Nat → List Value) : ∀ n, (∀ i, i < n → (f i).length = s) → ∀ i j, i < n → j < s → ((List.range n).flatMap f)[i * s + j]? = (f i)[j]?
  | 0, _, _, _, hi, _ => by omega
  | n + 1, h, i, j, hi, hj => by
    have hl := flat_len s f n (fun i hi => h i (by omega))
    rw [List.range_succ, List.flatMap_append]
    by_cases e : i = n
    · subst e
      rw [List.getElem?_append_right (by rw [hl]; omega), hl]
      simp [Nat.add_sub_cancel_left]
    · have : i * s + j < n * s := by
        have : (i + 1) * s ≤ n * s := Nat.mul_le_mul_right _ (by omega)
        rw [Nat.succ_mul] at this; omega
      rw [List.getElem?_append_left (by rw [hl]; exact this)]
      exact flat_get s f n (fun i hi => h i (by omega)) i j (by omega) hj
/-- f with the cells of place i changed -/
def upd (f : Nat → List Value) (i : Nat) (c : List Value) : Nat → List Value := fun k => if k = i then c else f k
theorem upd_same (f : Nat → List Value) (i : Nat) (c : List Value) : upd f i c i = c := by simp [upd]
theorem upd_other (f : Nat → List Value) {i k : Nat} (c : List Value) (h : k ≠ i) : upd f i c k = f k := by simp [upd, h]
theorem flat_congr {f g : Nat → List Value} : ∀ {n : Nat}, (∀ i, i < n → f i = g i) → (List.range n).flatMap f = (List.range n).flatMap g
  | 0, _ => by simp
  | n + 1, h => by
    rw [List.range_succ, List.flatMap_append, List.flatMap_append, flat_congr (fun i hi => h i (by omega))]
    simp [h n (by omega)]
theorem flat_set (s : Nat) (f : Nat → List Value) (u : Value) : ∀ n, (∀ i, i < n → (f i).length = s) → ∀ i j, i < n → j < s → ((List.range n).flatMap f).set (i * s + j) u = (List.range n).flatMap (upd f i ((f i).set j u))
  | 0, _, _, _, hi, _ => by omega
  | n + 1, h, i, j, hi, hj => by
    have hl := flat_len s f n (fun i hi => h i (by omega))
    rw [List.range_succ, List.flatMap_append, List.flatMap_append]
    by_cases e : i = n
    · subst e
      rw [List.set_append_right _ _ (by rw [hl]; omega), hl, Nat.add_sub_cancel_left]
      congr 1
      · exact flat_congr (fun k hk => (upd_other f _ (by omega)).symm)
      · simp [upd]
    · have : i * s + j < n * s := by
        have : (i + 1) * s ≤ n * s := Nat.mul_le_mul_right _ (by omega)
        rw [Nat.succ_mul] at this; omega
      rw [List.set_append_left _ _ (by rw [hl]; exact this), flat_set s f u n (fun i hi => h i (by omega)) i j (by omega) hj]
      congr 1
      simp [upd, Ne.symm e]

/-- v is a slice of n elements of s cells of the call's own; element i has the cells f i -/
structure OwnF (base T s : Nat) (w : World) (v : Value) (n : Nat) (f : Nat → List Value) : Prop where
  own : w.ownsRow base T s v n ((List.range n).flatMap f)
  len : ∀ i, i < n → (f i).length = s

theorem OwnF.nil (base T s : Nat) (w : World) (f : Nat → List Value) : OwnF base T s w (.slice none 0 0) 0 f := ⟨World.ownsRow_nil w base T s, fun _ h => by omega⟩
theorem OwnF.chg {S : Nat → Prop} {base T s n : Nat} {w w' : World} {v : Value} {f : Nat → List Value} (h : OwnF base T s w v n f) (hc : Chg S w w') (hd : ∀ k, v.ownBlock = some k → ¬ S k) : OwnF base T s w' v n f := ⟨own_chg h.own hc hd, h.len⟩
theorem OwnF.ext {base T s n : Nat} {w w' : World} {v : Value} {f : Nat → List Value} (h : OwnF base T s w v n f) (hc : Ext w w') : OwnF base T s w' v n f := h.chg hc (fun _ _ h => h)
theorem OwnF.lt {base T s n : Nat} {w : World} {v : Value} {f : Nat → List Value} (h : OwnF base T s w v n f) : ∀ k, v.ownBlock = some k → base ≤ k ∧ k < w.heap.size := h.own.lt
theorem OwnF.slice {base T s n : Nat} {w : World} {v : Value} {f : Nat → List Value} (h : OwnF base T s w v n f) : ∃ p cap, v = .slice p n cap ∧ n ≤ cap ∧ cap ≤ maxLen ∧ (0 < n → ∃ g, p = some ⟨g, 0, none⟩ ∧ base ≤ g ∧ g < w.heap.size) := own_slice h.own
theorem OwnF.cell {base T s n g cap : Nat} {w : World} {f : Nat → List Value} (h : OwnF base T s w (.slice (some ⟨g, 0, none⟩) n cap) n f) {i j : Nat} {u : Value} (hi : i < n) (hu : (f i)[j]? = some u) : w.cell? ⟨g, 0 + i * s + j, none⟩ = some u := by
  have hj : j < s := by rw [← h.len i hi]; exact (List.getElem?_eq_some_iff.1 hu).1
  have hlt : i * s + j < n * s := by
    have : (i + 1) * s ≤ n * s := Nat.mul_le_mul_right _ (by omega)
    rw [Nat.succ_mul] at this; omega
  rw [Nat.zero_add, h.own.cellAt (i * s + j) hlt, flat_get s f n h.len i j hi hj, hu]
theorem OwnF.free {base T s n g cap : Nat} {w : World} {f : Nat → List Value} (h : OwnF base T s w (.slice (some ⟨g, 0, none⟩) n cap) n f) (j : Nat) : w.frozen? ⟨g, j, none⟩ = false := h.own.frozenAt j
theorem OwnF.set {base T s n g cap : Nat} {w : World} {f : Nat → List Value} (h : OwnF base T s w (.slice (some ⟨g, 0, none⟩) n cap) n f) {i j : Nat} (hi : i < n) (hj : j < s) (u : Value) :
    OwnF base T s (w.setCell ⟨g, 0 + i * s + j, none⟩ u) (.slice (some ⟨g, 0, none⟩) n cap) n (upd f i ((f i).set j u)) ∧ Chg (fun k => k = g) w (w.setCell ⟨g, 0 + i * s + j, none⟩ u) := by
  rw [Nat.zero_add]
  obtain ⟨h1, h2⟩ := h.own.stored (i * s + j) u
  refine ⟨⟨by rw [← flat_set s f u n h.len i j hi hj]; exact h1, fun k hk => ?_⟩, (Chg.ofGrown h2).mono (fun k _ e => by cases e; rfl)⟩
  by_cases e : k = i
  · subst e; rw [upd_same]; simpa using h.len k hk
  · rw [upd_other _ _ e]; exact h.len k hk
theorem OwnF.congr {base T s n : Nat} {w : World} {v : Value} {f g : Nat → List Value} (h : OwnF base T s w v n f) (e : ∀ i, i < n → f i = g i) : OwnF base T s w v n g :=
  ⟨by rw [← flat_congr e]; exact h.own, fun i hi => by rw [← e i hi]; exact h.len i hi⟩
theorem OwnF.pop {base T s n g cap : Nat} {w : World} {f : Nat → List Value} (h : OwnF base T s w (.slice (some ⟨g, 0, none⟩) (n + 1) cap) (n + 1) f) : OwnF base T s w (.slice (some ⟨g, 0, none⟩) n cap) n f := by
  refine ⟨?_, fun i hi => h.len i (by omega)⟩
  have h1 := h.own
  rw [List.range_succ, List.flatMap_append] at h1
  exact ownsRow_pop (flat_len s f n (fun i hi => h.len i (by omega))) h1
theorem OwnF.ofNew {w w' : World} {c : List Value} {T base : Nat} (h : New w w' c T) (hb : base ≤ w.heap.size) : OwnF base T c.length w' (.slice (some ⟨w.heap.size, 0, none⟩) 1 1) 1 (fun _ => c) :=
  ⟨by have := own_new (n := 1) (size := c.length) h hb (by unfold maxLen; omega) (by simp); simpa using this, fun _ _ => rfl⟩

/-- append of one element, a struct, onto such a row -/
theorem OwnF.appB {n : Nat} {E : Env} {w : World} {t : TypeId} {v : Value} {x y : Operand} {ti te : TI}
    {base T s m bk : Nat} {f : Nat → List Value} {c : List Value} (hown : OwnF base T s w v m f) (ht : G.ty t = some ti) (he : ti.elem = some T) (hte : G.ty T = some te) (hs : te.size = s) (hzs : te.zero.cells.size = te.size) (hsz : 0 < te.size) (hbt : te.bytes ≤ 1000)
    (hx : ev E x = some v) (hy : ev E y = some (.slice (some ⟨bk, 0, none⟩) 1 1)) (hb : base ≤ w.heap.size) (hc : Blk w bk c T) (hcl : c.length = s) (h1 : ∀ u ∈ c, u.oneCell' = true) (hlen : m ≤ 100000000000) :
    Eff G n (.call ⟨.builtin .append, #[x, y], #[t, t]⟩) E w (fun v' w' => OwnF base T s w' v' (m + 1) (upd f m c) ∧ Chg (fun k => v.ownBlock = some k) w w' ∧ (v'.ownBlock = v.ownBlock ∨ v'.ownBlock = some w.heap.size)) := by
  subst hs
  refine (Eff.appendB (G := G) (ti := ti) (te := te) (e := T) (base := base) (len := m) (m := 1) (c := 1) (bk := bk) (of_ := 0) (xs := (List.range m).flatMap f) (news := c) ht he hte hzs hsz hx hown.own hy (by rw [hcl]; omega) ?_ h1 ?_ ?_ hb).mono ?_
  · intro j u hj
    rw [Nat.zero_add]; exact hc.cell hj
  · unfold maxLen; omega
  · have := Nat.mul_le_mul (show m + 1 ≤ 100000000001 by omega) hbt; omega
  · rintro v' w' ⟨h2, h3⟩
    refine ⟨⟨?_, fun i hi => ?_⟩, h3⟩
    · rw [List.range_succ, List.flatMap_append, flat_congr (fun k hk => upd_other f c (by omega))]
      simpa [upd] using h2
    · by_cases e : i = m
      · subst e; rw [upd_same]; exact hcl
      · rw [upd_other _ _ e]; exact hown.len i (by omega)

theorem OwnF.app {n : Nat} {E : Env} {w : World} {t : TypeId} {v : Value} {x y : Operand} {ti te : TI}
    {base T s m bk : Nat} {f : Nat → List Value} {c : List Value} (hown : OwnF base T s w v m f) (ht : G.ty t = some ti) (he : ti.elem = some T) (hte : G.ty T = some te) (hs : te.size = s) (hzs : te.zero.cells.size = te.size) (hsz : 0 < te.size) (hbt : te.bytes ≤ 1000)
    (hx : ev E x = some v) (hy : ev E y = some (.slice (some ⟨bk, 0, none⟩) 1 1)) (hb : base ≤ w.heap.size) (hc : Blk w bk c T) (hcl : c.length = s) (h1 : ∀ u ∈ c, u.oneCell' = true) (hlen : m ≤ 100000000000) :
    Eff G n (.call ⟨.builtin .append, #[x, y], #[t, t]⟩) E w (fun v' w' => OwnF base T s w' v' (m + 1) (upd f m c) ∧ Chg (fun k => v.ownBlock = some k) w w') :=
  (hown.appB ht he hte hs hzs hsz hbt hx hy hb hc hcl h1 hlen).mono fun _ _ h => ⟨h.1, h.2.1⟩

/-- a block of a body: its range, what comes after it, whether it is reached -/
structure Bk where
  fr : Int
  to : Int
  next : List Int
  live : Bool
  deriving Inhabited, DecidableEq

/-- the cells of a block -/
def bkC (x : Bk) (nv : Value) : List Value := [.int .i64 x.fr, .int .i64 x.to, nv, .bool x.live]

/-- v is a slice of blocks that reads bs; nvs: the slices of the successors -/
def BlocksN (F : Nat → Prop) (w : World) (v : Value) (bs : List Bk) (nvs : List Value) : Prop :=
  ∃ p cap, v = .slice p bs.length cap ∧ bs.length ≤ 2932031007317 ∧ nvs.length = bs.length ∧ (∀ i, i < bs.length → IntsR F w (ix nvs i) (ix bs i).next) ∧
    (bs = [] ∨ ∃ b off, p = some ⟨b, off, none⟩ ∧ F b ∧ ∀ i, i < bs.length → ∀ j, j < 4 → w.cell? ⟨b, off + i * 4 + j, none⟩ = (bkC (ix bs i) (ix nvs i))[j]?)
theorem BlocksN.chg {F S : Nat → Prop} {w w' : World} {v : Value} {bs : List Bk} {nvs : List Value} (h : BlocksN F w v bs nvs) (hc : Chg S w w') (hd : ∀ k, k < w.heap.size → F k → ¬ S k) : BlocksN F w' v bs nvs := by
  obtain ⟨p, cap, rfl, hl, hn, hi, h⟩ := h
  refine ⟨p, cap, rfl, hl, hn, fun i h1 => (hi i h1).chg hc hd, ?_⟩
  rcases h with h | ⟨b, off, hp, hF, h⟩
  · exact .inl h
  · refine .inr ⟨b, off, hp, hF, fun i h1 j h2 => ?_⟩
    have h3 := h i h1 j h2
    have h4 : ∃ u, (bkC (ix bs i) (ix nvs i))[j]? = some u := ⟨_, List.getElem?_eq_getElem (by simpa [bkC] using h2)⟩
    obtain ⟨u, h4⟩ := h4
    rw [h4] at h3 ⊢
    exact hc.cell (hd b (cell_lt h3) hF) h3
/-- v is a slice of blocks that reads bs -/
def BlocksR (F : Nat → Prop) (w : World) (v : Value) (bs : List Bk) : Prop := ∃ nvs, BlocksN F w v bs nvs
theorem BlocksR.chg {F S : Nat → Prop} {w w' : World} {v : Value} {bs : List Bk} (h : BlocksR F w v bs) (hc : Chg S w w') (hd : ∀ k, k < w.heap.size → F k → ¬ S k) : BlocksR F w' v bs := h.imp fun _ h => h.chg hc hd
theorem BlocksR.ext {F : Nat → Prop} {w w' : World} {v : Value} {bs : List Bk} (h : BlocksR F w v bs) (hc : Ext w w') : BlocksR F w' v bs := h.chg hc (fun _ _ _ h => h)
theorem BlocksN.slice {F : Nat → Prop} {w : World} {v : Value} {bs : List Bk} {nvs : List Value} (h : BlocksN F w v bs nvs) : ∃ p cap, v = .slice p bs.length cap ∧ bs.length ≤ 2932031007317 := by
  obtain ⟨p, cap, rfl, hl, _⟩ := h
  exact ⟨p, cap, rfl, hl⟩
/-- the cells of block i, one by one -/
structure BkAt (F : Nat → Prop) (w : World) (b o : Nat) (x : Bk) (nv : Value) : Prop where
  fr : w.cell? ⟨b, o, none⟩ = some (.int .i64 x.fr)
  to : w.cell? ⟨b, o + 1, none⟩ = some (.int .i64 x.to)
  nx : w.cell? ⟨b, o + 2, none⟩ = some nv
  live : w.cell? ⟨b, o + 3, none⟩ = some (.bool x.live)
  next : IntsR F w nv x.next
theorem BlocksN.at {F : Nat → Prop} {w : World} {p : Option Addr} {n cap : Nat} {bs : List Bk} {nvs : List Value} (h : BlocksN F w (.slice p n cap) bs nvs) {i : Nat} (hi : i < bs.length) :
    ∃ b off, p = some ⟨b, off, none⟩ ∧ F b ∧ ∀ i, i < bs.length → BkAt F w b (off + i * 4) (ix bs i) (ix nvs i) := by
  obtain ⟨p', cap', e, hl, hn, hx, h⟩ := h
  cases e
  rcases h with h | ⟨b, off, hp, hF, h⟩
  · subst h; cases hi
  · exact ⟨b, off, hp, hF, fun i hi => ⟨h i hi 0 (by omega), h i hi 1 (by omega), h i hi 2 (by omega), h i hi 3 (by omega), hx i hi⟩⟩

/-- a row of blocks of the call's own, read -/
theorem OwnF.blocks {base T n : Nat} {w : World} {v : Value} {f : Nat → List Value} (h : OwnF base T 4 w v n f) {F : Nat → Prop} {bs : List Bk} {nvs : List Value} (hn : n = bs.length) (hl : n ≤ 2932031007317) (hnv : nvs.length = bs.length) (hf : ∀ i, i < n → f i = bkC (ix bs i) (ix nvs i))
    (hx : ∀ i, i < n → IntsR F w (ix nvs i) (ix bs i).next) (hF : ∀ k, v.ownBlock = some k → F k) : BlocksN F w v bs nvs := by
  subst hn
  obtain ⟨p, cap, rfl, h1, h2, h3⟩ := h.slice
  refine ⟨p, cap, rfl, hl, hnv, hx, ?_⟩
  by_cases h0 : bs = []
  · exact .inl h0
  · obtain ⟨g, rfl, h4, h5⟩ := h3 (List.length_pos_iff.2 h0)
    refine .inr ⟨g, 0, rfl, hF g rfl, fun i hi j hj => ?_⟩
    have h6 : ∃ u, (f i)[j]? = some u := ⟨_, List.getElem?_eq_getElem (by rw [h.len i hi]; exact hj)⟩
    obtain ⟨u, h6⟩ := h6
    rw [h.cell hi h6, ← hf i hi, h6]

/-- v is a slice of slices of numbers that reads rs -/
def RowsR (F : Nat → Prop) (w : World) (v : Value) (rs : List (List Int)) : Prop :=
  ∃ p cap, v = .slice p rs.length cap ∧ rs.length ≤ 5864062014634 ∧
    (rs = [] ∨ ∃ b off, p = some ⟨b, off, none⟩ ∧ F b ∧ ∀ i, i < rs.length → ∃ u, w.cell? ⟨b, off + i, none⟩ = some u ∧ IntsR F w u (ix rs i))
theorem RowsR.chg {F S : Nat → Prop} {w w' : World} {v : Value} {rs : List (List Int)} (h : RowsR F w v rs) (hc : Chg S w w') (hd : ∀ k, k < w.heap.size → F k → ¬ S k) : RowsR F w' v rs := by
  obtain ⟨p, cap, rfl, hl, h⟩ := h
  refine ⟨p, cap, rfl, hl, ?_⟩
  rcases h with h | ⟨b, off, hp, hF, h⟩
  · exact .inl h
  · refine .inr ⟨b, off, hp, hF, fun i hi => ?_⟩
    obtain ⟨u, h1, h2⟩ := h i hi
    exact ⟨u, hc.cell (hd b (cell_lt h1) hF) h1, h2.chg hc hd⟩
theorem RowsR.slice {F : Nat → Prop} {w : World} {v : Value} {rs : List (List Int)} (h : RowsR F w v rs) : ∃ p cap, v = .slice p rs.length cap ∧ rs.length ≤ 5864062014634 := by
  obtain ⟨p, cap, rfl, hl, _⟩ := h
  exact ⟨p, cap, rfl, hl⟩
theorem RowsR.at {F : Nat → Prop} {w : World} {p : Option Addr} {n cap : Nat} {rs : List (List Int)} (h : RowsR F w (.slice p n cap) rs) {i : Nat} (hi : i < rs.length) :
    ∃ b off, p = some ⟨b, off, none⟩ ∧ F b ∧ ∀ i, i < rs.length → ∃ u, w.cell? ⟨b, off + i, none⟩ = some u ∧ IntsR F w u (ix rs i) := by
  obtain ⟨p', cap', e, hl, h⟩ := h
  cases e
  rcases h with h | ⟨b, off, hp, hF, h⟩
  · subst h; cases hi
  · exact ⟨b, off, hp, hF, h⟩

end Go.Proofs.YtmkgfccfnpmcjaaDoor
/- Walks of the small functions of the law and of the reference that only read: few, contains, has, Ints, ends, begins. -/
namespace Go.Proofs.YtmkgfccfnpmcjaaDoor
open Go.RowKit

/-- after such an instruction a block begins -/
def endsB (op : Int) : Bool := op == 3 || op == 4 || op == 5 || op == 12 || op == 13 || op == 14 || op == 15 || op == 0

theorem cfg_ends (op : Int) (w : World) : Calls G.P 35 #[.int .i64 op] w fun e w' => e = .returned (.bool (endsB op)) ∧ w = w' := by
  rcases (show op = 3 ∨ op = 4 ∨ op = 5 ∨ op = 12 ∨ op = 13 ∨ op = 14 ∨ op = 15 ∨ op = 0 ∨ (op ≠ 3 ∧ op ≠ 4 ∧ op ≠ 5 ∧ op ≠ 12 ∧ op ≠ 13 ∧ op ≠ 14 ∧ op ≠ 15 ∧ op ≠ 0) from by omega) with hc_ | hc_ | hc_ | hc_ | hc_ | hc_ | hc_ | hc_ | ⟨hc3_, hc4_, hc5_, hc12_, hc13_, hc14_, hc15_, hc0_⟩
  all_goals
    refine enter (G := G) Tryd.func35 rfl Tryd.ntmps35 rfl ?_
    refine wgo ?_
    refine Fin.ret1 rfl rfl ⟨?_, rfl⟩
    simp [endsB, *]

end Go.Proofs.YtmkgfccfnpmcjaaDoor
/- Walks of functions over blocks: turned, given, At, Same, Rows, few, small. -/
namespace Go.Proofs.YtmkgfccfnpmcjaaDoor
open Go.RowKit

/-- the first block from place k on that holds the place q -/
def atFrom (bs : List Bk) (q : Int) : Nat → Nat → Int
  | 0, _ => -1
  | f + 1, k => if (ix bs k).fr ≤ q ∧ q < (ix bs k).to then k else atFrom bs q f (k + 1)
def atB (bs : List Bk) (q : Int) : Int := atFrom bs q bs.length 0

end Go.Proofs.YtmkgfccfnpmcjaaDoor
/- Walks of the functions of package slices and cmp that the program calls at []int and at its blocks. -/
namespace Go.Proofs.YtmkgfccfnpmcjaaDoor
open Go.RowKit

theorem cmp_isNaN (a : Int) (w : World) : Calls G.P 61 #[.int .i64 a] w fun e w' => e = .returned (.bool false) ∧ w = w' := by
  refine enter (G := G) Tryd.func61 rfl Tryd.ntmps61 rfl ?_
  refine wgo ?_
  exact Fin.ret1 rfl rfl ⟨rfl, rfl⟩
theorem slices_isNaN (a : Int) (w : World) : Calls G.P 39 #[.int .i64 a] w fun e w' => e = .returned (.bool false) ∧ w = w' := by
  refine enter (G := G) Tryd.func39 rfl Tryd.ntmps39 rfl ?_
  refine wgo ?_
  exact Fin.ret1 rfl rfl ⟨rfl, rfl⟩
theorem cmp_Less (a b : Int) (w : World) : Calls G.P 38 #[.int .i64 a, .int .i64 b] w fun e w' => e = .returned (.bool (decide (a < b))) ∧ w = w' := by
  by_cases h : a < b
  all_goals
    refine enter (G := G) Tryd.func38 rfl Tryd.ntmps38 rfl ?_
    refine wgo ?_
    refine Ops.call rfl rfl rfl (cmp_isNaN _ _) ?_
    rintro _ _ ⟨rfl, rfl⟩
    refine ⟨_, rfl, ?_⟩
    refine wgo ?_
    exact Fin.ret1 rfl rfl ⟨by simp [h], rfl⟩

theorem slices_Clone (xs : List Int) (v : Value) (w : World) (hb : IntsR (fun _ => True) w v xs) :
    Calls G.P 37 #[v] w fun e w' => ∃ r, e = .returned r ∧ OwnI w.heap.size w' r xs ∧ Ext w w' := by
  obtain ⟨p, cap, rfl, hl⟩ := hb.slice
  refine enter (G := G) Tryd.func37 rfl Tryd.ntmps37 rfl ?_
  cases p with
  | none =>
    refine wgo ?_
    have : xs = [] := by
      cases xs with
      | nil => rfl
      | cons a r => obtain ⟨b, off, e, _⟩ := hb.at (i := 0) (by simp); cases e
    subst this
    exact Fin.ret1 rfl rfl ⟨_, rfl, OwnI.nil _ _, Chg.refl _ _⟩
  | some ad =>
    refine wgo ?_
    refine Ops.e (Eff.buildSlice (cs := []) (e := 3) rfl (by kernel_rfl)) rfl ?_
    rintro _ w2 ⟨rfl, hn2⟩
    refine wgo ?_
    refine Ops.e (Eff.appIs (base := w.heap.size) (xs := []) rfl rfl (OwnI.ofNew hn2 rfl (Nat.le_refl _) (by decide)) (hb.chg hn2.ext (fun _ _ _ h => h)) (by have := hn2.size; omega) (by simp; omega)) rfl ?_
    rintro v3 w3 ⟨hown3, hc3⟩
    refine wgo ?_
    refine Fin.ret1 rfl rfl ⟨_, rfl, hown3, hn2.ext.trans' hc3 (fun i hi h => ?_)⟩
    cases h
    exact (Nat.lt_irrefl _ hi).elim

theorem slices_BinarySearch (xs : List Int) (v : Value) (t : Int) (w : World) (hb : IntsR (fun _ => True) w v xs) (hs : ∀ a b, a ≤ b → b < xs.length → ix xs a ≤ ix xs b) :
    Calls G.P 23 #[v, .int .i64 t] w fun e w' => ∃ (i : Nat) (b : Bool), e = .returned (.tuple #[.int .i64 i, .bool b]) ∧ i ≤ xs.length ∧ (∀ k, k < i → ix xs k < t) ∧ (∀ k, i ≤ k → k < xs.length → t ≤ ix xs k) ∧ w = w' := by
  obtain ⟨p, cap, rfl, hl⟩ := hb.slice
  refine enter (G := G) Tryd.func23 rfl Tryd.ntmps23 rfl ?_
  refine wgo ?_
  refine Cd.loop (σ := Nat × Nat) (fun s => [(0, .slice p xs.length cap), (1, .int .i64 t), (6, .int .i64 xs.length), (7, .int .i64 s.1), (8, .int .i64 s.2)]) (fun s wr => s.1 ≤ s.2 ∧ s.2 ≤ xs.length ∧ (∀ k, k < s.1 → ix xs k < t) ∧ (∀ k, s.2 ≤ k → k < xs.length → t ≤ ix xs k) ∧ w = wr) (fun s => s.2 - s.1) (0, xs.length) wsub
    ⟨Nat.zero_le _, Nat.le_refl _, by omega, by omega, rfl⟩ ?_
  rintro ⟨i, j⟩ wr ⟨hij, hj, h1, h2, rfl⟩
  dsimp only at hij hj h1 h2 ⊢
  by_cases hlt : i < j
  · obtain ⟨b, off, rfl, -, hI⟩ := hb.at (i := i) (by omega)
    obtain ⟨m, hm⟩ : ∃ m : Nat, ((i : Int) + j) / 2 = m := ⟨(i + j) / 2, by omega⟩
    have hmi : i ≤ m ∧ m < j := by omega
    have hc := hI m (by omega)
    refine wgo ?_
    rw [hm]
    refine wgo ?_
    refine Ops.call rfl rfl rfl (cmp_Less _ _ _) ?_
    rintro _ _ ⟨rfl, rfl⟩
    refine ⟨_, rfl, ?_⟩
    by_cases hx : ix xs m < t
    · rw [decide_eq_true hx]
      refine wgo ?_
      refine Fin.next (m + 1, j) wsub ⟨by omega, hj, fun k hk => ?_, h2, rfl⟩ (by dsimp only; omega)
      have := hs k m (by omega) (by omega)
      omega
    · rw [decide_eq_false hx]
      refine wgo ?_
      refine Fin.next (i, m) wsub ⟨by omega, by omega, h1, fun k hk hk2 => ?_, rfl⟩ (by dsimp only; omega)
      have := hs m k hk hk2
      omega
  · obtain rfl : i = j := by omega
    by_cases hi : i < xs.length
    · obtain ⟨b, off, rfl, -, hI⟩ := hb.at hi
      have hc := hI i hi
      by_cases he : ix xs i = t
      · refine wgo ?_
        exact Fin.ret2 rfl rfl rfl ⟨i, _, rfl, hj, h1, h2, rfl⟩
      · refine wgo ?_
        refine Ops.callg rfl rfl rfl rfl (slices_isNaN _ _) ?_
        rintro _ _ ⟨rfl, rfl⟩
        refine ⟨_, rfl, ?_⟩
        refine wgo ?_
        exact Fin.ret2 rfl rfl rfl ⟨i, _, rfl, hj, h1, h2, rfl⟩
    · refine wgo ?_
      exact Fin.ret2 rfl rfl rfl ⟨i, _, rfl, hj, h1, h2, rfl⟩
end Go.Proofs.YtmkgfccfnpmcjaaDoor
