/- Rows of structs of the call's own, given by a function from places to cells; blocks of a body read in a world. -/
import Derived.Test.YtgbgnipidakdhaaGreatDoorJE
import Derived.Test.YtgbgnipidakdhaaGreatDoorJY
import Derived.Scope
import Derived.Test.YtgbgnipidakdhaaGreatDoorJG
namespace Go.Proofs.YtgbgnipidakdhaaGreatDoor
open Go.RowKit
theorem flat_len (s : Nat) (f : Nat → List Value) : ∀ n, (∀ i, i < n → (f i).length = s) → ((List.range n).flatMap f).length = n * s
  | 0, _ => by simp
  | n + 1, h => by
    rw [List.range_succ, List.flatMap_append, List.length_append, flat_len s f n (fun i hi => h i (by omega))]
    simp [h n (by omega), Nat.succ_mul]
theorem flat_get (s : Nat) (f : Nat → List Value) : ∀ n, (∀ i, i < n → (f i).length = s) → ∀ i j, i < n → j < s → ((List.range n).flatMap f)[i * s + j]? = (f i)[j]?
  | 0, _, _, _, hi, _ => by omega
  | n + 1, h, i, j, hi, hj => by
    have hl := flat_len s f n (fun i hi => h i (by omega))
    rw [List.range_succ, List.flatMap_append]
    by_cases e : i = n
    · subst e
      rw [List.getElem?_append_right (by rw [hl]; omega), hl]
      simp [Nat.add_sub_cancel_left]
    · have : i * s + j < n * s := by
        have : (i + 1) * s ≤ n * s := Nat.mul_le_mul_right _ (by omega)
        rw [Nat.succ_mul] at this; omega
      rw [List.getElem?_append_left (by rw [hl]; exact this)]
      exact flat_get s f n (fun i hi => h i (by omega)) i j (by omega) hj
def upd (f : Nat → List Value) (i : Nat) (c : List Value) : Nat → List Value := fun k => if k = i then c else f k
theorem upd_same (f : Nat → List Value) (i : Nat) (c : List Value) : upd f i c i = c := by simp [upd]
theorem upd_other (f : Nat → List Value) {i k : Nat} (c : List Value) (h : k ≠ i) : upd f i c k = f k := by simp [upd, h]
theorem flat_congr {f g : Nat → List Value} : ∀ {n : Nat}, (∀ i, i < n → f i = g i) → (List.range n).flatMap f = (List.range n).flatMap g
  | 0, _ => by simp
  | n + 1, h => by
    rw [List.range_succ, List.flatMap_append, List.flatMap_append, flat_congr (fun i hi => h i (by omega))]
    simp [h n (by omega)]
theorem flat_set (s : Nat) (f : Nat → List Value) (u : Value) : ∀ n, (∀ i, i < n → (f i).length = s) → ∀ i j, i < n → j < s → ((List.range n).flatMap f).set (i * s + j) u = (List.range n).flatMap (upd f i ((f i).set j u))
  | 0, _, _, _, hi, _ => by omega
  | n + 1, h, i, j, hi, hj => by
    have hl := flat_len s f n (fun i hi => h i (by omega))
    rw [List.range_succ, List.flatMap_append, List.flatMap_append]
    by_cases e : i = n
    · subst e
      rw [List.set_append_right _ _ (by rw [hl]; omega), hl, Nat.add_sub_cancel_left]
      congr 1
      · exact flat_congr (fun k hk => (upd_other f _ (by omega)).symm)
      · simp [upd]
    · have : i * s + j < n * s := by
        have : (i + 1) * s ≤ n * s := Nat.mul_le_mul_right _ (by omega)
        rw [Nat.succ_mul] at this; omega
      rw [List.set_append_left _ _ (by rw [hl]; exact this), flat_set s f u n (fun i hi => h i (by omega)) i j (by omega) hj]
      congr 1
      simp [upd, Ne.symm e]
structure OwnF (base T s : Nat) (w : World) (v : Value) (n : Nat) (f : Nat → List Value) : Prop where
  own : w.ownsRow base T s v n ((List.range n).flatMap f)
  len : ∀ i, i < n → (f i).length = s
theorem OwnF.nil (base T s : Nat) (w : World) (f : Nat → List Value) : OwnF base T s w (.slice none 0 0) 0 f := ⟨World.ownsRow_nil w base T s, fun _ h => by omega⟩
theorem OwnF.chg {S : Nat → Prop} {base T s n : Nat} {w w' : World} {v : Value} {f : Nat → List Value} (h : OwnF base T s w v n f) (hc : Chg S w w') (hd : ∀ k, v.ownBlock = some k → ¬ S k) : OwnF base T s w' v n f := ⟨own_chg h.own hc hd, h.len⟩
theorem OwnF.ext {base T s n : Nat} {w w' : World} {v : Value} {f : Nat → List Value} (h : OwnF base T s w v n f) (hc : Ext w w') : OwnF base T s w' v n f := h.chg hc (fun _ _ h => h)
theorem OwnF.lt {base T s n : Nat} {w : World} {v : Value} {f : Nat → List Value} (h : OwnF base T s w v n f) : ∀ k, v.ownBlock = some k → base ≤ k ∧ k < w.heap.size := h.own.lt
theorem OwnF.slice {base T s n : Nat} {w : World} {v : Value} {f : Nat → List Value} (h : OwnF base T s w v n f) : ∃ p cap, v = .slice p n cap ∧ n ≤ cap ∧ cap ≤ maxLen ∧ (0 < n → ∃ g, p = some ⟨g, 0, none⟩ ∧ base ≤ g ∧ g < w.heap.size) := own_slice h.own
theorem OwnF.cell {base T s n g cap : Nat} {w : World} {f : Nat → List Value} (h : OwnF base T s w (.slice (some ⟨g, 0, none⟩) n cap) n f) {i j : Nat} {u : Value} (hi : i < n) (hu : (f i)[j]? = some u) : w.cell? ⟨g, 0 + i * s + j, none⟩ = some u := by
  have hj : j < s := by rw [← h.len i hi]; exact (List.getElem?_eq_some_iff.1 hu).1
  have hlt : i * s + j < n * s := by
    have : (i + 1) * s ≤ n * s := Nat.mul_le_mul_right _ (by omega)
    rw [Nat.succ_mul] at this; omega
  rw [Nat.zero_add, h.own.cellAt (i * s + j) hlt, flat_get s f n h.len i j hi hj, hu]
theorem OwnF.free {base T s n g cap : Nat} {w : World} {f : Nat → List Value} (h : OwnF base T s w (.slice (some ⟨g, 0, none⟩) n cap) n f) (j : Nat) : w.frozen? ⟨g, j, none⟩ = false := h.own.frozenAt j
theorem OwnF.set {base T s n g cap : Nat} {w : World} {f : Nat → List Value} (h : OwnF base T s w (.slice (some ⟨g, 0, none⟩) n cap) n f) {i j : Nat} (hi : i < n) (hj : j < s) (u : Value) :
    OwnF base T s (w.setCell ⟨g, 0 + i * s + j, none⟩ u) (.slice (some ⟨g, 0, none⟩) n cap) n (upd f i ((f i).set j u)) ∧ Chg (fun k => k = g) w (w.setCell ⟨g, 0 + i * s + j, none⟩ u) := by
  rw [Nat.zero_add]
  obtain ⟨h1, h2⟩ := h.own.stored (i * s + j) u
  refine ⟨⟨by rw [← flat_set s f u n h.len i j hi hj]; exact h1, fun k hk => ?_⟩, (Chg.ofGrown h2).mono (fun k _ e => by cases e; rfl)⟩
  by_cases e : k = i
  · subst e; rw [upd_same]; simpa using h.len k hk
  · rw [upd_other _ _ e]; exact h.len k hk
theorem OwnF.ofNew {w w' : World} {c : List Value} {T base : Nat} (h : New w w' c T) (hb : base ≤ w.heap.size) : OwnF base T c.length w' (.slice (some ⟨w.heap.size, 0, none⟩) 1 1) 1 (fun _ => c) :=
  ⟨by have := own_new (n := 1) (size := c.length) h hb (by unfold maxLen; omega) (by simp); simpa using this, fun _ _ => rfl⟩
theorem OwnF.appB {n : Nat} {E : Env} {w : World} {t : TypeId} {v : Value} {x y : Operand} {ti te : TI}
    {base T s m bk : Nat} {f : Nat → List Value} {c : List Value} (hown : OwnF base T s w v m f) (ht : G.ty t = some ti) (he : ti.elem = some T) (hte : G.ty T = some te) (hs : te.size = s) (hzs : te.zero.cells.size = te.size) (hsz : 0 < te.size) (hbt : te.bytes ≤ 1000)
    (hx : ev E x = some v) (hy : ev E y = some (.slice (some ⟨bk, 0, none⟩) 1 1)) (hb : base ≤ w.heap.size) (hc : Blk w bk c T) (hcl : c.length = s) (h1 : ∀ u ∈ c, u.oneCell' = true) (hlen : m ≤ 100000000000) :
    Eff G n (.call ⟨.builtin .append, #[x, y], #[t, t]⟩) E w (fun v' w' => OwnF base T s w' v' (m + 1) (upd f m c) ∧ Chg (fun k => v.ownBlock = some k) w w' ∧ (v'.ownBlock = v.ownBlock ∨ v'.ownBlock = some w.heap.size)) := by
  subst hs
  refine (Eff.appendB (G := G) (ti := ti) (te := te) (e := T) (base := base) (len := m) (m := 1) (c := 1) (bk := bk) (of_ := 0) (xs := (List.range m).flatMap f) (news := c) ht he hte hzs hsz hx hown.own hy (by rw [hcl]; omega) ?_ h1 ?_ ?_ hb).mono ?_
  · intro j u hj
    rw [Nat.zero_add]; exact hc.cell hj
  · unfold maxLen; omega
  · have := Nat.mul_le_mul (show m + 1 ≤ 100000000001 by omega) hbt; omega
  · rintro v' w' ⟨h2, h3⟩
    refine ⟨⟨?_, fun i hi => ?_⟩, h3⟩
    · rw [List.range_succ, List.flatMap_append, flat_congr (fun k hk => upd_other f c (by omega))]
      simpa [upd] using h2
    · by_cases e : i = m
      · subst e; rw [upd_same]; exact hcl
      · rw [upd_other _ _ e]; exact hown.len i (by omega)
theorem OwnF.app {n : Nat} {E : Env} {w : World} {t : TypeId} {v : Value} {x y : Operand} {ti te : TI}
    {base T s m bk : Nat} {f : Nat → List Value} {c : List Value} (hown : OwnF base T s w v m f) (ht : G.ty t = some ti) (he : ti.elem = some T) (hte : G.ty T = some te) (hs : te.size = s) (hzs : te.zero.cells.size = te.size) (hsz : 0 < te.size) (hbt : te.bytes ≤ 1000)
    (hx : ev E x = some v) (hy : ev E y = some (.slice (some ⟨bk, 0, none⟩) 1 1)) (hb : base ≤ w.heap.size) (hc : Blk w bk c T) (hcl : c.length = s) (h1 : ∀ u ∈ c, u.oneCell' = true) (hlen : m ≤ 100000000000) :
    Eff G n (.call ⟨.builtin .append, #[x, y], #[t, t]⟩) E w (fun v' w' => OwnF base T s w' v' (m + 1) (upd f m c) ∧ Chg (fun k => v.ownBlock = some k) w w') :=
  (hown.appB ht he hte hs hzs hsz hbt hx hy hb hc hcl h1 hlen).mono fun _ _ h => ⟨h.1, h.2.1⟩
structure Bk where
  fr : Int
  to : Int
  next : List Int
  live : Bool
  deriving Inhabited, DecidableEq
def bkC (x : Bk) (nv : Value) : List Value := [.int .i64 x.fr, .int .i64 x.to, nv, .bool x.live]
def BlocksN (F : Nat → Prop) (w : World) (v : Value) (bs : List Bk) (nvs : List Value) : Prop :=
  ∃ p cap, v = .slice p bs.length cap ∧ bs.length ≤ 2932031007317 ∧ nvs.length = bs.length ∧ (∀ i, i < bs.length → IntsR F w (ix nvs i) (ix bs i).next) ∧
    (bs = [] ∨ ∃ b off, p = some ⟨b, off, none⟩ ∧ F b ∧ ∀ i, i < bs.length → ∀ j, j < 4 → w.cell? ⟨b, off + i * 4 + j, none⟩ = (bkC (ix bs i) (ix nvs i))[j]?)
theorem BlocksN.chg {F S : Nat → Prop} {w w' : World} {v : Value} {bs : List Bk} {nvs : List Value} (h : BlocksN F w v bs nvs) (hc : Chg S w w') (hd : ∀ k, k < w.heap.size → F k → ¬ S k) : BlocksN F w' v bs nvs := by
  obtain ⟨p, cap, rfl, hl, hn, hi, h⟩ := h
  refine ⟨p, cap, rfl, hl, hn, fun i h1 => (hi i h1).chg hc hd, ?_⟩
  rcases h with h | ⟨b, off, hp, hF, h⟩
  · exact .inl h
  · refine .inr ⟨b, off, hp, hF, fun i h1 j h2 => ?_⟩
    have h3 := h i h1 j h2
    have h4 : ∃ u, (bkC (ix bs i) (ix nvs i))[j]? = some u := ⟨_, List.getElem?_eq_getElem (by simpa [bkC] using h2)⟩
    obtain ⟨u, h4⟩ := h4
    rw [h4] at h3 ⊢
    exact hc.cell (hd b (cell_lt h3) hF) h3
def BlocksR (F : Nat → Prop) (w : World) (v : Value) (bs : List Bk) : Prop := ∃ nvs, BlocksN F w v bs nvs
theorem BlocksR.chg {F S : Nat → Prop} {w w' : World} {v : Value} {bs : List Bk} (h : BlocksR F w v bs) (hc : Chg S w w') (hd : ∀ k, k < w.heap.size → F k → ¬ S k) : BlocksR F w' v bs := h.imp fun _ h => h.chg hc hd
theorem BlocksR.ext {F : Nat → Prop} {w w' : World} {v : Value} {bs : List Bk} (h : BlocksR F w v bs) (hc : Ext w w') : BlocksR F w' v bs := h.chg hc (fun _ _ _ h => h)
theorem BlocksN.slice {F : Nat → Prop} {w : World} {v : Value} {bs : List Bk} {nvs : List Value} (h : BlocksN F w v bs nvs) : ∃ p cap, v = .slice p bs.length cap ∧ bs.length ≤ 2932031007317 := by
  obtain ⟨p, cap, rfl, hl, _⟩ := h
  exact ⟨p, cap, rfl, hl⟩
structure BkAt (F : Nat → Prop) (w : World) (b o : Nat) (x : Bk) (nv : Value) : Prop where
  fr : w.cell? ⟨b, o, none⟩ = some (.int .i64 x.fr)
  to : w.cell? ⟨b, o + 1, none⟩ = some (.int .i64 x.to)
  nx : w.cell? ⟨b, o + 2, none⟩ = some nv
  live : w.cell? ⟨b, o + 3, none⟩ = some (.bool x.live)
  next : IntsR F w nv x.next
theorem BlocksN.at {F : Nat → Prop} {w : World} {p : Option Addr} {n cap : Nat} {bs : List Bk} {nvs : List Value} (h : BlocksN F w (.slice p n cap) bs nvs) {i : Nat} (hi : i < bs.length) :
    ∃ b off, p = some ⟨b, off, none⟩ ∧ F b ∧ ∀ i, i < bs.length → BkAt F w b (off + i * 4) (ix bs i) (ix nvs i) := by
  obtain ⟨p', cap', e, hl, hn, hx, h⟩ := h
  cases e
  rcases h with h | ⟨b, off, hp, hF, h⟩
  · subst h; cases hi
  · exact ⟨b, off, hp, hF, fun i hi => ⟨h i hi 0 (by omega), h i hi 1 (by omega), h i hi 2 (by omega), h i hi 3 (by omega), hx i hi⟩⟩
theorem OwnF.blocks {base T n : Nat} {w : World} {v : Value} {f : Nat → List Value} (h : OwnF base T 4 w v n f) {F : Nat → Prop} {bs : List Bk} {nvs : List Value} (hn : n = bs.length) (hl : n ≤ 2932031007317) (hnv : nvs.length = bs.length) (hf : ∀ i, i < n → f i = bkC (ix bs i) (ix nvs i))
    (hx : ∀ i, i < n → IntsR F w (ix nvs i) (ix bs i).next) (hF : ∀ k, v.ownBlock = some k → F k) : BlocksN F w v bs nvs := by
  subst hn
  obtain ⟨p, cap, rfl, h1, h2, h3⟩ := h.slice
  refine ⟨p, cap, rfl, hl, hnv, hx, ?_⟩
  by_cases h0 : bs = []
  · exact .inl h0
  · obtain ⟨g, rfl, h4, h5⟩ := h3 (List.length_pos_iff.2 h0)
    refine .inr ⟨g, 0, rfl, hF g rfl, fun i hi j hj => ?_⟩
    have h6 : ∃ u, (f i)[j]? = some u := ⟨_, List.getElem?_eq_getElem (by rw [h.len i hi]; exact hj)⟩
    obtain ⟨u, h6⟩ := h6
    rw [h.cell hi h6, ← hf i hi, h6]
def RowsR (F : Nat → Prop) (w : World) (v : Value) (rs : List (List Int)) : Prop :=
  ∃ p cap, v = .slice p rs.length cap ∧ rs.length ≤ 5864062014634 ∧
    (rs = [] ∨ ∃ b off, p = some ⟨b, off, none⟩ ∧ F b ∧ ∀ i, i < rs.length → ∃ u, w.cell? ⟨b, off + i, none⟩ = some u ∧ IntsR F w u (ix rs i))
theorem RowsR.chg {F S : Nat → Prop} {w w' : World} {v : Value} {rs : List (List Int)} (h : RowsR F w v rs) (hc : Chg S w w') (hd : ∀ k, k < w.heap.size → F k → ¬ S k) : RowsR F w' v rs := by
  obtain ⟨p, cap, rfl, hl, h⟩ := h
  refine ⟨p, cap, rfl, hl, ?_⟩
  rcases h with h | ⟨b, off, hp, hF, h⟩
  · exact .inl h
  · refine .inr ⟨b, off, hp, hF, fun i hi => ?_⟩
    obtain ⟨u, h1, h2⟩ := h i hi
    exact ⟨u, hc.cell (hd b (cell_lt h1) hF) h1, h2.chg hc hd⟩
theorem RowsR.slice {F : Nat → Prop} {w : World} {v : Value} {rs : List (List Int)} (h : RowsR F w v rs) : ∃ p cap, v = .slice p rs.length cap ∧ rs.length ≤ 5864062014634 := by
  obtain ⟨p, cap, rfl, hl, _⟩ := h
  exact ⟨p, cap, rfl, hl⟩
theorem RowsR.at {F : Nat → Prop} {w : World} {p : Option Addr} {n cap : Nat} {rs : List (List Int)} (h : RowsR F w (.slice p n cap) rs) {i : Nat} (hi : i < rs.length) :
    ∃ b off, p = some ⟨b, off, none⟩ ∧ F b ∧ ∀ i, i < rs.length → ∃ u, w.cell? ⟨b, off + i, none⟩ = some u ∧ IntsR F w u (ix rs i) := by
  obtain ⟨p', cap', e, hl, h⟩ := h
  cases e
  rcases h with h | ⟨b, off, hp, hF, h⟩
  · subst h; cases hi
  · exact ⟨b, off, hp, hF, h⟩
variable {G : Prg} {Q : Exit → Act → World → Prop} {n : Nat} {E : Env} {w : World}
theorem Cd.scope {c : Code} (h : Cd G (Exit.noGoto Q) n c E w) : Cd G Q n (.scope c) E w := ⟨fun a ha => wp_scope_straight (h.h a ha)⟩
theorem Fin.ngN (h : Fin Q n .normal E w) : Fin (Exit.noGoto Q) n .normal E w := ⟨fun a ha => h.h a ha⟩
theorem Fin.ngR (h : Fin Q n .ret E w) : Fin (Exit.noGoto Q) n .ret E w := ⟨fun a ha => h.h a ha⟩
theorem Fin.ngX {id : Nat} (h : Fin Q n (.exit id) E w) : Fin (Exit.noGoto Q) n (.exit id) E w := ⟨fun a ha => h.h a ha⟩
def opensB (op : Int) : Bool := op == 2 || op == 3 || op == 4
def stepR (l : List Int) (i : Int) (op : Int) : List Int :=
  let l1 := if opensB op then l ++ [i] else l
  if op = 11 ∧ 0 < l1.length then l1.dropLast else l1
def roundR (xs : List Ins) : Nat → List Int
  | 0 => [-1]
  | k + 1 => stepR (roundR xs k) k (ix xs k).op
def lastI (l : List Int) : Int := ix l (l.length - 1)
def elseAt (xs : List Ins) (h : Nat) (i : Nat) : Bool := decide (h < i ∧ (ix xs i).op = 5 ∧ 0 < (roundR xs i).length ∧ lastI (roundR xs i) = h)
def elsedR (xs : List Ins) (h at_ : Nat) : Bool := (List.range at_).any (elseAt xs h)
def checkAt (xs : List Ins) (i : Nat) : Option (Int × Int) :=
  let l := roundR xs i
  let h := lastI l
  if l.length = 0 then some (i, 16)
  else if (ix xs i).op = 5 ∧ (h < 0 ∨ (ix xs h.toNat).op ≠ 4 ∨ elsedR xs h.toNat i = true) then some (i, 16)
  else if opensB (ix xs i).op = true ∧ 32 ≤ l.length then some (i, 6)
  else none
def checkFrom (xs : List Ins) : Nat → Nat → Int × Int
  | 0, i => if 0 < (roundR xs i).length then (i, 3) else (0, 0)
  | f + 1, i => match checkAt xs i with
    | some r => r
    | none => checkFrom xs f (i + 1)
def checkR (xs : List Ins) : Int × Int := checkFrom xs xs.length 0
def endsTo (xs : List Ins) : Nat → List Int
  | 0 => List.replicate xs.length (-1)
  | k + 1 => if (ix xs k).op = 11 ∧ 0 ≤ lastI (roundR xs k) then (endsTo xs k).set (lastI (roundR xs k)).toNat k else endsTo xs k
def elsesTo (xs : List Ins) : Nat → List Int
  | 0 => List.replicate xs.length (-1)
  | k + 1 => if (ix xs k).op = 5 then (elsesTo xs k).set (lastI (roundR xs k)).toNat k else elsesTo xs k
def endsR (xs : List Ins) : List Int := endsTo xs xs.length
def elsesR (xs : List Ins) : List Int := elsesTo xs xs.length
def targetR (xs : List Ins) (a : Nat) (l : Int) : Option Int :=
  let r := roundR xs a
  if l < 0 ∨ (r.length : Int) ≤ l then none
  else
    let h := ix r (r.length - 1 - l.toNat)
    if h < 0 then some ((xs.length : Int) - 1)
    else if (ix xs h.toNat).op = 3 then some (h + 1)
    else some (ix (endsR xs) h.toNat)
def endsB (op : Int) : Bool := op == 3 || op == 4 || op == 5 || op == 12 || op == 13 || op == 14 || op == 15 || op == 0
def startB (xs : List Ins) (p : Nat) : Bool := p == 0 || (ix xs p).op == 11 || endsB (ix xs (p - 1)).op
def toR (xs : List Ins) (p : Nat) (l : Int) : Int := (targetR xs p l).getD (-1)
def doneFrom (xs : List Ins) (p : Int) : Nat → Nat → Int
  | 0, _ => -1
  | f + 1, i => if ix (elsesR xs) i = p then ix (endsR xs) i else doneFrom xs p f (i + 1)
def doneR (xs : List Ins) (p : Nat) : Int := doneFrom xs p xs.length 0
def insC (x : Ins) (tv lv : Value) : List Value := [.int .i64 x.op, .int .i64 x.a, .int .i64 x.b, .int .u64 x.n, .int .i64 x.kind, .int .i64 x.val, .int .i64 x.index, tv, lv]
theorem InsR.cells {F : Nat → Prop} {w : World} {b o : Nat} {x : Ins} (h : InsR F w b o x) : ∃ pt ct pl cl, IntsR F w (.slice pt x.types.length ct) x.types ∧ IntsR F w (.slice pl x.labels.length cl) x.labels ∧
    ∀ j, j < 9 → w.cell? ⟨b, o + j, none⟩ = (insC x (.slice pt x.types.length ct) (.slice pl x.labels.length cl))[j]? := by
  obtain ⟨tv, h1, h2⟩ := h.types
  obtain ⟨lv, h3, h4⟩ := h.labels
  obtain ⟨pt, ct, rfl, _⟩ := h2.slice
  obtain ⟨pl, cl, rfl, _⟩ := h4.slice
  refine ⟨pt, ct, pl, cl, h2, h4, fun j hj => ?_⟩
  match j, hj with
  | 0, _ => exact h.op
  | 1, _ => exact h.a
  | 2, _ => exact h.b
  | 3, _ => exact h.n
  | 4, _ => exact h.kind
  | 5, _ => exact h.val
  | 6, _ => exact h.index
  | 7, _ => exact h1
  | 8, _ => exact h3
def afterR (xs : List Ins) (p : Nat) : List Int :=
  let x := ix xs p
  if x.op = 4 then (if 0 ≤ ix (elsesR xs) p then [(p : Int) + 1, ix (elsesR xs) p + 1] else [(p : Int) + 1, ix (endsR xs) p])
  else if x.op = 5 then [doneR xs p]
  else if x.op = 12 then [toR xs p x.a]
  else if x.op = 13 then [toR xs p x.a, (p : Int) + 1]
  else if x.op = 14 then x.labels.map (toR xs p) ++ [toR xs p x.a]
  else if x.op = 15 ∨ x.op = 0 then []
  else if xs.length ≤ p + 1 then [] else [(p : Int) + 1]
def atFrom (bs : List Bk) (q : Int) : Nat → Nat → Int
  | 0, _ => -1
  | f + 1, k => if (ix bs k).fr ≤ q ∧ q < (ix bs k).to then k else atFrom bs q f (k + 1)
def atB (bs : List Bk) (q : Int) : Int := atFrom bs q bs.length 0
def OwnBl (base : Nat) (w : World) (v : Value) (xs : List Bool) : Prop := w.ownsRow base 4 1 v xs.length (xs.map Value.bool)
theorem OwnBl.get {base : Nat} {w : World} {g n cap : Nat} {xs : List Bool} (h : OwnBl base w (.slice (some ⟨g, 0, none⟩) n cap) xs) {i : Nat} (hi : i < xs.length) : w.cell? ⟨g, 0 + i, none⟩ = some (.bool (ix xs i)) := by
  have h1 : n = xs.length := by obtain ⟨p, c, e, _⟩ := own_slice h; cases e; rfl
  subst h1
  rw [Nat.zero_add, World.ownsRow.cellAt h i (by omega), List.getElem?_map, ix_some hi]; rfl
theorem OwnBl.free {base : Nat} {w : World} {g n cap : Nat} {xs : List Bool} (h : OwnBl base w (.slice (some ⟨g, 0, none⟩) n cap) xs) (j : Nat) : w.frozen? ⟨g, j, none⟩ = false := by
  have h1 : n = xs.length := by obtain ⟨p, c, e, _⟩ := own_slice h; cases e; rfl
  subst h1
  exact World.ownsRow.frozenAt h j
theorem OwnBl.set {base : Nat} {w : World} {g n cap : Nat} {xs : List Bool} (h : OwnBl base w (.slice (some ⟨g, 0, none⟩) n cap) xs) (i : Nat) (a : Bool) :
    OwnBl base (w.setCell ⟨g, 0 + i, none⟩ (.bool a)) (.slice (some ⟨g, 0, none⟩) n cap) (xs.set i a) ∧ Chg (fun k => k = g) w (w.setCell ⟨g, 0 + i, none⟩ (.bool a)) := by
  have h1 : n = xs.length := by obtain ⟨p, c, e, _⟩ := own_slice h; cases e; rfl
  subst h1
  obtain ⟨h2, h3⟩ := World.ownsRow.stored h i (.bool a)
  rw [Nat.zero_add]
  refine ⟨?_, (Chg.ofGrown h3).mono (fun k _ e => by cases e; rfl)⟩
  unfold OwnBl
  rw [List.length_set, List.map_set]; exact h2
def cnt (seen : List Bool) : Nat := seen.countP (fun b => !b)
theorem cnt_set {seen : List Bool} {i : Nat} (hi : i < seen.length) (h : ix seen i = false) : cnt (seen.set i true) + 1 = cnt seen := by
  unfold cnt
  rw [ix_eq hi] at h
  have := List.countP_set (p := fun b => !b) (l := seen) (i := i) (a := true) hi
  rw [this]
  have hm : seen[i] ∈ seen := List.getElem_mem hi
  have hp : 0 < seen.countP (fun b => !b) := List.countP_pos_iff.2 ⟨seen[i], hm, by simp [h]⟩
  simp [h]; omega
def deepR (bs : List Bk) : Nat → Int → List Bool × List Int → List Bool × List Int
  | 0, _, s => s
  | f + 1, a, s =>
    if a < 0 ∨ (bs.length : Int) ≤ a ∨ ix s.1 a.toNat = true then s
    else
      let t := (ix bs a.toNat).next.foldl (fun s b => deepR bs f b s) (s.1.set a.toNat true, s.2)
      (t.1, t.2 ++ [a])
def orderR (bs : List Bk) : List Int := (deepR bs (bs.length + 1) 0 (List.replicate bs.length false, [])).2.reverse
theorem ix_append_left {α : Type} [Inhabited α] {l m : List α} {i : Nat} (h : i < l.length) : ix (l ++ m) i = ix l i := by
  rw [ix_eq h, ix_eq (by rw [List.length_append]; omega), List.getElem_append_left h]
theorem ix_append_last {α : Type} [Inhabited α] {l : List α} {a : α} {i : Nat} (h : i = l.length) : ix (l ++ [a]) i = a := by
  subst h; rw [ix_eq (by simp)]; simp
theorem ix_set_same {α : Type} [Inhabited α] {l : List α} {i : Nat} {a : α} (h : i < l.length) : ix (l.set i a) i = a := by
  rw [ix_eq (by simpa using h)]; simp
theorem ix_set_other {α : Type} [Inhabited α] {l : List α} {i j : Nat} {a : α} (h : j ≠ i) : ix (l.set i a) j = ix l j := by
  unfold ix; rw [List.getD_eq_getElem?_getD, List.getD_eq_getElem?_getD, List.getElem?_set_ne (Ne.symm h)]
def fbTo (xs : List Ins) : Nat → List (Nat × Nat)
  | 0 => []
  | k + 1 =>
    let l := if startB xs k then fbTo xs k ++ [(k, 0)] else fbTo xs k
    l.set (l.length - 1) ((ix l (l.length - 1)).1, k + 1)
def mkB (fb : List (Nat × Nat)) (nx : Nat → List Int) (lv : Nat → Bool) : List Bk := (List.range fb.length).map (fun j => ⟨(ix fb j).1, (ix fb j).2, nx j, lv j⟩)
def atF (fb : List (Nat × Nat)) (q : Int) : Int := atB (mkB fb (fun _ => []) (fun _ => false)) q
def goB (xs : List Ins) (j : Nat) : List Int := afterR xs ((ix (fbTo xs xs.length) j).2 - 1)
def nextB (xs : List Ins) (j : Nat) : List Int := (goB xs j).map (atF (fbTo xs xs.length))
def badB (xs : List Ins) : Prop := ∃ j, j < (fbTo xs xs.length).length ∧ ∃ a ∈ goB xs j, a < 0
def blocksB (xs : List Ins) : List Bk :=
  let g := mkB (fbTo xs xs.length) (nextB xs) (fun _ => false)
  mkB (fbTo xs xs.length) (nextB xs) (fun j => (orderR g).contains (j : Int))
def c0 (p : Nat × Nat) (nv : Value) : List Value := [.int .i64 p.1, .int .i64 p.2, nv, .bool false]
end Go.Proofs.YtgbgnipidakdhaaGreatDoor
