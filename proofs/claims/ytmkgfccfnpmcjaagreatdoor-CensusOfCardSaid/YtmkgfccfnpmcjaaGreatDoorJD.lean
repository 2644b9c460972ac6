/- Plain words: lists read at a place; slices of numbers and of instructions read in a world; rows of the call's own. -/
import Derived.Test.YtmkgfccfnpmcjaaGreatDoorJG
namespace Go.Proofs.YtmkgfccfnpmcjaaGreatDoor
open Go.RowKit

/-- the element at place i -/
def ix {α : Type} [Inhabited α] (xs : List α) (i : Nat) : α := xs.getD i default

theorem ix_eq {α : Type} [Inhabited α] {xs : List α} {i : Nat} (h : i < xs.length) : ix xs i = xs[i] := by
  simp [ix, h]
theorem ix_some {α : Type} [Inhabited α] {xs : List α} {i : Nat} (h : i < xs.length) : xs[i]? = some (ix xs i) := by
  rw [ix_eq h, List.getElem?_eq_getElem h]
theorem take_succ_ix {α : Type} [Inhabited α] {xs : List α} {k : Nat} (h : k < xs.length) : xs.take (k + 1) = xs.take k ++ [ix xs k] := by
  rw [ix_eq h, List.take_succ_eq_append_getElem h]

/-- a number of 64 bits with a sign -/
def R64 (n : Int) : Prop := -9223372036854775808 ≤ n ∧ n ≤ 9223372036854775807

/-- v is a slice of numbers that reads xs; its block is in F -/
def IntsR (F : Nat → Prop) (w : World) (v : Value) (xs : List Int) : Prop :=
  ∃ p cap, v = .slice p xs.length cap ∧ xs.length ≤ 17592186043904 ∧
    (xs = [] ∨ ∃ b off, p = some ⟨b, off, none⟩ ∧ F b ∧ ∀ i, i < xs.length → w.cell? ⟨b, off + i, none⟩ = some (.int .i64 (ix xs i)))

theorem IntsR.chg {F S : Nat → Prop} {w w' : World} {v : Value} {xs : List Int} (h : IntsR F w v xs) (hc : Chg S w w') (hd : ∀ k, k < w.heap.size → F k → ¬ S k) : IntsR F w' v xs := by
  obtain ⟨p, cap, rfl, hl, h⟩ := h
  refine ⟨p, cap, rfl, hl, ?_⟩
  rcases h with h | ⟨b, off, hp, hF, h⟩
  · exact .inl h
  · exact .inr ⟨b, off, hp, hF, fun i hi => hc.cell (hd b (cell_lt (h i hi)) hF) (h i hi)⟩
theorem IntsR.mono {F H : Nat → Prop} {w : World} {v : Value} {xs : List Int} (h : IntsR F w v xs) (hFG : ∀ k, k < w.heap.size → F k → H k) : IntsR H w v xs := by
  obtain ⟨p, cap, rfl, hl, h⟩ := h
  refine ⟨p, cap, rfl, hl, ?_⟩
  rcases h with h | ⟨b, off, hp, hF, h⟩
  · exact .inl h
  · by_cases hx : xs = []
    · exact .inl hx
    · have h0 : 0 < xs.length := List.length_pos_iff.2 hx
      exact .inr ⟨b, off, hp, hFG b (cell_lt (h 0 h0)) hF, h⟩
theorem IntsR.slice {F : Nat → Prop} {w : World} {v : Value} {xs : List Int} (h : IntsR F w v xs) : ∃ p cap, v = .slice p xs.length cap ∧ xs.length ≤ 17592186043904 := by
  obtain ⟨p, cap, rfl, hl, _⟩ := h
  exact ⟨p, cap, rfl, hl⟩
theorem IntsR.at {F : Nat → Prop} {w : World} {p : Option Addr} {n cap : Nat} {xs : List Int} (h : IntsR F w (.slice p n cap) xs) {i : Nat} (hi : i < xs.length) :
    ∃ b off, p = some ⟨b, off, none⟩ ∧ F b ∧ ∀ i, i < xs.length → w.cell? ⟨b, off + i, none⟩ = some (.int .i64 (ix xs i)) := by
  obtain ⟨p', cap', e, hl, h⟩ := h
  cases e
  rcases h with h | ⟨b, off, hp, hF, h⟩
  · subst h; cases hi
  · exact ⟨b, off, hp, hF, h⟩

/-- v is a slice of numbers of the call's own, from block number base on -/
def OwnI (base : Nat) (w : World) (v : Value) (xs : List Int) : Prop := w.ownsRow base 3 1 v xs.length (xs.map (Value.int .i64))

theorem own_slice {w : World} {base : Nat} {e : TypeId} {size n : Nat} {v : Value} {xs : List Value} (h : w.ownsRow base e size v n xs) : ∃ p cap, v = .slice p n cap ∧ n ≤ cap ∧ cap ≤ maxLen ∧ (0 < n → ∃ g, p = some ⟨g, 0, none⟩ ∧ base ≤ g ∧ g < w.heap.size) := by
  obtain ⟨h1, h2⟩ := h
  rcases h2 with ⟨rfl, rfl⟩ | ⟨g, cap, cur, rfl, hg, hh, hn, hc, hs, ht⟩
  · exact ⟨none, 0, rfl, by omega, by unfold maxLen; omega, by omega⟩
  · refine ⟨_, cap, rfl, hn, hc, fun _ => ⟨g, rfl, hg, ?_⟩⟩
    by_cases hlt : g < w.heap.size
    · exact hlt
    · simp [Array.getElem?_eq_none (Nat.le_of_not_lt hlt)] at hh
theorem own_chg {S : Nat → Prop} {w w' : World} {base : Nat} {e : TypeId} {size n : Nat} {v : Value} {xs : List Value} (h : w.ownsRow base e size v n xs) (hc : Chg S w w') (hd : ∀ k, v.ownBlock = some k → ¬ S k) : w'.ownsRow base e size v n xs := by
  have hlt := h.lt
  obtain ⟨h1, h2⟩ := h
  refine ⟨h1, ?_⟩
  rcases h2 with h2 | ⟨g, cap, cur, rfl, hg, hh, r⟩
  · exact .inl h2
  · exact .inr ⟨g, cap, cur, rfl, hg, by rw [hc.block g (hlt g rfl).2 (hd g rfl)]; exact hh, r⟩
theorem own_base {w : World} {base base' : Nat} {e : TypeId} {size n : Nat} {v : Value} {xs : List Value} (h : w.ownsRow base e size v n xs) (hd : ∀ k, v.ownBlock = some k → base' ≤ k) : w.ownsRow base' e size v n xs := by
  obtain ⟨h1, h2⟩ := h
  refine ⟨h1, ?_⟩
  rcases h2 with h2 | ⟨g, cap, cur, rfl, hg, r⟩
  · exact .inl h2
  · exact .inr ⟨g, cap, cur, rfl, hd g rfl, r⟩
theorem OwnI.ext {base : Nat} {w w' : World} {v : Value} {xs : List Int} (h : OwnI base w v xs) (hc : Ext w w') : OwnI base w' v xs := own_chg h hc (fun _ _ h => h)
theorem OwnI.nil (base : Nat) (w : World) : OwnI base w (.slice none 0 0) [] := World.ownsRow_nil w base _ _

theorem own_new {w w' : World} {cs : List Value} {T base size n : Nat} (h : New w w' cs T) (hb : base ≤ w.heap.size) (hm : n ≤ maxLen) (hs : cs.length = n * size) : w'.ownsRow base T size (.slice (some ⟨w.heap.size, 0, none⟩) n n) n cs :=
  ⟨hs, .inr ⟨w.heap.size, n, cs.toArray, rfl, hb, h.blk, Nat.le_refl _, hm, by simpa using hs, by simp [← hs]⟩⟩
theorem OwnI.ofNew {w w' : World} {cs : List Value} {base n : Nat} {xs : List Int} (h : New w w' cs 3) (hx : cs = xs.map (Value.int .i64)) (hb : base ≤ w.heap.size) (hm : xs.length ≤ maxLen) (hn : n = xs.length := by rfl) : OwnI base w' (.slice (some ⟨w.heap.size, 0, none⟩) n n) xs := by
  subst hn
  subst hx
  exact own_new h hb hm (by simp)
/-- the numbers of a row of the call's own, read -/
theorem OwnI.reads {base : Nat} {w : World} {v : Value} {xs : List Int} (h : OwnI base w v xs) (hl : xs.length ≤ 17592186043904) : IntsR (fun k => v.ownBlock = some k) w v xs := by
  obtain ⟨p, cap, rfl, hn, hc, hg⟩ := own_slice h
  refine ⟨p, cap, rfl, hl, ?_⟩
  by_cases hx : xs = []
  · exact .inl hx
  · obtain ⟨g, rfl, h1, h2⟩ := hg (List.length_pos_iff.2 hx)
    refine .inr ⟨g, 0, rfl, rfl, fun i hi => ?_⟩
    have := h.cells (g := g) rfl i (.int .i64 (ix xs i)) (by rw [List.getElem?_map, ix_some hi]; rfl)
    by_cases h0 : i = 0
    · subst h0; simpa [Addr.add] using this
    · simpa [Addr.add, h0] using this
theorem OwnI.reads' {base : Nat} {w : World} {v : Value} {xs : List Int} (h : OwnI base w v xs) (hl : xs.length ≤ 17592186043904) : IntsR (fun k => base ≤ k) w v xs :=
  (h.reads hl).mono (fun k _ hk => (h.lt k hk).1)

theorem OwnI.get {base : Nat} {w : World} {g n cap : Nat} {xs : List Int} (h : OwnI base w (.slice (some ⟨g, 0, none⟩) n cap) xs) {i : Nat} (hi : i < xs.length) : w.cell? ⟨g, 0 + i, none⟩ = some (.int .i64 (ix xs i)) := by
  have h1 : n = xs.length := by obtain ⟨p, c, e, _⟩ := own_slice h; cases e; rfl
  subst h1
  rw [Nat.zero_add, World.ownsRow.cellAt h i (by omega), List.getElem?_map, ix_some hi]; rfl
theorem OwnI.free {base : Nat} {w : World} {g n cap : Nat} {xs : List Int} (h : OwnI base w (.slice (some ⟨g, 0, none⟩) n cap) xs) (j : Nat) : w.frozen? ⟨g, j, none⟩ = false := by
  have h1 : n = xs.length := by obtain ⟨p, c, e, _⟩ := own_slice h; cases e; rfl
  subst h1
  exact World.ownsRow.frozenAt h j
theorem OwnI.set {base : Nat} {w : World} {g n cap : Nat} {xs : List Int} (h : OwnI base w (.slice (some ⟨g, 0, none⟩) n cap) xs) (i : Nat) (a : Int) :
    OwnI base (w.setCell ⟨g, 0 + i, none⟩ (.int .i64 a)) (.slice (some ⟨g, 0, none⟩) n cap) (xs.set i a) ∧ Chg (fun k => k = g) w (w.setCell ⟨g, 0 + i, none⟩ (.int .i64 a)) := by
  have h1 : n = xs.length := by obtain ⟨p, c, e, _⟩ := own_slice h; cases e; rfl
  subst h1
  obtain ⟨h2, h3⟩ := World.ownsRow.stored h i (.int .i64 a)
  rw [Nat.zero_add]
  refine ⟨?_, (Chg.ofGrown h3).mono (fun k _ e => by cases e; rfl)⟩
  unfold OwnI
  rw [List.length_set, List.map_set]; exact h2
theorem OwnI.pop {base : Nat} {w : World} {g cap n : Nat} {xs : List Int} (h : OwnI base w (.slice (some ⟨g, 0, none⟩) (n + 1) cap) xs) (hn : xs.length = n + 1) :
    OwnI base w (.slice (some ⟨g, 0, none⟩) n cap) xs.dropLast := by
  have hne : xs ≠ [] := by intro e; subst e; simp at hn
  have e : xs.map (Value.int .i64) = xs.dropLast.map (Value.int .i64) ++ [.int .i64 (xs.getLast hne)] := by
    rw [← List.map_singleton, ← List.map_append, List.dropLast_concat_getLast]
  unfold OwnI at *
  rw [e, hn] at h
  have hl : xs.dropLast.length = n := by simp [hn]
  rw [hl]
  exact ownsRow_pop (by simp [hn]) h

/-- 'append(l, n)' onto a row of numbers of the call's own -/
theorem Eff.appIB {n : Nat} {E : Env} {w : World} {v : Value} {x y : Operand}
    {base : Nat} {xs : List Int} {bk : Nat} {a : Int} (hx : ev E x = some v) (hy : ev E y = some (.slice (some ⟨bk, 0, none⟩) 1 1)) (hown : OwnI base w v xs) (hb : base ≤ w.heap.size) (hc : w.cell? ⟨bk, 0, none⟩ = some (.int .i64 a)) (hlen : xs.length ≤ 10000000000000) :
    Eff G n (.call ⟨.builtin .append, #[x, y], #[47, 47]⟩) E w (fun v' w' => OwnI base w' v' (xs ++ [a]) ∧ Chg (fun k => v.ownBlock = some k) w w' ∧ (v'.ownBlock = v.ownBlock ∨ v'.ownBlock = some w.heap.size)) := by
  refine (Eff.appendB (G := G) (ti := ti47) (te := ti3) (e := 3) (base := base) (len := xs.length) (m := 1) (c := 1) (bk := bk) (of_ := 0) (xs := xs.map (Value.int .i64)) (news := [.int .i64 a]) rfl rfl rfl rfl (by decide) hx hown hy rfl ?_ ?_ ?_ ?_ hb).mono ?_
  · intro j u hj
    match j, hj with
    | 0, hj => simp at hj; subst hj; simpa using hc
  · simp [Value.oneCell']
  · unfold maxLen; omega
  · show (xs.length + 1) * 8 ≤ _; omega
  · rintro v' w' ⟨h1, h2⟩
    refine ⟨?_, h2⟩
    have h3 : w'.ownsRow base 3 1 v' (xs.length + 1) (xs.map (Value.int .i64) ++ [.int .i64 a]) := h1
    simpa [OwnI] using h3

theorem Eff.appI {n : Nat} {E : Env} {w : World} {v : Value} {x y : Operand}
    {base : Nat} {xs : List Int} {bk : Nat} {a : Int} (hx : ev E x = some v) (hy : ev E y = some (.slice (some ⟨bk, 0, none⟩) 1 1)) (hown : OwnI base w v xs) (hb : base ≤ w.heap.size) (hc : w.cell? ⟨bk, 0, none⟩ = some (.int .i64 a)) (hlen : xs.length ≤ 10000000000000) :
    Eff G n (.call ⟨.builtin .append, #[x, y], #[47, 47]⟩) E w (fun v' w' => OwnI base w' v' (xs ++ [a]) ∧ Chg (fun k => v.ownBlock = some k) w w') :=
  (Eff.appIB hx hy hown hb hc hlen).mono fun _ _ h => ⟨h.1, h.2.1⟩

/-- 'append(l, m...)': all numbers of a slice onto a row of numbers of the call's own -/
theorem Eff.appIs {F : Nat → Prop} {n : Nat} {E : Env} {w : World} {v u : Value} {x y : Operand} {base : Nat} {xs ys : List Int} (hx : ev E x = some v) (hy : ev E y = some u) (hown : OwnI base w v xs) (hr : IntsR F w u ys) (hb : base ≤ w.heap.size) (hlen : xs.length + ys.length ≤ 17592186044416) :
    Eff G n (.call ⟨.builtin .append, #[x, y], #[47, 47]⟩) E w (fun v' w' => OwnI base w' v' (xs ++ ys) ∧ Chg (fun k => v.ownBlock = some k) w w') := by
  obtain ⟨p, cap, rfl, hl, h⟩ := hr
  by_cases h0 : ys = []
  · subst h0
    obtain ⟨po, c, rfl, hc, _⟩ := own_slice hown
    refine (Eff.append0 (G := G) (ti := ti47) (te := ti3) rfl rfl rfl hx hc hy).mono ?_
    rintro _ _ ⟨rfl, rfl⟩
    exact ⟨by rw [List.append_nil]; exact hown, Chg.refl _ _⟩
  · rcases h with h | ⟨b, off, rfl, hF, h⟩
    · exact absurd h h0
    · refine (Eff.append (G := G) (ti := ti47) (te := ti3) (e := 3) (base := base) (len := xs.length) (m := ys.length) (c := cap) (bk := b) (of_ := off) (xs := xs.map (Value.int .i64)) (news := ys.map (Value.int .i64)) rfl rfl rfl rfl (by decide) hx hown hy (by show _ = ys.length * 1; simp) ?_ ?_ ?_ ?_ hb).mono ?_
      · intro j u hj
        rw [List.getElem?_map] at hj
        cases hy' : ys[j]? with
        | none => simp [hy'] at hj
        | some a =>
          simp [hy'] at hj
          subst hj
          obtain ⟨h1, h2⟩ := List.getElem?_eq_some_iff.1 hy'
          rw [h j h1, ix_eq h1, h2]
      · simp only [List.mem_map, forall_exists_index, and_imp]
        rintro u a _ rfl; rfl
      · unfold maxLen; omega
      · show (xs.length + ys.length) * 8 ≤ _; omega
      · rintro v' w' ⟨h1, h2⟩
        refine ⟨?_, h2⟩
        have h3 : w'.ownsRow base 3 1 v' (xs.length + ys.length) (xs.map (Value.int .i64) ++ ys.map (Value.int .i64)) := h1
        simpa [OwnI] using h3

/-- an instruction -/
structure Ins where
  op : Int
  a : Int
  b : Int
  n : Int
  kind : Int
  val : Int
  index : Int
  types : List Int
  labels : List Int
  deriving Inhabited

/-- nine cells from o on read x -/
structure InsR (F : Nat → Prop) (w : World) (bk o : Nat) (x : Ins) : Prop where
  op : w.cell? ⟨bk, o, none⟩ = some (.int .i64 x.op)
  a : w.cell? ⟨bk, o + 1, none⟩ = some (.int .i64 x.a)
  b : w.cell? ⟨bk, o + 2, none⟩ = some (.int .i64 x.b)
  n : w.cell? ⟨bk, o + 3, none⟩ = some (.int .u64 x.n)
  kind : w.cell? ⟨bk, o + 4, none⟩ = some (.int .i64 x.kind)
  val : w.cell? ⟨bk, o + 5, none⟩ = some (.int .i64 x.val)
  index : w.cell? ⟨bk, o + 6, none⟩ = some (.int .i64 x.index)
  types : ∃ tv, w.cell? ⟨bk, o + 7, none⟩ = some tv ∧ IntsR F w tv x.types
  labels : ∃ lv, w.cell? ⟨bk, o + 8, none⟩ = some lv ∧ IntsR F w lv x.labels
  rop : R64 x.op
  ra : R64 x.a

theorem InsR.chg {F S : Nat → Prop} {w w' : World} {b o : Nat} {x : Ins} (h : InsR F w b o x) (hc : Chg S w w') (hF : F b) (hd : ∀ k, k < w.heap.size → F k → ¬ S k) : InsR F w' b o x := by
  have hb : ¬ S b := hd b (cell_lt h.op) hF
  refine ⟨hc.cell hb h.op, hc.cell hb h.a, hc.cell hb h.b, hc.cell hb h.n, hc.cell hb h.kind, hc.cell hb h.val, hc.cell hb h.index, ?_, ?_, h.rop, h.ra⟩
  · obtain ⟨tv, h1, h2⟩ := h.types
    exact ⟨tv, hc.cell hb h1, h2.chg hc hd⟩
  · obtain ⟨tv, h1, h2⟩ := h.labels
    exact ⟨tv, hc.cell hb h1, h2.chg hc hd⟩

/-- v is a slice of instructions that reads xs -/
def BodyR (F : Nat → Prop) (w : World) (v : Value) (xs : List Ins) : Prop :=
  ∃ p cap, v = .slice p xs.length cap ∧ xs.length ≤ 1353247013952 ∧
    (xs = [] ∨ ∃ b off, p = some ⟨b, off, none⟩ ∧ F b ∧ ∀ i, i < xs.length → InsR F w b (off + i * 9) (ix xs i))

theorem BodyR.chg {F S : Nat → Prop} {w w' : World} {v : Value} {xs : List Ins} (h : BodyR F w v xs) (hc : Chg S w w') (hd : ∀ k, k < w.heap.size → F k → ¬ S k) : BodyR F w' v xs := by
  obtain ⟨p, cap, rfl, hl, h⟩ := h
  refine ⟨p, cap, rfl, hl, ?_⟩
  rcases h with h | ⟨b, off, hp, hF, h⟩
  · exact .inl h
  · exact .inr ⟨b, off, hp, hF, fun i hi => (h i hi).chg hc hF hd⟩
/-- the instructions, where nothing is said of their blocks -/
abbrev Body (w : World) (v : Value) (xs : List Ins) : Prop := BodyR (fun _ => True) w v xs
theorem BodyR.ext {F : Nat → Prop} {w w' : World} {v : Value} {xs : List Ins} (h : BodyR F w v xs) (hc : Ext w w') : BodyR F w' v xs := h.chg hc (fun _ _ _ h => h)
theorem BodyR.slice {F : Nat → Prop} {w : World} {v : Value} {xs : List Ins} (h : BodyR F w v xs) : ∃ p cap, v = .slice p xs.length cap ∧ xs.length ≤ 1353247013952 := by
  obtain ⟨p, cap, rfl, hl, _⟩ := h
  exact ⟨p, cap, rfl, hl⟩
theorem BodyR.at {F : Nat → Prop} {w : World} {p : Option Addr} {n cap : Nat} {xs : List Ins} (h : BodyR F w (.slice p n cap) xs) {i : Nat} (hi : i < xs.length) :
    ∃ b off, p = some ⟨b, off, none⟩ ∧ F b ∧ ∀ i, i < xs.length → InsR F w b (off + i * 9) (ix xs i) := by
  obtain ⟨p', cap', e, hl, h⟩ := h
  cases e
  rcases h with h | ⟨b, off, hp, hF, h⟩
  · subst h; cases hi
  · exact ⟨b, off, hp, hF, h⟩

end Go.Proofs.YtmkgfccfnpmcjaaGreatDoor
