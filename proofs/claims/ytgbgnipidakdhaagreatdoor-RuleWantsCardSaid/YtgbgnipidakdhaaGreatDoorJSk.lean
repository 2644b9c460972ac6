/- A region that draws its order, in which two operations that make memory may come in either order: each order is walked. -/
import Derived.Test.YtgbgnipidakdhaaGreatDoorJY
import Derived.Test.YtgbgnipidakdhaaGreatDoorJMv
import Derived.Test.YtgbgnipidakdhaaGreatDoorJR8
import Derived.Test.YtgbgnipidakdhaaGreatDoorJE
import Derived.Test.YtgbgnipidakdhaaGreatDoorJM4
namespace Go.Proofs.YtgbgnipidakdhaaGreatDoor
open Go.RowKit
section
variable {P : Program} {md : Region.Mode} {C : World → Prop}
theorem no_z {l : List Oper} {listed : Array Bool} : l.length ∉ Region.ready md l.toArray listed := by
  intro h
  obtain ⟨_, o2, ho2, _⟩ := mem_ready.1 h
  have := (Array.getElem?_eq_some_iff.1 ho2).1
  simp at this
end
section
variable {G : Prg} {Q : Exit → Act → World → Prop} {n : Nat} {E : Env} {w : World}
end
theorem ix_map {α β : Type} [Inhabited α] [Inhabited β] {l : List α} {f : α → β} {i : Nat} (h : i < l.length) : ix (l.map f) i = f (ix l i) := by
  rw [ix_eq (by simpa using h), ix_eq h, List.getElem_map]
section
variable {P : Program} {ops : Array Oper} {md : Region.Mode} {C : World → Prop}
def isMv : Op → Bool
  | .move _ | .assign _ => true
  | _ => false
theorem YV.mv {o : Oper} {v : Value} {a : Act} {w0 : World} (hm : isMv o.op = true) (h : YV P ops (fun w => w = w0) o v a) : YV P ops (fun _ => True) o v a := by
  rcases h with ⟨h1, h2⟩ | h
  · refine .inl ⟨h1, fun w _ => ?_⟩
    have h3 := h2 w0 rfl
    obtain ⟨d, op, ty, pos, aft, gd⟩ := o
    cases op <;> simp only [isMv] at hm <;> try cases hm
    all_goals
      simp only [execOp] at h3 ⊢
      simp at h3 ⊢
      exact h3
  · exact .inr h
end
section
variable {G : Prg} {Q : Exit → Act → World → Prop} {n : Nat} {E : Env} {w : World}
theorem Fin.tail {ops : Array Oper} {l1 : List Oper} {e : Exit} (h1 : Ops G ops (.mix false Q (fun _ => True) w) n l1 E) :
    Fin (fun _ a w => wpMix G.P ops (fun _ => True) false (Q .normal) l1 a w) n e E w := ⟨fun a ha => h1.h a ha⟩
end
set_option maxRecDepth 100000
section
variable {n : Nat} {E : Env} {M M' : List Res} {R : List (World → Prop)}
theorem sub_blk {b T : Nat} {cs cs' : List Value} (h : cs' = cs) (hs : M'.Sublist M) : (Res.blk b cs' T :: M').Sublist (Res.blk b cs T :: M) := by subst h; exact hs.cons_cons _
end
def zC : Cen := ⟨0, 0, 0, 0, 0, 0, 0, 0⟩
def add0 (a b : Cen) : Cen := ⟨a.funcs + b.funcs, a.instrs + b.instrs, a.blocks + b.blocks, a.loops + b.loops, a.calls + b.calls, a.loads + b.loads, a.stores + b.stores, a.consts + b.consts⟩
def csum {α : Type} (f : α → Cen) : List α → Cen
  | [] => zC
  | a :: r => add0 (f a) (csum f r)
def one5 (op : Int) : Cen := ⟨0, 1, 0, b01 (op == 3), b01 (op == 16 || op == 17), b01 (decide (0 < width5 op) && decide (op < 54)), b01 (decide (0 < width5 op) && !decide (op < 54)), b01 (op == 65 || op == 66)⟩
noncomputable def nbK (xs : List Ins) : Nat := open Classical in if (checkR xs).2 = 0 ∧ ¬ badB xs then (blocksB xs).length else 0
abbrev TCode : Nat := 109
theorem InsR.all9 {F : Nat → Prop} {w : World} {b o : Nat} {x : Ins} (h : InsR F w b o x) : ∃ tv lv, IntsR F w tv x.types ∧ IntsR F w lv x.labels ∧ ∀ j, j < 9 → w.cell? ⟨b, o + j, none⟩ = ([Value.int .i64 x.op, .int .i64 x.a, .int .i64 x.b, .int .u64 x.n, .int .i64 x.kind, .int .i64 x.val, .int .i64 x.index, tv, lv] : List Value)[j]? := by
  obtain ⟨tv, h1, h2⟩ := h.types
  obtain ⟨lv, h3, h4⟩ := h.labels
  refine ⟨tv, lv, h2, h4, fun j hj => ?_⟩
  match j, hj with
  | 0, _ => exact h.op
  | 1, _ => exact h.a
  | 2, _ => exact h.b
  | 3, _ => exact h.n
  | 4, _ => exact h.kind
  | 5, _ => exact h.val
  | 6, _ => exact h.index
  | 7, _ => exact h1
  | 8, _ => exact h3
section parts
variable {xs : List Ins}
end parts
structure DS (bs : List Bk) (roots : List Int) (s t : List Bool × List Int) (new : List Int) : Prop where
  out : t.2 = s.2 ++ new
  len : t.1.length = bs.length
  cn : cnt t.1 ≤ cnt s.1
  seen : ∀ k : Nat, k < bs.length → (ix t.1 k = true ↔ ix s.1 k = true ∨ (k : Int) ∈ new)
  fresh : ∀ b ∈ new, 0 ≤ b ∧ b < bs.length ∧ ix s.1 b.toNat = false
  nodup : new.Nodup
  closed : ∀ b ∈ new, ∀ n ∈ (ix bs b.toNat).next, 0 ≤ n → n < bs.length → ix t.1 n.toNat = true
  rts : ∀ r ∈ roots, 0 ≤ r → r < bs.length → ix t.1 r.toNat = true
  up : ∀ k, k < new.length → ix new k ∈ roots ∨ ∃ k', k < k' ∧ k' < new.length ∧ ix new k ∈ (ix bs (ix new k').toNat).next
theorem ix_app_right {α : Type} [Inhabited α] {l m : List α} {i : Nat} (h : l.length ≤ i) : ix (l ++ m) i = ix m (i - l.length) := by
  simp only [ix, List.getD_eq_getElem?_getD, List.getElem?_append_right h]
theorem DS.none {bs : List Bk} {s : List Bool × List Int} (hl : s.1.length = bs.length) : DS bs [] s s [] :=
  ⟨by simp, hl, Nat.le_refl _, by simp, by simp, by simp, by simp, by simp, by simp⟩
theorem DS.trans {bs : List Bk} {r1 r2 : List Int} {s t u : List Bool × List Int} {n1 n2 : List Int} (h1 : DS bs r1 s t n1) (h2 : DS bs r2 t u n2) : DS bs (r1 ++ r2) s u (n1 ++ n2) := by
  have up : ∀ k, k < bs.length → ix t.1 k = true → ix u.1 k = true := fun k hk h => (h2.seen k hk).2 (.inl h)
  refine ⟨by rw [h2.out, h1.out, List.append_assoc], h2.len, Nat.le_trans h2.cn h1.cn, fun k hk => ?_, fun b hb => ?_, ?_, fun b hb n hn h0 h1' => ?_, fun r hr h0 h1' => ?_, fun k hk => ?_⟩
  · rw [h2.seen k hk, h1.seen k hk, List.mem_append, or_assoc]
  · rcases List.mem_append.1 hb with h | h
    · exact h1.fresh b h
    · obtain ⟨a1, a2, a3⟩ := h2.fresh b h
      refine ⟨a1, a2, ?_⟩
      cases hs : ix s.1 b.toNat with
      | false => rfl
      | true => have := (h1.seen b.toNat (by omega)).2 (.inl hs); rw [this] at a3; cases a3
  · rw [List.nodup_append]
    refine ⟨h1.nodup, h2.nodup, fun a ha b hb e => ?_⟩
    subst e
    obtain ⟨a1, a2, a3⟩ := h2.fresh a hb
    have := (h1.seen a.toNat (by omega)).2 (.inr (by rw [Int.toNat_of_nonneg a1]; exact ha))
    rw [this] at a3; cases a3
  · rcases List.mem_append.1 hb with h | h
    · exact up _ (by omega) (h1.closed b h n hn h0 h1')
    · exact h2.closed b h n hn h0 h1'
  · rcases List.mem_append.1 hr with h | h
    · exact up _ (by omega) (h1.rts r h h0 h1')
    · exact h2.rts r h h0 h1'
  · rw [List.length_append] at hk ⊢
    by_cases hlt : k < n1.length
    · rw [ix_append_left hlt]
      rcases h1.up k hlt with h | ⟨k', a1, a2, a3⟩
      · exact .inl (List.mem_append_left _ h)
      · exact .inr ⟨k', a1, by omega, by rw [ix_append_left a2]; exact a3⟩
    · rw [ix_app_right (by omega)]
      rcases h2.up (k - n1.length) (by omega) with h | ⟨k', a1, a2, a3⟩
      · exact .inl (List.mem_append_right _ h)
      · refine .inr ⟨k' + n1.length, by omega, by omega, ?_⟩
        rw [ix_app_right (l := n1) (i := k' + n1.length) (by omega), Nat.add_sub_cancel]; exact a3
theorem DS.all {bs : List Bk} {f : Nat} (hd : ∀ (a : Int) (s : List Bool × List Int), s.1.length = bs.length → cnt s.1 < f → ∃ new, DS bs [a] s (deepR bs f a s) new) : ∀ (l : List Int) (s : List Bool × List Int), s.1.length = bs.length → cnt s.1 < f → ∃ new, DS bs l s (l.foldl (fun s b => deepR bs f b s) s) new
  | [], s, hl, _ => ⟨[], DS.none hl⟩
  | a :: r, s, hl, hc => by
    obtain ⟨n1, h1⟩ := hd a s hl hc
    obtain ⟨n2, h2⟩ := DS.all hd r (deepR bs f a s) h1.len (Nat.lt_of_le_of_lt h1.cn hc)
    exact ⟨n1 ++ n2, h1.trans h2⟩
theorem DS.at {bs : List Bk} {s t : List Bool × List Int} {a : Int} {new : List Int} (h0 : 0 ≤ a) (h1 : a < bs.length) (hs : ix s.1 a.toNat = false) (hl : s.1.length = bs.length)
    (h : DS bs (ix bs a.toNat).next (s.1.set a.toNat true, s.2) t new) : DS bs [a] s (t.1, t.2 ++ [a]) (new ++ [a]) := by
  have hset : ∀ k : Nat, k < bs.length → (ix (s.1.set a.toNat true) k = true ↔ ix s.1 k = true ∨ (k : Int) = a) := fun k hk => by
    by_cases e : k = a.toNat
    · subst e; rw [ix_set_same (by omega)]; simp; omega
    · rw [ix_set_other e]
      constructor
      · exact .inl
      · rintro (h | h)
        · exact h
        · omega
  have hnew : ∀ b ∈ new, 0 ≤ b ∧ b < bs.length ∧ ix s.1 b.toNat = false ∧ b ≠ a := fun b hb => by
    obtain ⟨a1, a2, a3⟩ := h.fresh b hb
    refine ⟨a1, a2, ?_, ?_⟩
    · cases hs' : ix s.1 b.toNat with
      | false => rfl
      | true => have := (hset b.toNat (by omega)).2 (.inl hs'); rw [this] at a3; cases a3
    · intro e
      have := (hset b.toNat (by omega)).2 (.inr (by omega)); rw [this] at a3; cases a3
  have ha : ix t.1 a.toNat = true := (h.seen a.toNat (by omega)).2 (.inl ((hset _ (by omega)).2 (.inr (by omega))))
  refine ⟨by rw [h.out, List.append_assoc], h.len, ?_, fun k hk => ?_, fun b hb => ?_, ?_, fun b hb n hn h2 h3 => ?_, fun r hr _ _ => ?_, fun k hk => ?_⟩
  · have := h.cn; have := cnt_set (seen := s.1) (i := a.toNat) (by omega) hs; dsimp only at *; omega
  · rw [h.seen k hk, hset k hk, List.mem_append, List.mem_singleton]
    constructor
    · rintro ((h | h) | h)
      · exact .inl h
      · exact .inr (.inr h)
      · exact .inr (.inl h)
    · rintro (h | h | h)
      · exact .inl (.inl h)
      · exact .inr h
      · exact .inl (.inr h)
  · rcases List.mem_append.1 hb with h | h
    · obtain ⟨a1, a2, a3, -⟩ := hnew b h; exact ⟨a1, a2, a3⟩
    · rw [List.mem_singleton] at h; subst h; exact ⟨h0, h1, hs⟩
  · rw [List.nodup_append]
    refine ⟨h.nodup, by simp, fun b hb c hc e => ?_⟩
    rw [List.mem_singleton] at hc
    exact (hnew b hb).2.2.2 (e.trans hc)
  · rcases List.mem_append.1 hb with h' | h'
    · exact h.closed b h' n hn h2 h3
    · rw [List.mem_singleton] at h'; subst h'; exact h.rts n hn h2 h3
  · rw [List.mem_singleton] at hr; subst hr; exact ha
  · rw [List.length_append, List.length_singleton] at hk ⊢
    by_cases e : k = new.length
    · rw [ix_append_last e]; exact .inl (by simp)
    · have hk' : k < new.length := by omega
      rw [ix_append_left hk']
      right
      rcases h.up k hk' with h' | ⟨k', a1, a2, a3⟩
      · exact ⟨new.length, hk', by omega, by rw [ix_append_last rfl]; exact h'⟩
      · exact ⟨k', a1, by omega, by rw [ix_append_left a2]; exact a3⟩
structure Stk where
  ts : List Int
  ps : List (Int × Bool)
  most : Nat
  deriving Inhabited
def Stk.at_ (s : Stk) : Int := (ix s.ps (s.ps.length - 1)).1
def Stk.loose (s : Stk) : Bool := (ix s.ps (s.ps.length - 1)).2
structure Stk.Ok (s : Stk) : Prop where
  some : 0 < s.ps.length
  le : ∀ i, i < s.ps.length → 0 ≤ (ix s.ps i).1 ∧ (ix s.ps i).1 ≤ s.ts.length
def leftK (s : Stk) : List Int → Nat → Nat × Int
  | [], n => (n, 0)
  | x :: r, n => if (n : Int) = s.at_ then (if s.loose then leftK s r n else (0, 13)) else
      if ix s.ts (n - 1) ≠ x ∧ ix s.ts (n - 1) ≠ 0 ∧ x ≠ 0 then (0, 12) else leftK s r (n - 1)
def wantK (s : Stk) (l : List Int) : Stk × Int :=
  let r := leftK s l.reverse s.ts.length
  if r.2 = 0 then ({ s with ts := s.ts.take r.1 }, 0) else (s, r.2)
def pushK (s : Stk) (l : List Int) : Stk := { s with ts := s.ts ++ l, most := max s.most (s.ts.length + l.length) }
def openK (s : Stk) : Stk := { s with ps := s.ps ++ [((s.ts.length : Int), false)] }
theorem leftK_at {s : Stk} : ∀ (l : List Int) (n : Nat), s.at_ ≤ n → (leftK s l n).2 = 0 → s.at_ ≤ (leftK s l n).1 ∧ (leftK s l n).1 ≤ n
  | [], n, h, _ => ⟨h, Nat.le_refl _⟩
  | x :: r, n, h, he => by
    rw [leftK] at he ⊢
    split at he
    · split at he
      · rename_i h1 h2
        rw [if_pos h1, if_pos h2]; exact leftK_at r n h he
      · cases he
    · rename_i h1
      split at he
      · cases he
      · rename_i h2
        rw [if_neg h1, if_neg h2]
        have := leftK_at r (n - 1) (by omega) he
        omega
structure Frm where
  kind : Int
  par : List Int
  res : List Int
  other : Bool
  was : Bool
  deriving Inhabited
structure Ctl where
  stk : Stk
  fs : List Frm
  results : List Int
  live : Bool
  broken : Int
def Ctl.top (c : Ctl) : Frm := ix c.fs (c.fs.length - 1)
def newC (results : List Int) : Ctl := ⟨⟨[], [(0, false), (0, false)], 0⟩, [⟨0, [], results, false, true⟩], results, true, 0⟩
def Frm.op (f : Frm) : Int := if f.kind = 0 then 11 else if f.other = true then 5 else f.kind
structure Ctl.Ok (c : Ctl) : Prop where
  stk : c.stk.Ok
  many : c.stk.ps.length = c.fs.length + 1
  kinds : ∀ i, i < c.fs.length → (ix c.fs i).kind = 0 ∨ (ix c.fs i).kind = 2 ∨ (ix c.fs i).kind = 3 ∨ (ix c.fs i).kind = 4
  other : ∀ i, i < c.fs.length → (ix c.fs i).other = true → (ix c.fs i).kind = 4
  ended : c.fs.length = 0 → c.live = true
  first : 0 < c.fs.length → (ix c.fs 0).was = true
theorem Stk.Ok.at_ {s : Stk} (h : s.Ok) : 0 ≤ s.at_ ∧ s.at_ ≤ s.ts.length := by
  have := h.some
  exact h.le _ (by omega)
structure Stk.Wf (s : Stk) : Prop where
  some : 0 < s.ps.length
  pos : ∀ i, i < s.ps.length → 0 ≤ (ix s.ps i).1
  mono : ∀ i j, i ≤ j → j < s.ps.length → (ix s.ps i).1 ≤ (ix s.ps j).1
  top : s.at_ ≤ s.ts.length
theorem Stk.Wf.ok {s : Stk} (h : s.Wf) : s.Ok := ⟨h.some, fun i hi => ⟨h.pos i hi, by
  have := h.mono i (s.ps.length - 1) (by omega) (by omega)
  have h2 : (ix s.ps (s.ps.length - 1)).1 ≤ s.ts.length := h.top
  omega⟩⟩
theorem Stk.Wf.at_ {s : Stk} (h : s.Wf) : 0 ≤ s.at_ ∧ s.at_ ≤ s.ts.length := h.ok.at_
theorem take_wf {s : Stk} (h : s.Wf) {n : Nat} (hn : s.at_ ≤ n) (hl : n ≤ s.ts.length) : ({ s with ts := s.ts.take n } : Stk).Wf := ⟨h.some, h.pos, h.mono, by show s.at_ ≤ ((s.ts.take n).length : Int); rw [List.length_take]; omega⟩
theorem wantK_wf {s : Stk} (h : s.Wf) (l : List Int) : (wantK s l).1.Wf := by
  unfold wantK
  dsimp only
  split
  · rename_i h0
    have := leftK_at l.reverse s.ts.length h.top h0
    exact take_wf h this.1 this.2
  · exact h
theorem ix_take {α : Type} [Inhabited α] {l : List α} {n i : Nat} (hi : i < n) (hl : n ≤ l.length) : ix (l.take n) i = ix l i := by
  rw [ix_eq (by rw [List.length_take]; omega), ix_eq (by omega)]; simp
structure FrOk (fs : List Frm) : Prop where
  kinds : ∀ i, i < fs.length → (ix fs i).kind = 0 ∨ (ix fs i).kind = 2 ∨ (ix fs i).kind = 3 ∨ (ix fs i).kind = 4
  other : ∀ i, i < fs.length → (ix fs i).other = true → (ix fs i).kind = 4
  first : 0 < fs.length → (ix fs 0).was = true ∧ (ix fs 0).kind = 0
theorem FrOk.take {fs : List Frm} (h : FrOk fs) {n : Nat} (hn : n ≤ fs.length) : FrOk (fs.take n) := by
  have hl : (fs.take n).length = n := by rw [List.length_take]; omega
  refine ⟨fun i hi => ?_, fun i hi => ?_, fun h0 => ?_⟩
  · rw [hl] at hi; rw [ix_take hi hn]; exact h.kinds i (by omega)
  · rw [hl] at hi; rw [ix_take hi hn]; exact h.other i (by omega)
  · rw [hl] at h0; rw [ix_take h0 hn]; exact h.first (by omega)
structure Ctl.Wf (c : Ctl) : Prop where
  stk : c.stk.Wf
  many : c.stk.ps.length = c.fs.length + 1
  fr : FrOk c.fs
  ended : c.fs.length = 0 → c.live = true
theorem newC_wf (r : List Int) : (newC r).Wf := by
  refine ⟨⟨by simp [newC], fun i hi => ?_, fun i j hij hj => ?_, show (0 : Int) ≤ 0 from Int.le_refl _⟩, rfl, ⟨fun i hi => ?_, fun i hi h => ?_, fun _ => ⟨rfl, rfl⟩⟩, fun h => by simp [newC] at h⟩
  · have : i = 0 ∨ i = 1 := by simp [newC] at hi; omega
    rcases this with rfl | rfl <;> simp [newC, ix]
  · have : (i = 0 ∨ i = 1) ∧ (j = 0 ∨ j = 1) := by simp [newC] at hj; omega
    obtain ⟨rfl | rfl, rfl | rfl⟩ := this <;> simp [newC, ix]
  · have : i = 0 := by simp [newC] at hi; exact hi
    subst this; exact .inl rfl
  · have : i = 0 := by simp [newC] at hi; exact hi
    subst this; cases h
end Go.Proofs.YtgbgnipidakdhaaGreatDoor
