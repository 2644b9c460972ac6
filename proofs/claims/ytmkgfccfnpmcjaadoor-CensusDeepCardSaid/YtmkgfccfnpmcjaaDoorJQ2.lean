/- Plain laws (no program in sight): the longest chain of a call graph, by heights and by walks. -/
import Derived.Test.YtmkgfccfnpmcjaaDoorJP1
import Derived.Test.YtmkgfccfnpmcjaaDoorJC3
namespace Go.Proofs.YtmkgfccfnpmcjaaDoor

/-- there is a walk of m edges from i to k -/
inductive Wk (g : List (List Int)) : Nat → Nat → Nat → Prop
  | nil {i : Nat} (h : i < g.length) : Wk g 0 i i
  | cons {m i j k : Nat} (h : i < g.length) (e : (j : Int) ∈ ix g i) (w : Wk g m j k) : Wk g (m + 1) i k
theorem Wk.lt {g : List (List Int)} {m i k : Nat} (h : Wk g m i k) : i < g.length ∧ k < g.length := by
  induction h with
  | nil h => exact ⟨h, h⟩
  | cons h _ _ ih => exact ⟨h, ih.2⟩
theorem Wk.snoc {g : List (List Int)} {m i j k : Nat} (h : Wk g m i j) (e : (k : Int) ∈ ix g j) (hk : k < g.length) : Wk g (m + 1) i k := by
  induction h with
  | nil h => exact .cons h e (.nil hk)
  | cons h e' _ ih => exact .cons h e' (ih e)
theorem Wk.unsnoc {g : List (List Int)} : ∀ {m i k : Nat}, Wk g (m + 1) i k → ∃ j, Wk g m i j ∧ (k : Int) ∈ ix g j
  | 0, i, k, .cons h e (.nil _) => ⟨i, .nil h, e⟩
  | m + 1, i, k, .cons h e w => by
    obtain ⟨j, h1, h2⟩ := Wk.unsnoc w
    exact ⟨j, .cons h e h1, h2⟩
theorem Wk.trans {g : List (List Int)} {m p i j k : Nat} (h : Wk g m i j) (h2 : Wk g p j k) : Wk g (m + p) i k := by
  induction h with
  | nil _ => rwa [Nat.zero_add]
  | cons h e _ ih => rw [Nat.add_right_comm]; exact .cons h e (ih h2)

/-- the ends of the walks of m edges -/
def endsOf (g : List (List Int)) : Nat → List Bool
  | 0 => List.replicate g.length true
  | m + 1 => (List.range g.length).map fun k : Nat => (List.range g.length).any fun i => ix (endsOf g m) i && (ix g i).contains (k : Int)
theorem endsOf_len (g : List (List Int)) : ∀ m, (endsOf g m).length = g.length
  | 0 => by simp [endsOf]
  | m + 1 => by simp [endsOf]
theorem endsOf_iff {g : List (List Int)} : ∀ (m : Nat) {k : Nat}, k < g.length → (ix (endsOf g m) k = true ↔ ∃ i, Wk g m i k)
  | 0, k, hk => by
    rw [ix_eq (by rw [endsOf_len]; exact hk)]
    simp only [endsOf, List.getElem_replicate, true_iff]
    exact ⟨k, .nil hk⟩
  | m + 1, k, hk => by
    have e : ix (endsOf g (m + 1)) k = (List.range g.length).any fun i => ix (endsOf g m) i && (ix g i).contains (k : Int) := ix_map_range hk
    rw [e, List.any_eq_true]
    constructor
    · rintro ⟨j, hj, h⟩
      rw [Bool.and_eq_true] at h
      obtain ⟨i, hi⟩ := (endsOf_iff m (List.mem_range.1 hj)).1 h.1
      exact ⟨i, hi.snoc (by simpa using h.2) hk⟩
    · rintro ⟨i, hi⟩
      obtain ⟨j, h1, h2⟩ := hi.unsnoc
      exact ⟨j, List.mem_range.2 h1.lt.2, by rw [Bool.and_eq_true]; exact ⟨(endsOf_iff m h1.lt.2).2 ⟨i, h1⟩, by simpa using h2⟩⟩
def someEnd (g : List (List Int)) (m : Nat) : Bool := (endsOf g m).any id
theorem someEnd_iff {g : List (List Int)} {m : Nat} : someEnd g m = true ↔ ∃ i k, Wk g m i k := by
  unfold someEnd
  rw [List.any_eq_true]
  constructor
  · rintro ⟨b, hb, h⟩
    obtain ⟨k, hk, e⟩ := List.getElem_of_mem hb
    rw [endsOf_len] at hk
    obtain ⟨i, hi⟩ := (endsOf_iff m hk).1 (by rw [ix_eq (by rw [endsOf_len]; exact hk), e]; exact h)
    exact ⟨i, k, hi⟩
  · rintro ⟨i, k, h⟩
    have hk := h.lt.2
    have := (endsOf_iff m hk).2 ⟨i, h⟩
    rw [ix_eq (by rw [endsOf_len]; exact hk)] at this
    exact ⟨_, List.getElem_mem (by rw [endsOf_len]; exact hk), this⟩
/-- the first number of edges, from m on, that no walk has -/
def deepFrom (g : List (List Int)) : Nat → Nat → Int
  | 0, _ => -1
  | f + 1, m => if someEnd g m = true then deepFrom g f (m + 1) else m
/-- the longest chain; -1: there is none -/
def deepG (g : List (List Int)) : Int := deepFrom g (g.length + 1) 0

theorem deepFrom_is {g : List (List Int)} {d : Nat} (h1 : ∀ m, m < d → someEnd g m = true) (h2 : someEnd g d = false) : ∀ (f m : Nat), m ≤ d → d < m + f → deepFrom g f m = d
  | 0, m, _, h => by omega
  | f + 1, m, h, h' => by
    rw [deepFrom]
    by_cases e : m = d
    · subst e; rw [if_neg (by rw [h2]; simp)]
    · rw [if_pos (h1 m (by omega))]; exact deepFrom_is h1 h2 f (m + 1) (by omega) (by omega)
theorem deepFrom_no {g : List (List Int)} (h1 : ∀ m, someEnd g m = true) : ∀ (f m : Nat), deepFrom g f m = -1
  | 0, _ => rfl
  | f + 1, m => by rw [deepFrom, if_pos (h1 m)]; exact deepFrom_no h1 f (m + 1)

/-- heights: h falls along every edge, and each vertex that is not alone has a successor just below -/
structure Hts (g : List (List Int)) (h : Nat → Nat) : Prop where
  pos : ∀ i, i < g.length → 0 < h i
  rng : ∀ i, i < g.length → ∀ a ∈ ix g i, 0 ≤ a ∧ a < g.length
  fall : ∀ i, i < g.length → ∀ k : Nat, (k : Int) ∈ ix g i → h k < h i
  step : ∀ i, i < g.length → 1 < h i → ∃ k : Nat, (k : Int) ∈ ix g i ∧ h i = h k + 1
theorem Hts.walk {g : List (List Int)} {h : Nat → Nat} (H : Hts g h) {m i k : Nat} (w : Wk g m i k) : h k + m ≤ h i := by
  induction w with
  | nil _ => omega
  | cons hi e w ih => have := H.fall _ hi _ e; omega
theorem Hts.down {g : List (List Int)} {h : Nat → Nat} (H : Hts g h) : ∀ (m i : Nat), i < g.length → m < h i → ∃ k, Wk g m i k
  | 0, i, hi, _ => ⟨i, .nil hi⟩
  | m + 1, i, hi, hm => by
    obtain ⟨j, hj, e⟩ := H.step i hi (by omega)
    have := (H.rng i hi _ hj).2
    obtain ⟨k, hk⟩ := H.down m j (by omega) (by omega)
    exact ⟨k, .cons hi hj hk⟩
/-- a walk that falls meets no vertex twice -/
theorem Hts.few {g : List (List Int)} {h : Nat → Nat} (H : Hts g h) {m i k : Nat} (w : Wk g m i k) : ∃ l : List Int, l.length = m + 1 ∧ l.Nodup ∧ ∀ a ∈ l, 0 ≤ a ∧ a < (g.length : Int) ∧ h a.toNat ≤ h i := by
  induction w with
  | @nil i hi => exact ⟨[(i : Int)], rfl, by simp, fun a ha => by simp at ha; subst ha; exact ⟨by omega, by omega, by simp⟩⟩
  | @cons m i j k hi e w ih =>
    obtain ⟨l, h1, h2, h3⟩ := ih
    have hf := H.fall i hi j e
    refine ⟨(i : Int) :: l, by simp [h1], List.nodup_cons.2 ⟨fun hm => ?_, h2⟩, fun a ha => ?_⟩
    · have := (h3 _ hm).2.2; rw [Int.toNat_natCast] at this; omega
    · rcases List.mem_cons.1 ha with rfl | ha
      · exact ⟨by omega, by omega, by simp⟩
      · have := h3 a ha; exact ⟨this.1, this.2.1, by omega⟩
/-- the longest chain is the greatest height -/
theorem deepG_hts {g : List (List Int)} {h : Nat → Nat} (H : Hts g h) {d : Nat} (hd : ∀ i, i < g.length → h i ≤ d) (hm : d = 0 ∨ ∃ i, i < g.length ∧ h i = d) : deepG g = d := by
  have hle : d ≤ g.length := by
    rcases hm with h0 | ⟨i, hi, e⟩
    · omega
    · have hp := H.pos i hi
      obtain ⟨k, hk⟩ := H.down (d - 1) i hi (by omega)
      obtain ⟨l, h1, h2, h3⟩ := H.few hk
      have := nodup_lt h2 (fun a ha => ⟨(h3 a ha).1, (h3 a ha).2.1⟩)
      omega
  refine deepFrom_is (fun m hmd => ?_) ?_ _ 0 (Nat.zero_le _) (by omega)
  · rcases hm with h0 | ⟨i, hi, e⟩
    · omega
    · obtain ⟨k, hk⟩ := H.down m i hi (by omega)
      exact someEnd_iff.2 ⟨i, k, hk⟩
  · rw [Bool.eq_false_iff, ne_eq, someEnd_iff]
    rintro ⟨i, k, w⟩
    have h1 := H.walk w
    have h2 := H.pos k w.lt.2
    have h3 := hd i w.lt.1
    omega
/-- a ring: walks of every length -/
theorem deepG_ring {g : List (List Int)} {p i : Nat} (w : Wk g (p + 1) i i) : deepG g = -1 := by
  have key : ∀ (m v q : Nat), Wk g q v i → ∃ k, Wk g m v k := by
    intro m
    induction m with
    | zero => intro v q h; exact ⟨v, .nil h.lt.1⟩
    | succ m ih =>
      intro v q h
      cases h with
      | nil hi =>
        cases w with
        | cons h1 e w' => obtain ⟨k, hk⟩ := ih _ _ w'; exact ⟨k, .cons h1 e hk⟩
      | cons h1 e w' => obtain ⟨k, hk⟩ := ih _ _ w'; exact ⟨k, .cons h1 e hk⟩
  exact deepFrom_no (fun m => by obtain ⟨k, hk⟩ := key m i _ w; exact someEnd_iff.2 ⟨i, k, hk⟩) _ 0
end Go.Proofs.YtmkgfccfnpmcjaaDoor
/- Plain laws (no program in sight): the search for the longest chain. -/
namespace Go.Proofs.YtmkgfccfnpmcjaaDoor

/-- the state of the search -/
structure DSt where
  long : List Int
  op : List Bool
  ring : Bool
def maxI (a b : Int) : Int := if a < b then b else a
/-- the search from i: the state behind it, and what it returns -/
def fromR (g : List (List Int)) : Nat → Nat → DSt → DSt × Int
  | 0, i, s => (s, ix s.long i)
  | f + 1, i, s =>
    let r := s.ring || ix s.op i
    if r || decide (0 < ix s.long i) then ({ s with ring := r }, ix s.long i)
    else
      let t := (ix g i).foldl (fun (t : DSt × Int) k => let u := fromR g f k.toNat t.1; (u.1, maxI t.2 u.2)) ({ s with op := s.op.set i true }, 0)
      ({ long := t.1.long.set i (t.2 + 1), op := t.1.op.set i false, ring := t.1.ring }, t.2 + 1)
def foldR (g : List (List Int)) (f : Nat) (l : List Int) (t : DSt × Int) : DSt × Int := l.foldl (fun (t : DSt × Int) k => let u := fromR g f k.toNat t.1; (u.1, maxI t.2 u.2)) t

def cnt0 (l : List Int) : Nat := l.countP (fun a => a == 0)
/-- what is always so -/
structure DOk (g : List (List Int)) (s : DSt) : Prop where
  ll : s.long.length = g.length
  lo : s.op.length = g.length
  nn : ∀ v, v < g.length → 0 ≤ ix s.long v ∧ ix s.long v + cnt0 s.long ≤ g.length
/-- what is finished is right -/
def DCl (g : List (List Int)) (s : DSt) : Prop :=
  ∀ v, v < g.length → 0 < ix s.long v → (∀ k : Nat, (k : Int) ∈ ix g v → 0 < ix s.long k ∧ ix s.long k < ix s.long v) ∧ (1 < ix s.long v → ∃ k : Nat, (k : Int) ∈ ix g v ∧ ix s.long v = ix s.long k + 1)
def Ring (g : List (List Int)) : Prop := ∃ p v, Wk g (p + 1) v v
/-- from s to t, the places rs having been searched -/
structure FS (g : List (List Int)) (rs : List Int) (s t : DSt) : Prop where
  ok : DOk g t
  op : t.op = s.op
  cn : cnt0 t.long ≤ cnt0 s.long
  keep : ∀ v, v < g.length → 0 < ix s.long v → ix t.long v = ix s.long v
  stay : ∀ v, v < g.length → ix s.op v = true → ix t.long v = ix s.long v
  up : s.ring = true → t.ring = true
  cl : DCl g s → t.ring = false → DCl g t
  cyc : s.ring = false → t.ring = true → (∀ o, o < g.length → ix s.op o = true → ∀ r ∈ rs, ∃ m, Wk g (m + 1) o r.toNat) → Ring g
  fin : t.ring = false → ∀ r ∈ rs, 0 < ix t.long r.toNat

theorem FS.refl {g : List (List Int)} {s : DSt} (h : DOk g s) : FS g [] s s := ⟨h, rfl, Nat.le_refl _, fun _ _ _ => rfl, fun _ _ _ => rfl, id, fun h _ => h, fun h1 h2 => (by rw [h1] at h2; cases h2), fun _ => by simp⟩
theorem FS.trans {g : List (List Int)} {rs qs : List Int} {s t u : DSt} (hq : ∀ a ∈ rs, 0 ≤ a ∧ a < g.length) (h : FS g rs s t) (k : FS g qs t u) : FS g (rs ++ qs) s u := by
  have hr : u.ring = false → t.ring = false := fun e => by
    cases ht : t.ring with
    | false => rfl
    | true => rw [k.up ht] at e; cases e
  refine ⟨k.ok, k.op.trans h.op, Nat.le_trans k.cn h.cn, fun v hv h0 => ?_, fun v hv h0 => by rw [k.stay v hv (by rw [h.op]; exact h0), h.stay v hv h0], fun e => k.up (h.up e), fun hc e => k.cl (h.cl hc (hr e)) e, fun h1 h2 hw => ?_, fun e r hm => ?_⟩
  · have e := h.keep v hv h0
    rw [k.keep v hv (by rw [e]; exact h0), e]
  · cases ht : t.ring with
    | true => exact h.cyc h1 ht (fun o ho e r hm => hw o ho e r (List.mem_append_left _ hm))
    | false => exact k.cyc ht h2 (fun o ho e r hm => hw o ho (by rw [← h.op]; exact e) r (List.mem_append_right _ hm))
  · rcases List.mem_append.1 hm with h' | h'
    · have h3 := h.fin (hr e) r h'
      have := hq r h'
      rw [k.keep r.toNat (by omega) h3]; exact h3
    · exact k.fin e r h'
/-- what the fold has found -/
structure FM (g : List (List Int)) (rs : List Int) (m0 : Int) (t : DSt) (m : Int) : Prop where
  nn : m0 ≤ m
  bd : m + cnt0 t.long ≤ g.length
  all : t.ring = false → ∀ r ∈ rs, ix t.long r.toNat ≤ m
  one : t.ring = false → m = m0 ∨ ∃ r ∈ rs, m = ix t.long r.toNat

theorem maxI_le (a b : Int) : a ≤ maxI a b ∧ b ≤ maxI a b ∧ (maxI a b = a ∨ maxI a b = b) := by unfold maxI; split <;> omega
theorem ix_set {α : Type} [Inhabited α] {l : List α} {i j : Nat} {a : α} (hi : i < l.length) : ix (l.set i a) j = if j = i then a else ix l j := by
  by_cases h : j = i
  · subst h; rw [if_pos rfl, ix_set_same hi]
  · rw [if_neg h, ix_set_other h]
theorem cnt0_set {l : List Int} {i : Nat} {a : Int} (hi : i < l.length) (h : ix l i = 0) (ha : a ≠ 0) : cnt0 (l.set i a) + 1 = cnt0 l := by
  unfold cnt0
  rw [ix_eq hi] at h
  have := List.countP_set (p := fun a => a == 0) (l := l) (i := i) (a := a) hi
  rw [this]
  have hm : l[i] ∈ l := List.getElem_mem hi
  have hp : 0 < l.countP (fun a => a == 0) := List.countP_pos_iff.2 ⟨l[i], hm, by simp [h]⟩
  simp [h, ha]; omega

theorem foldR_ok {g : List (List Int)} {f : Nat} (hf : ∀ (i : Nat) (s : DSt), i < g.length → DOk g s → cnt s.op < f → FS g [(i : Int)] s (fromR g f i s).1 ∧ (fromR g f i s).2 = ix (fromR g f i s).1.long i) :
    ∀ (l : List Int) (s : DSt) (m0 : Int), (∀ a ∈ l, 0 ≤ a ∧ a < g.length) → DOk g s → cnt s.op < f → m0 + cnt0 s.long ≤ g.length → FS g l s (foldR g f l (s, m0)).1 ∧ FM g l m0 (foldR g f l (s, m0)).1 (foldR g f l (s, m0)).2
  | [], s, m0, _, hs, _, hm => ⟨FS.refl hs, ⟨by simp [foldR], by simpa [foldR] using hm, by simp, by simp [foldR]⟩⟩
  | a :: l, s, m0, hl, hs, hc, hm => by
    have ha := hl a (by simp)
    obtain ⟨an, rfl⟩ := Int.eq_ofNat_of_zero_le ha.1
    obtain ⟨h1, h2⟩ := hf an s (by omega) hs hc
    have e : foldR g f ((an : Int) :: l) (s, m0) = foldR g f l ((fromR g f an s).1, maxI m0 (fromR g f an s).2) := by
      unfold foldR; rw [List.foldl_cons]; rfl
    rw [e]
    generalize (fromR g f an s).2 = r at *
    generalize (fromR g f an s).1 = t at *
    have hv := h1.ok.nn an (by omega)
    have hmx := maxI_le m0 r
    have hcn := h1.cn
    obtain ⟨h3, h4⟩ := foldR_ok hf l t (maxI m0 r) (fun b hb => hl b (by simp [hb])) h1.ok (by rw [h1.op]; exact hc) (by omega)
    refine ⟨FS.trans (rs := [(an : Int)]) (by simp; omega) h1 h3, ⟨by have := h4.nn; omega, h4.bd, fun hr b hb => ?_, fun hr => ?_⟩⟩
    · rcases List.mem_cons.1 hb with rfl | hb
      · rw [Int.toNat_natCast]
        have ht : t.ring = false := by
          cases ht : t.ring with
          | false => rfl
          | true => rw [h3.up ht] at hr; cases hr
        have h5 := h1.fin ht an (by simp)
        rw [Int.toNat_natCast] at h5
        rw [h3.keep an (by omega) h5]
        have := h4.nn; omega
      · exact h4.all hr b hb
    · have ht : t.ring = false := by
        cases ht : t.ring with
        | false => rfl
        | true => rw [h3.up ht] at hr; cases hr
      rcases h4.one hr with h | ⟨b, hb, h⟩
      · rcases hmx.2.2 with h' | h'
        · exact .inl (by omega)
        · right
          refine ⟨an, by simp, ?_⟩
          have h5 := h1.fin ht an (by simp)
          rw [Int.toNat_natCast] at h5 ⊢
          rw [h3.keep an (by omega) h5]; omega
      · exact .inr ⟨b, by simp [hb], h⟩

theorem fromR_ok {g : List (List Int)} (hg : ∀ i, i < g.length → ∀ a ∈ ix g i, 0 ≤ a ∧ a < g.length) : ∀ (f i : Nat) (s : DSt), i < g.length → DOk g s → cnt s.op < f → FS g [(i : Int)] s (fromR g f i s).1 ∧ (fromR g f i s).2 = ix (fromR g f i s).1.long i
  | 0, _, _, _, _, h => by omega
  | f + 1, i, s, hi, hs, hc => by
    have hnn := hs.nn i hi
    unfold fromR
    dsimp only
    by_cases hr : (s.ring || ix s.op i || decide (0 < ix s.long i)) = true
    · rw [if_pos hr]
      refine ⟨⟨⟨hs.ll, hs.lo, hs.nn⟩, rfl, Nat.le_refl _, fun _ _ _ => rfl, fun _ _ _ => rfl, fun h => by simp [h], fun h _ => h, fun h1 h2 hw => ?_, fun h r hm => ?_⟩, rfl⟩
      · dsimp only at h2
        rw [h1, Bool.false_or] at h2
        obtain ⟨m, hm⟩ := hw i hi h2 i (by simp)
        rw [Int.toNat_natCast] at hm
        exact ⟨m, i, hm⟩
      · dsimp only at h ⊢
        rw [List.mem_singleton] at hm
        subst hm
        rw [Int.toNat_natCast]
        rw [h, Bool.false_or, decide_eq_true_eq] at hr
        exact hr
    · rw [if_neg hr]
      simp only [Bool.or_eq_true, decide_eq_true_eq, not_or, Bool.not_eq_true] at hr
      obtain ⟨⟨hr1, hr2⟩, hr3⟩ := hr
      have hz : ix s.long i = 0 := by omega
      have hset := cnt_set (seen := s.op) (i := i) (by rw [hs.lo]; exact hi) hr2
      have hs2 : DOk g { s with op := s.op.set i true } := ⟨hs.ll, by simpa using hs.lo, hs.nn⟩
      obtain ⟨h1, h2⟩ := foldR_ok (f := f) (fun i s => fromR_ok hg f i s) (ix g i) { s with op := s.op.set i true } 0 (hg i hi) hs2 (by dsimp only; omega) (by have := hs.nn i hi; dsimp only; omega)
      have e : (ix g i).foldl (fun (t : DSt × Int) k => let u := fromR g f k.toNat t.1; (u.1, maxI t.2 u.2)) ({ s with op := s.op.set i true }, 0) = foldR g f (ix g i) ({ s with op := s.op.set i true }, 0) := rfl
      rw [e]
      generalize hT : foldR g f (ix g i) ({ s with op := s.op.set i true }, 0) = T at *
      obtain ⟨t, m⟩ := T
      dsimp only at h1 h2 ⊢
      have hop := h1.op
      dsimp only at hop
      have hti : i < t.long.length := by rw [h1.ok.ll]; exact hi
      have hm0 := h2.nn
      -- at i nothing has been laid
      have hset2 : ∀ v, ix (t.long.set i (m + 1)) v = if v = i then m + 1 else ix t.long v := fun v => ix_set hti
      have hopn : t.op.set i false = s.op := by
        rw [hop, List.set_set]
        refine ix_ext (by simp) (fun k hk => ?_)
        rw [List.length_set] at hk
        by_cases e : k = i
        · subst e; rw [ix_set_same hk, hr2]
        · rw [ix_set_other e]
      have hti0 : ix t.long i = 0 := by
        rw [h1.stay i hi (by dsimp only; rw [ix_set_same (by rw [hs.lo]; exact hi)])]; exact hz
      · have hcs := cnt0_set (l := t.long) (i := i) (a := m + 1) hti hti0 (by omega)
        have hbd := h2.bd
        have hcn := h1.cn
        dsimp only at hcn
        refine ⟨⟨⟨by simpa using h1.ok.ll, by rw [hopn]; exact hs.lo, fun v hv => ?_⟩, hopn, by dsimp only; omega, fun v hv h0 => ?_, fun v hv h0 => ?_, fun h => ?_, fun hc hrf => ?_, fun h3 h4 hw => ?_, fun h r hm => ?_⟩, ?_⟩
        · dsimp only
          rw [hset2 v]
          have := h1.ok.nn v hv
          split <;> omega
        · dsimp only at h0 ⊢
          rw [hset2 v, if_neg (by rintro rfl; omega)]
          exact h1.keep v hv h0
        · dsimp only
          rw [hset2 v, if_neg (by rintro rfl; rw [hr2] at h0; cases h0)]
          exact h1.stay v hv (by dsimp only; by_cases e : v = i; · subst e; rw [ix_set_same (by rw [hs.lo]; exact hi)]
                                 · rw [ix_set_other e]; exact h0)
        · exact h1.up h
        · intro v hv h0
          dsimp only at h0 hrf ⊢
          have hcl := h1.cl hc hrf
          rw [hset2 v] at h0 ⊢
          by_cases e : v = i
          · subst e
            rw [if_pos rfl]
            refine ⟨fun k hk => ?_, fun h1' => ?_⟩
            · have hk' := hg v hi _ hk
              have hkp := h1.fin hrf k hk
              have hka := h2.all hrf k hk
              rw [Int.toNat_natCast] at hkp hka
              rw [hset2 k, if_neg (by rintro rfl; omega)]
              exact ⟨hkp, by omega⟩
            · rcases h2.one hrf with h' | ⟨r, hr', h'⟩
              · omega
              · have hr'' := hg v hi r hr'
                obtain ⟨k, rfl⟩ := Int.eq_ofNat_of_zero_le hr''.1
                rw [Int.toNat_natCast] at h'
                refine ⟨k, hr', ?_⟩
                have hkp := h1.fin hrf k hr'
                rw [Int.toNat_natCast] at hkp
                rw [hset2 k, if_neg (by rintro rfl; omega)]; omega
          · rw [if_neg e] at h0 ⊢
            obtain ⟨a1, a2⟩ := hcl v hv h0
            refine ⟨fun k hk => ?_, fun h1' => ?_⟩
            · obtain ⟨b1, b2⟩ := a1 k hk
              rw [hset2 k, if_neg (by rintro rfl; omega)]
              exact ⟨b1, b2⟩
            · obtain ⟨k, hk, hk2⟩ := a2 h1'
              obtain ⟨b1, b2⟩ := a1 k hk
              exact ⟨k, hk, by rw [hset2 k, if_neg (by rintro rfl; omega)]; exact hk2⟩
        · dsimp only at h4
          refine h1.cyc h3 h4 (fun o ho he r hr' => ?_)
          dsimp only at he
          have hr'' := hg i hi r hr'
          obtain ⟨k, rfl⟩ := Int.eq_ofNat_of_zero_le hr''.1
          rw [Int.toNat_natCast]
          by_cases e : o = i
          · subst e
            exact ⟨0, .cons hi hr' (.nil (by omega))⟩
          · rw [ix_set_other e] at he
            obtain ⟨m', hm'⟩ := hw o ho he i (by simp)
            rw [Int.toNat_natCast] at hm'
            exact ⟨m' + 1, hm'.snoc hr' (by omega)⟩
        · rw [List.mem_singleton] at hm
          subst hm
          dsimp only
          rw [Int.toNat_natCast, hset2 i, if_pos rfl]; omega
        · rw [hset2 i, if_pos rfl]

def places (n : Nat) : List Int := (List.range n).map fun i : Nat => (i : Int)
def start0 (n : Nat) : DSt := ⟨List.replicate n 0, List.replicate n false, false⟩
/-- the search from every place -/
def allR (g : List (List Int)) : DSt × Int := foldR g (g.length + 1) (places g.length) (start0 g.length, 0)
theorem cnt0_replicate (n : Nat) : cnt0 (List.replicate n 0) = n := by unfold cnt0; rw [List.countP_replicate]; simp
theorem start0_ok (g : List (List Int)) : DOk g (start0 g.length) := by
  refine ⟨by simp [start0], by simp [start0], fun v hv => ?_⟩
  have e : ix (start0 g.length).long v = 0 := by unfold start0; dsimp only; rw [ix_eq (by simpa using hv)]; simp
  rw [e]
  have : cnt0 (start0 g.length).long = g.length := cnt0_replicate _
  omega
/-- the search gives the longest chain -/
theorem allR_deep {g : List (List Int)} (hg : ∀ i, i < g.length → ∀ a ∈ ix g i, 0 ≤ a ∧ a < g.length) : (if (allR g).1.ring = true then -1 else (allR g).2) = deepG g := by
  have hp : ∀ a ∈ places g.length, 0 ≤ a ∧ a < (g.length : Int) := fun a ha => by
    obtain ⟨i, hi, rfl⟩ := List.mem_map.1 ha
    have := List.mem_range.1 hi; omega
  have h0 : ∀ v, v < g.length → ix (start0 g.length).long v = 0 := fun v hv => by unfold start0; dsimp only; rw [ix_eq (by simpa using hv)]; simp
  obtain ⟨h1, h2⟩ := foldR_ok (f := g.length + 1) (fun i s => fromR_ok hg _ i s) (places g.length) (start0 g.length) 0 hp (start0_ok g) (by have : cnt (start0 g.length).op = g.length := cnt_replicate _; omega) (by have : cnt0 (start0 g.length).long = g.length := cnt0_replicate _; omega)
  change FS g _ _ (allR g).1 at h1
  change FM g _ _ (allR g).1 (allR g).2 at h2
  generalize (allR g).2 = m at *
  generalize (allR g).1 = t at *
  cases hr : t.ring with
  | true =>
    rw [if_pos rfl]
    obtain ⟨p, v, hw⟩ := h1.cyc rfl hr (fun o ho e => by
      exfalso
      have : ix (start0 g.length).op o = false := by unfold start0; dsimp only; rw [ix_eq (by simpa using ho)]; simp
      rw [this] at e; cases e)
    exact (deepG_ring hw).symm
  | false =>
    rw [if_neg (by simp)]
    have hcl := h1.cl (fun v hv h => by rw [h0 v hv] at h; omega) hr
    have hfin : ∀ i, i < g.length → 0 < ix t.long i := fun i hi => by
      have := h1.fin hr i (List.mem_map.2 ⟨i, List.mem_range.2 hi, rfl⟩)
      rwa [Int.toNat_natCast] at this
    have H : Hts g (fun i => (ix t.long i).toNat) := by
      refine ⟨fun i hi => by have := hfin i hi; omega, hg, fun i hi k hk => ?_, fun i hi h => ?_⟩
      · have := (hcl i hi (hfin i hi)).1 k hk; omega
      · obtain ⟨k, hk, e⟩ := (hcl i hi (hfin i hi)).2 (by omega)
        have := hfin k (by have := hg i hi _ hk; omega)
        exact ⟨k, hk, by omega⟩
    have hm := h2.nn
    have := deepG_hts (d := m.toNat) H (fun i hi => by
      have := h2.all hr i (List.mem_map.2 ⟨i, List.mem_range.2 hi, rfl⟩)
      rw [Int.toNat_natCast] at this; omega) (by
      rcases h2.one hr with h | ⟨r, hr', h⟩
      · left; omega
      · right
        obtain ⟨i, hi, rfl⟩ := List.mem_map.1 hr'
        rw [Int.toNat_natCast] at h
        exact ⟨i, List.mem_range.1 hi, by omega⟩)
    rw [this]; omega
end Go.Proofs.YtmkgfccfnpmcjaaDoor
