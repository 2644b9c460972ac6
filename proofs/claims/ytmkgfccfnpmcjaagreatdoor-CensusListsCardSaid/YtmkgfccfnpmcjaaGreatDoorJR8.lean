/- Walk of the reference of layer 36: Of. -/
import Derived.Test.YtmkgfccfnpmcjaaGreatDoorJR5
import Derived.Test.YtmkgfccfnpmcjaaGreatDoorJN1
namespace Go.Proofs.YtmkgfccfnpmcjaaGreatDoor
open Go.RowKit

/-- the blocks of the first k instructions: where each begins and ends -/
def fbTo (xs : List Ins) : Nat → List (Nat × Nat)
  | 0 => []
  | k + 1 =>
    let l := if startB xs k then fbTo xs k ++ [(k, 0)] else fbTo xs k
    l.set (l.length - 1) ((ix l (l.length - 1)).1, k + 1)
theorem fbTo_yes {xs : List Ins} {k : Nat} (h : startB xs k = true) : fbTo xs (k + 1) = fbTo xs k ++ [(k, k + 1)] := by
  simp only [fbTo, h, if_true]
  have e : (fbTo xs k ++ [(k, (0 : Nat))]).length - 1 = (fbTo xs k).length := by simp
  rw [e, ix_append_last rfl]
  simp
theorem fbTo_no {xs : List Ins} {k : Nat} (h : startB xs k = false) : fbTo xs (k + 1) = (fbTo xs k).set ((fbTo xs k).length - 1) ((ix (fbTo xs k) ((fbTo xs k).length - 1)).1, k + 1) := by
  simp only [fbTo, h, Bool.false_eq_true, if_false]
theorem fbTo_len (xs : List Ins) (k : Nat) : (fbTo xs k).length ≤ k := by
  induction k with
  | zero => simp [fbTo]
  | succ k ih =>
    cases h : startB xs k with
    | true => rw [fbTo_yes h]; simp; omega
    | false => rw [fbTo_no h]; simp; omega
theorem fbTo_pos {xs : List Ins} {k : Nat} (h : 0 < k) : 0 < (fbTo xs k).length := by
  induction k with
  | zero => omega
  | succ k ih =>
    cases hs : startB xs k with
    | true => rw [fbTo_yes hs]; simp
    | false =>
      rw [fbTo_no hs, List.length_set]
      by_cases h0 : k = 0
      · subst h0; simp [startB] at hs
      · exact ih (by omega)
theorem fbTo_rng {xs : List Ins} {k j : Nat} (hj : j < (fbTo xs k).length) : (ix (fbTo xs k) j).1 < (ix (fbTo xs k) j).2 ∧ (ix (fbTo xs k) j).2 ≤ k := by
  induction k generalizing j with
  | zero => simp [fbTo] at hj
  | succ k ih =>
    cases hs : startB xs k with
    | true =>
      rw [fbTo_yes hs] at hj ⊢
      by_cases e : j = (fbTo xs k).length
      · rw [ix_append_last e]; dsimp only; omega
      · have h1 : j < (fbTo xs k).length := by simp at hj; omega
        rw [ix_append_left h1]; have := ih h1; omega
    | false =>
      rw [fbTo_no hs] at hj ⊢
      rw [List.length_set] at hj
      by_cases e : j = (fbTo xs k).length - 1
      · subst e; rw [ix_set_same hj]; have := ih hj; dsimp only; omega
      · rw [ix_set_other e]; have := ih hj; omega

/-- blocks out of their ranges, successors and marks -/
def mkB (fb : List (Nat × Nat)) (nx : Nat → List Int) (lv : Nat → Bool) : List Bk := (List.range fb.length).map (fun j => ⟨(ix fb j).1, (ix fb j).2, nx j, lv j⟩)
theorem mkB_len (fb : List (Nat × Nat)) (nx : Nat → List Int) (lv : Nat → Bool) : (mkB fb nx lv).length = fb.length := by simp [mkB]
theorem mkB_ix {fb : List (Nat × Nat)} {nx : Nat → List Int} {lv : Nat → Bool} {j : Nat} (h : j < fb.length) : ix (mkB fb nx lv) j = ⟨(ix fb j).1, (ix fb j).2, nx j, lv j⟩ := ix_map_range h
/-- the block that holds the place q -/
def atF (fb : List (Nat × Nat)) (q : Int) : Int := atB (mkB fb (fun _ => []) (fun _ => false)) q
theorem atFrom_congr {a b : List Bk} {q : Int} : ∀ (f k : Nat), (∀ j, j < k + f → (ix a j).fr = (ix b j).fr ∧ (ix a j).to = (ix b j).to) → atFrom a q f k = atFrom b q f k
  | 0, _, _ => rfl
  | f + 1, k, h => by
    have h1 := h k (by omega)
    unfold atFrom
    rw [h1.1, h1.2, atFrom_congr f (k + 1) (fun j hj => h j (by omega))]
theorem atB_mkB (fb : List (Nat × Nat)) (nx : Nat → List Int) (lv : Nat → Bool) (q : Int) : atB (mkB fb nx lv) q = atF fb q := by
  unfold atF atB
  rw [mkB_len, mkB_len]
  refine atFrom_congr _ _ (fun j hj => ?_)
  rw [mkB_ix (by omega), mkB_ix (by omega)]; exact ⟨rfl, rfl⟩

/-- the successors of block j, as places and as blocks -/
def goB (xs : List Ins) (j : Nat) : List Int := afterR xs ((ix (fbTo xs xs.length) j).2 - 1)
def nextB (xs : List Ins) (j : Nat) : List Int := (goB xs j).map (atF (fbTo xs xs.length))
/-- some block goes nowhere -/
def badB (xs : List Ins) : Prop := ∃ j, j < (fbTo xs xs.length).length ∧ ∃ a ∈ goB xs j, a < 0
/-- the blocks of a body -/
def blocksB (xs : List Ins) : List Bk :=
  let g := mkB (fbTo xs xs.length) (nextB xs) (fun _ => false)
  mkB (fbTo xs xs.length) (nextB xs) (fun j => (orderR g).contains (j : Int))

def c0 (p : Nat × Nat) (nv : Value) : List Value := [.int .i64 p.1, .int .i64 p.2, nv, .bool false]

/-- what a call of Of gives: nothing and false, or the blocks and true -/
def OfPost (w : World) (_xs : List Ins) (ok : Prop) (blocks : List Bk) (e : Ending) (w' : World) : Prop :=
  (¬ ok ∧ e = .returned (.tuple #[.slice none 0 0, .bool false]) ∧ Ext w w') ∨ (ok ∧ ∃ r nvs, e = .returned (.tuple #[r, .bool true]) ∧ BlocksN (fun k => w.heap.size ≤ k) w' r blocks nvs ∧ Ext w w')

set_option maxRecDepth 100000 in
set_option maxHeartbeats 1000000 in
theorem ref36_Of (xs : List Ins) (v : Value) (w : World) (hb : Body w v xs) (hsm : xs.length ≤ 1000000) (hlab : ∀ i, i < xs.length → (ix xs i).labels.length ≤ 1000000) :
    Calls G.P 46 #[v] w (OfPost w xs ((checkR xs).2 = 0 ∧ ¬ badB xs) (blocksB xs)) := by
  obtain ⟨p, cap, rfl, hl⟩ := hb.slice
  refine enter (G := G) Tryz.func46 rfl Tryz.ntmps46 rfl ?_
  refine wgo ?_
  refine Ops.call rfl rfl rfl (ref09_Check xs _ w hb) ?_
  rintro _ wa ⟨rfl, hxa⟩
  refine ⟨_, rfl, ?_⟩
  by_cases hok : (checkR xs).2 = 0
  case neg =>
    refine wgo ?_
    exact Fin.ret2 rfl rfl rfl (.inl ⟨fun h => hok h.1, rfl, hxa⟩)
  rw [hok]
  refine wgo ?_
  refine Cd.loop (σ := Nat × Value) (fun s => [(0, .slice p xs.length cap), (6, s.2), (7, .int .i64 s.1)])
    (fun s wr => s.1 ≤ xs.length ∧ OwnF w.heap.size 171 4 wr s.2 (fbTo xs s.1).length (fun i => c0 (ix (fbTo xs s.1) i) (.slice none 0 0)) ∧ Ext w wr) (fun s => xs.length - s.1) (0, _) wsub
    ⟨Nat.zero_le _, OwnF.nil _ _ _ _ _, hxa⟩ ?_
  rintro ⟨k, o⟩ wr ⟨hk, hown, hext⟩
  dsimp only at hk hown hext ⊢
  have hfl := fbTo_len xs k
  by_cases hlt : k < xs.length
  · refine wgo ?_
    refine Ops.call rfl rfl rfl (ref36_begins xs _ k wr (hb.ext hext) hlt) ?_
    rintro _ _ ⟨rfl, rfl⟩
    refine ⟨_, rfl, ?_⟩
    cases hst : startB xs k with
    | true =>
      have hF := fbTo_yes hst
      refine wgo ?_
      refine Ops.y (Yl.build (v := .agg #[.int .i64 k, .int .i64 0, .slice none 0 0, .bool false]) rfl (fun _ => by kernel_rfl)) rfl ?_
      refine Ops.e (Eff.buildSlice (cs := [.int .i64 k, .int .i64 0, .slice none 0 0, .bool false]) (e := 171) rfl (by kernel_rfl)) rfl ?_
      rintro _ w4 ⟨rfl, hn4⟩
      refine Ops.e (OwnF.app (hown.ext hn4.ext) rfl rfl rfl rfl rfl (by decide) (by decide) rfl rfl (by have := hext.size; have := hn4.size; omega) hn4.blk rfl (by simp [Value.oneCell']) (by omega)) rfl ?_
      rintro v5 w5 ⟨hown5, hc5⟩
      have hx5 : Ext w w5 := (hext.trans hn4.ext).trans' hc5 (fun i hi h => by have := (hown.lt i h).1; omega)
      obtain ⟨po, co, rfl, hco, hcmo, hgo⟩ := hown5.slice
      obtain ⟨g, rfl, hg1, hg2⟩ := hgo (by omega)
      have hcl := hown5.cell (i := (fbTo xs k).length) (j := 1) (u := .int .i64 0) (by omega) (by rw [upd_same]; rfl)
      refine wgo ?_
      refine Ops.y (Yl.idx rfl rfl rfl rfl rfl (i := (fbTo xs k).length) (by omega) (by omega)) rfl ?_
      refine wgo ?_
      refine Ops.e0 (Eff.store rfl rfl rfl rfl rfl hcl (hown5.free _)) ?_
      rintro _ w6 rfl
      obtain ⟨hs1, hs2⟩ := hown5.set (i := (fbTo xs k).length) (j := 1) (by omega) (by omega) (.int .i64 ((k : Int) + 1))
      refine wgo ?_
      refine Fin.next (k + 1, _) wsub ⟨by omega, ?_, hx5.trans' hs2 (fun i hi e => by omega)⟩ (by dsimp only; omega)
      dsimp only
      rw [hF, List.length_append]
      refine hs1.congr (fun i hi => ?_)
      by_cases e : i = (fbTo xs k).length
      · subst e; rw [upd_same, upd_same, ix_append_last rfl]; rfl
      · rw [upd_other _ _ e, upd_other _ _ e, ix_append_left (by omega)]
    | false =>
      have hF := fbTo_no hst
      have hk0 : 0 < k := by
        by_cases h0 : k = 0
        · subst h0; simp [startB] at hst
        · omega
      have hfp := fbTo_pos (xs := xs) hk0
      obtain ⟨po, co, rfl, hco, hcmo, hgo⟩ := hown.slice
      obtain ⟨g, rfl, hg1, hg2⟩ := hgo (by omega)
      have hcl := hown.cell (i := (fbTo xs k).length - 1) (j := 1) (u := .int .i64 (ix (fbTo xs k) ((fbTo xs k).length - 1)).2) (by omega) rfl
      refine wgo ?_
      refine Ops.y (Yl.idx rfl rfl rfl rfl rfl (i := (fbTo xs k).length - 1) (by omega) (by omega)) rfl ?_
      refine wgo ?_
      refine Ops.e0 (Eff.store rfl rfl rfl rfl rfl hcl (hown.free _)) ?_
      rintro _ w6 rfl
      obtain ⟨hs1, hs2⟩ := hown.set (i := (fbTo xs k).length - 1) (j := 1) (by omega) (by omega) (.int .i64 ((k : Int) + 1))
      refine wgo ?_
      refine Fin.next (k + 1, _) wsub ⟨by omega, ?_, hext.trans' hs2 (fun i hi e => by omega)⟩ (by dsimp only; omega)
      dsimp only
      rw [hF, List.length_set]
      refine hs1.congr (fun i hi => ?_)
      by_cases e : i = (fbTo xs k).length - 1
      · subst e; rw [upd_same, ix_set_same (by omega)]; rfl
      · rw [upd_other _ _ e, ix_set_other e]
  obtain rfl : k = xs.length := by omega
  clear hlt hk
  -- the ranges stand; now the successors
  have hrng := fun j => fbTo_rng (xs := xs) (k := xs.length) (j := j)
  have hgoB : ∀ j, goB xs j = afterR xs ((ix (fbTo xs xs.length) j).2 - 1) := fun _ => rfl
  have hnxB : ∀ j, nextB xs j = (goB xs j).map (atF (fbTo xs xs.length)) := fun _ => rfl
  have hbad : badB xs = ∃ j, j < (fbTo xs xs.length).length ∧ ∃ a ∈ goB xs j, a < 0 := rfl
  have hblk : blocksB xs = mkB (fbTo xs xs.length) (nextB xs) (fun j => (orderR (mkB (fbTo xs xs.length) (nextB xs) (fun _ => false))).contains (j : Int)) := rfl
  generalize hfb : fbTo xs xs.length = fb at *
  obtain ⟨po, co, rfl, hco, hcmo, hgo0⟩ := hown.slice
  have hgo : 0 < fb.length → ∃ g, po = some ⟨g, 0, none⟩ := fun h => (hgo0 h).imp fun _ h => h.1
  clear hgo0
  refine wgo ?_
  refine Cd.loop (σ := Nat × List Value) (fun s => [(0, .slice p xs.length cap), (6, .slice po fb.length co), (8, .int .i64 s.1)])
    (fun s wr => s.1 ≤ fb.length ∧ s.2.length = fb.length ∧ OwnF w.heap.size 171 4 wr (.slice po fb.length co) fb.length (fun i => c0 (ix fb i) (ix s.2 i)) ∧
      (∀ j, j < fb.length → IntsR (fun k => w.heap.size ≤ k ∧ (Value.slice po fb.length co).ownBlock ≠ some k) wr (ix s.2 j) (if j < s.1 then nextB xs j else [])) ∧ (∀ j, s.1 ≤ j → j < fb.length → ix s.2 j = .slice none 0 0) ∧ (∀ j, j < s.1 → ∀ a ∈ goB xs j, 0 ≤ a) ∧ Ext w wr)
    (fun s => fb.length - s.1) (0, List.replicate fb.length (.slice none 0 0)) wsub
    ⟨Nat.zero_le _, by simp, hown.congr (fun i hi => by dsimp only; rw [show ix (List.replicate fb.length (Value.slice none 0 0)) i = .slice none 0 0 by rw [ix_eq (by simpa using hi)]; simp]), fun j hj => ?_, fun j _ hj => by dsimp only; rw [ix_eq (by simpa using hj)]; simp, fun j hj => by dsimp only at hj; omega, hext⟩ ?_
  · dsimp only
    rw [show ix (List.replicate fb.length (Value.slice none 0 0)) j = .slice none 0 0 by rw [ix_eq (by simpa using hj)]; simp]
    simp only [Nat.not_lt_zero, if_false]
    exact ⟨none, 0, rfl, by simp, .inl rfl⟩
  clear hown hext wr
  rintro ⟨i, nvs⟩ wr ⟨hi, hnl, hown, hrows, hnil, hpos, hext⟩
  dsimp only at hi hnl hown hrows hnil hpos hext ⊢
  by_cases hlt : i < fb.length
  · obtain ⟨ob, rfl⟩ := hgo (by omega)
    have hob1 := (hown.lt ob rfl).1
    have hob2 := (hown.lt ob rfl).2
    have hri := hrng i hlt
    have hto := hown.cell (i := i) (j := 1) (u := .int .i64 (ix fb i).2) hlt rfl
    refine wgo ?_
    have hpi : ((ix fb i).2 : Int) - 1 = (((ix fb i).2 - 1 : Nat) : Int) := by omega
    rw [hpi]
    refine Ops.call rfl rfl rfl (ref36_after xs _ ((ix fb i).2 - 1) wr (hb.ext hext) hok (by omega) (hlab _ (by omega))) ?_
    rintro _ w1 ⟨lv, rfl, hownl, hx1⟩
    refine ⟨_, rfl, ?_⟩
    rw [← hgoB] at hownl
    obtain ⟨pl, cl, rfl, hcl, hcml, hgl⟩ := own_slice hownl
    have hext1 : Ext w w1 := hext.trans hx1
    have hown1 := hown.ext hx1
    have hob3 : ob < w1.heap.size := by have := hx1.size; omega
    have hLlen : (goB xs i).length ≤ 1000010 := by
      have h1 : ∀ q, q < xs.length → (afterR xs q).length ≤ 1000010 := fun q hq => by
        have := hlab q hq
        unfold afterR; dsimp only
        repeat' split
        all_goals simp
        all_goals omega
      rw [hgoB]; exact h1 _ (by omega)
    have hLr : IntsR (fun k => k < w1.heap.size ∧ k ≠ ob) w1 (.slice pl (goB xs i).length cl) (goB xs i) := (hownl.reads (by omega)).mono (fun k hk h => ⟨hk, fun e => by subst e; have := (hownl.lt k h).1; omega⟩)
    have hrows1 : ∀ j, j < fb.length → IntsR (fun k => w.heap.size ≤ k ∧ k < w1.heap.size ∧ k ≠ ob) w1 (ix nvs j) (if j < i then nextB xs j else []) := fun j hj =>
      ((hrows j hj).chg hx1 (fun _ _ _ h => h)).mono (fun k hk h => ⟨h.1, hk, fun e => by subst e; exact h.2 rfl⟩)
    clear hrows hown
    refine wgo ?_
    refine Cd.loop (σ := Nat × Value) (fun s => [(0, .slice p xs.length cap), (6, .slice (some ⟨ob, 0, none⟩) fb.length co), (8, .int .i64 i), (9, .slice pl (goB xs i).length cl), (10, .int .i64 s.1)])
      (fun s w2 => s.1 ≤ (goB xs i).length ∧ OwnF w.heap.size 171 4 w2 (.slice (some ⟨ob, 0, none⟩) fb.length co) fb.length (fun j => c0 (ix fb j) (ix (nvs.set i s.2) j)) ∧ OwnI w1.heap.size w2 s.2 (((goB xs i).take s.1).map (atF fb)) ∧
        (∀ a ∈ (goB xs i).take s.1, 0 ≤ a) ∧ Chg (fun k => k = ob) w1 w2)
      (fun s => (goB xs i).length - s.1) (0, .slice none 0 0) wsub
      ⟨Nat.zero_le _, hown1.congr (fun j hj => ?_), OwnI.nil _ _, by simp, Chg.refl _ _⟩ ?_
    · dsimp only
      by_cases e : j = i
      · subst e; rw [ix_set_same (by omega), hnil j (Nat.le_refl _) hj]
      · rw [ix_set_other e]
    rintro ⟨k, nv⟩ w2 ⟨hk, hown2, hnv, hpos2, hc2⟩
    dsimp only at hk hown2 hnv hpos2 hc2 ⊢
    obtain ⟨pn, cn, rfl, hcn, hcmn, hgn⟩ := own_slice hnv
    have hmaplen : (((goB xs i).take k).map (atF fb)).length = k := by simp; omega
    have hext2 : Ext w w2 := hext1.trans' hc2 (fun q hq e => by omega)
    have hL2 := hLr.chg hc2 (fun q _ h e => h.2 e)
    have hrows2 : ∀ j, j < fb.length → IntsR (fun k => w.heap.size ≤ k ∧ k < w1.heap.size ∧ k ≠ ob) w2 (ix nvs j) (if j < i then nextB xs j else []) := fun j hj => (hrows1 j hj).chg hc2 (fun q _ h e => h.2.2 e)
    by_cases hlt2 : k < (goB xs i).length
    · obtain ⟨bl, ol, rfl, hFl, hLc⟩ := hL2.at hlt2
      have hLk := hLc k hlt2
      by_cases hneg : ix (goB xs i) k < 0
      · refine wgo ?_
        refine Fin.ret2 rfl rfl rfl (.inl ⟨fun h => h.2 ?_, rfl, hext2⟩)
        rw [hbad]
        exact ⟨i, hlt, ix (goB xs i) k, by rw [ix_eq hlt2]; exact List.getElem_mem _, hneg⟩
      · -- one more successor
        have hnx := hown2.cell (i := i) (j := 2) (u := .slice pn (((goB xs i).take k).map (atF fb)).length cn) hlt (by rw [ix_set_same (by omega)]; rfl)
        have hcls : ∀ w', Chg (fun q => (Value.slice pn (((goB xs i).take k).map (atF fb)).length cn).ownBlock = some q) w2 w' → w'.cell? ⟨ob, 0 + i * 4 + 2, none⟩ = some (.slice pn (((goB xs i).take k).map (atF fb)).length cn) := fun w' hw => hw.cell (fun e => by have := (hnv.lt _ e).1; dsimp only at this; omega) hnx
        have hclk : ∀ w', Chg (fun q => (Value.slice pn (((goB xs i).take k).map (atF fb)).length cn).ownBlock = some q) w2 w' → w'.cell? ⟨bl, ol + k, none⟩ = some (.int .i64 (ix (goB xs i) k)) := fun w' hw => hw.cell (fun e => by have := (hnv.lt _ e).1; dsimp only at this; omega) hLk
        refine wgo ?_
        refine Cd.regionS [0, 1, 2, 3, 4, 5, 6, 7, 8, 9, 10, 11, 12, 13, 14, 15, 16] 17 (fun w' => Chg (fun q => (Value.slice pn (((goB xs i).take k).map (atF fb)).length cn).ownBlock = some q) w2 w') (by kernel_rfl) (Chg.refl _ _).drew ?_
        refine wgo ?_
        refine Ops.y (Yl.load rfl rfl rfl hcls) rfl ?_
        refine wgo ?_
        refine Ops.y (Yl.load rfl rfl rfl hclk) rfl ?_
        refine wgo ?_
        have hbn : BlocksN (fun _ => True) w2.drew (.slice (some ⟨ob, 0, none⟩) fb.length co) (mkB fb (fun j => if j = i then ((goB xs i).take k).map (atF fb) else if j < i then nextB xs j else []) (fun _ => false)) (nvs.set i (.slice pn (((goB xs i).take k).map (atF fb)).length cn)) := by
          refine (hown2.blocks (by rw [mkB_len]) (by have := fbTo_len xs xs.length; rw [hfb] at this; omega) (by rw [mkB_len]; simpa using hnl) (fun j hj => by rw [mkB_ix hj]; rfl) (fun j hj => ?_) (fun _ _ => trivial)).chg (S := fun _ => False) (Chg.refl _ _).drew (fun _ _ _ h => h)
          rw [mkB_ix hj]
          by_cases e : j = i
          · subst e
            simp only [if_true]
            rw [ix_set_same (by omega)]
            exact (hnv.reads (by omega)).mono (fun _ _ _ => trivial)
          · simp only [if_neg e]
            rw [ix_set_other e]
            exact (hrows2 j hj).mono (fun _ _ _ => trivial)
        refine Ops.callM rfl rfl rfl (ref_At _ _ _ _ _ hbn) ?_
        rintro _ _ ⟨rfl, rfl⟩
        refine ⟨_, rfl, (Chg.refl _ _).drew, ?_⟩
        rw [atB_mkB]
        refine Ops.m (Eff.buildSlice (cs := [.int .i64 (atF fb (ix (goB xs i) k))]) (e := 3) rfl (by kernel_rfl)) rfl ?_
        rintro _ w4 ⟨rfl, hn4⟩
        have hx4 : Ext w2 w4 := ((Chg.refl _ _).drew).trans hn4.ext
        refine ⟨hx4.any, ?_⟩
        refine Ops.m (Eff.appIB rfl rfl (OwnI.ext hnv hx4) (by have := hc2.size; have := hx4.size; omega) (hn4.blk.cell rfl) (by omega)) rfl ?_
        rintro v5 w5 ⟨hown5, hc5, hb5⟩
        have hc25 : Chg (fun q => (Value.slice pn (((goB xs i).take k).map (atF fb)).length cn).ownBlock = some q) w2 w5 := hx4.any.trans hc5
        refine ⟨hc25, ?_⟩
        have hown25 := hown2.chg hc25 (fun q e h => by have e2 : ob = q := Option.some.inj e; have := (hnv.lt _ h).1; omega)
        obtain ⟨p5, c5, rfl, hcc5, hcm5, hg5⟩ := own_slice hown5
        refine wgo ?_
        refine Ops.mz0 (Eff.store rfl rfl rfl rfl rfl (hown25.cell (i := i) (j := 2) hlt rfl) (hown25.free _)) rfl ?_
        rintro _ w6 rfl
        obtain ⟨hs1, hs2⟩ := hown25.set (i := i) (j := 2) hlt (by omega) (.slice p5 (((goB xs i).take k).map (atF fb) ++ [atF fb (ix (goB xs i) k)]).length c5)
        refine wgo ?_
        have hv5 : ∀ q, (Value.slice p5 (((goB xs i).take k).map (atF fb) ++ [atF fb (ix (goB xs i) k)]).length c5).ownBlock = some q → q ≠ ob := fun q hq e => by have := (hown5.lt q hq).1; omega
        refine Fin.next (k + 1, .slice p5 (((goB xs i).take k).map (atF fb) ++ [atF fb (ix (goB xs i) k)]).length c5) wsub ⟨by omega, hs1.congr (fun j hj => ?_), ?_, ?_, (hc2.trans' hc25 (fun q hq h => by have := (hnv.lt q h).1; omega)).trans hs2⟩ (by dsimp only; omega)
        · by_cases e : j = i
          · subst e; rw [upd_same]; dsimp only; rw [ix_set_same (by omega), ix_set_same (by omega)]; rfl
          · rw [upd_other _ _ e]; dsimp only; rw [ix_set_other e, ix_set_other e]
        · dsimp only
          rw [take_succ_ix hlt2, List.map_append]
          exact own_chg hown5 hs2 (fun q hq e => hv5 q hq e)
        · dsimp only
          rw [take_succ_ix hlt2]
          intro a ha
          rcases List.mem_append.1 ha with h | h
          · exact hpos2 a h
          · simp at h; omega
    · obtain rfl : k = (goB xs i).length := by omega
      rw [List.take_length] at hnv hown2 hpos2
      refine wgo ?_
      refine Fin.next (i + 1, nvs.set i (.slice pn ((goB xs i).map (atF fb)).length cn)) wsub ⟨by omega, by simpa using hnl, hown2, fun j hj => ?_, fun j hj hj2 => ?_, fun j hj => ?_, hext2⟩ (by dsimp only; omega)
      · dsimp only
        by_cases e : j = i
        · subst e
          rw [ix_set_same (by omega), if_pos (by omega), hnxB]
          refine (hnv.reads (by rw [List.length_map]; omega)).mono (fun q hq h => ⟨?_, fun e => ?_⟩)
          · have := (hnv.lt q h).1; have := hext1.size; omega
          · have e2 : ob = q := Option.some.inj e
            have := (hnv.lt _ h).1; omega
        · rw [ix_set_other e]
          have h1 := (hrows2 j hj).mono (H := fun k => w.heap.size ≤ k ∧ (Value.slice (some ⟨ob, 0, none⟩) fb.length co).ownBlock ≠ some k) (fun q hq h => ⟨h.1, fun e => by cases e; exact h.2.2 rfl⟩)
          by_cases h2 : j < i
          · rw [if_pos h2] at h1; rw [if_pos (by omega)]; exact h1
          · rw [if_neg h2] at h1; rw [if_neg (by omega)]; exact h1
      · dsimp only at hj ⊢
        rw [ix_set_other (by omega)]; exact hnil j (by omega) hj2
      · dsimp only at hj
        by_cases e : j = i
        · subst e; exact hpos2
        · exact hpos j (by omega)
  · obtain rfl : i = fb.length := by omega
    -- the marks
    have hnb : ¬ badB xs := by
      rw [hbad]
      rintro ⟨j, hj, a, ha, hneg⟩
      have := hpos j hj a ha; omega
    have hmB : BlocksN (fun k => w.heap.size ≤ k) wr (.slice po fb.length co) (mkB fb (nextB xs) (fun _ => false)) nvs := by
      refine hown.blocks (by rw [mkB_len]) (by have := fbTo_len xs xs.length; rw [hfb] at this; omega) (by rw [mkB_len]; exact hnl) (fun j hj => by rw [mkB_ix hj]; rfl) (fun j hj => ?_) (fun q hq => (hown.lt q hq).1)
      rw [mkB_ix hj]
      have := hrows j hj
      rw [if_pos hj] at this
      exact this.mono (fun _ _ h => h.1)
    have hmT : BlocksN (fun _ => True) wr (.slice po fb.length co) (mkB fb (nextB xs) (fun _ => false)) nvs := by
      obtain ⟨a1, a2, a3, a4, a5, a6, a7⟩ := hmB
      refine ⟨a1, a2, a3, a4, a5, fun j hj => (a6 j hj).mono (fun _ _ _ => trivial), ?_⟩
      rcases a7 with a7 | ⟨c1, c2, c3, _, c5⟩
      · exact .inl a7
      · exact .inr ⟨c1, c2, c3, trivial, c5⟩
    have hfl2 : fb.length ≤ 1000000 := by have := fbTo_len xs xs.length; rw [hfb] at this; omega
    have hnxl : ∀ j, j < (mkB fb (nextB xs) (fun _ => false)).length → (ix (mkB fb (nextB xs) (fun _ => false)) j).next.length ≤ 1000000000 := fun j hj => by
      rw [mkB_len] at hj
      rw [mkB_ix hj]
      have := (hrows j hj).slice
      rw [if_pos hj] at this
      obtain ⟨_, _, _, h⟩ := this
      show (nextB xs j).length ≤ _
      have hr := hrng j hj
      have h2 : ∀ q, q < xs.length → (afterR xs q).length ≤ 1000010 := fun q hq => by
        have := hlab q hq
        unfold afterR; dsimp only
        repeat' split
        all_goals simp
        all_goals omega
      have := h2 ((ix fb j).2 - 1) (by omega)
      rw [hnxB, List.length_map, hgoB]; omega
    refine wgo ?_
    refine Ops.call rfl rfl rfl (ref36_Order _ _ _ wr hmT hnxl (by rw [mkB_len]; exact hfl2)) ?_
    rintro _ w1 ⟨ov, rfl, howno, hx1⟩
    refine ⟨_, rfl, ?_⟩
    generalize hO : orderR (mkB fb (nextB xs) (fun _ => false)) = O at *
    have hOin : ∀ a ∈ O, 0 ≤ a ∧ a < fb.length := by
      intro a ha
      rw [← hO] at ha
      exact orderR_rng (by rw [mkB_len] : (mkB fb (nextB xs) (fun _ => false)).length = fb.length) ha
    obtain ⟨pq, cq, rfl, hcq, hcmq, hgq⟩ := own_slice howno
    have hOl : O.length ≤ 2000000 := by rw [← hO]; exact orderR_len (by rw [mkB_len]; exact hfl2)
    have hown1 := hown.ext hx1
    have hOr : IntsR (fun k => wr.heap.size ≤ k) w1 (.slice pq O.length cq) O := howno.reads' (by omega)
    refine wgo ?_
    refine Cd.loop (σ := Nat) (fun s => [(6, .slice po fb.length co), (11, .slice pq O.length cq), (12, .int .i64 s)])
      (fun s w2 => s ≤ O.length ∧ OwnF w.heap.size 171 4 w2 (.slice po fb.length co) fb.length (fun j => [.int .i64 (ix fb j).1, .int .i64 (ix fb j).2, ix nvs j, .bool ((O.take s).contains (j : Int))]) ∧ Chg (fun k => (Value.slice po fb.length co).ownBlock = some k) w1 w2)
      (fun s => O.length - s) 0 wsub ⟨Nat.zero_le _, hown1.congr (fun j hj => by simp [c0]), Chg.refl _ _⟩ ?_
    rintro s w2 ⟨hs, hown2, hc2⟩
    have hO2 := hOr.chg hc2 (fun q _ h e => by have := (hown.lt q e).2; omega)
    by_cases hlt3 : s < O.length
    · obtain ⟨bo, oo, rfl, hFo, hOc⟩ := hO2.at hlt3
      have hOs := hOc s hlt3
      have hin := hOin (ix O s) (by rw [ix_eq hlt3]; exact List.getElem_mem _)
      obtain ⟨ob, rfl⟩ := hgo (by omega)
      have htk := take_succ_ix hlt3
      generalize ix O s = a at *
      obtain ⟨q, rfl⟩ := Int.eq_ofNat_of_zero_le hin.1
      have hq : q < fb.length := by omega
      refine wgo ?_
      refine Ops.e0 (Eff.store rfl rfl rfl rfl rfl (hown2.cell (i := q) (j := 3) hq rfl) (hown2.free _)) ?_
      rintro _ w6 rfl
      obtain ⟨hs1, hs2⟩ := hown2.set (i := q) (j := 3) hq (by omega) (.bool true)
      refine wgo ?_
      refine Fin.next (s + 1) wsub ⟨by omega, hs1.congr (fun j hj => ?_), hc2.trans (hs2.mono (fun k _ e => by subst e; rfl))⟩ (by omega)
      by_cases e : j = q
      · subst e; rw [upd_same, htk]; simp
      · rw [upd_other _ _ e, htk]
        have : ((O.take s ++ [(q : Int)]).contains (j : Int)) = (O.take s).contains (j : Int) := by
          rw [List.contains_append]
          have : ([(q : Int)].contains (j : Int)) = false := by simp; omega
          rw [this, Bool.or_false]
        rw [this]
    · obtain rfl : s = O.length := by omega
      rw [List.take_length] at hown2
      refine wgo ?_
      refine Fin.ret2 rfl rfl rfl (.inr ⟨⟨rfl, hnb⟩, _, nvs, rfl, ?_, ?_⟩)
      · rw [hblk]
        refine hown2.blocks (by rw [mkB_len]) (by omega) (by rw [mkB_len]; exact hnl) (fun j hj => by rw [mkB_ix hj]; rfl) (fun j hj => ?_) (fun q hq => (hown2.lt q hq).1)
        rw [mkB_ix hj]
        have h1 := hrows j hj
        rw [if_pos hj] at h1
        exact ((h1.chg hx1 (fun _ _ _ h => h)).chg hc2 (fun q _ h e => h.2 e)).mono (fun _ _ h => h.1)
      · exact (hext.trans hx1).trans' hc2 (fun q hq e => by have := (hown.lt q e).1; omega)
end Go.Proofs.YtmkgfccfnpmcjaaGreatDoor
