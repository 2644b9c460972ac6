/- Walks of functions over blocks: turned, given, At, Same, Rows, few, small. -/
import Derived.Test.YtfeakkicihlplaaB
import Derived.Test.YtfeakkicihlplaaF1
namespace Go.Proofs.Ytfeakkicihlplaa
open Go.RowKit

theorem law_turned (bs : List Bk) (nvs : List Value) (v : Value) (w : World) (hsm : bs.length ≤ 1000000) (hb : BlocksN (fun _ => True) w v bs nvs) :
    Calls G.P 13 #[v] w fun e w' => ∃ r, e = .returned r ∧ BlocksN (fun _ => True) w' r bs nvs ∧ Ext w w' := by
  obtain ⟨p, cap, rfl, hl⟩ := hb.slice
  obtain ⟨_, _, _, _, hnv, hnx, _⟩ := id hb
  refine enter (G := G) Try.func13 rfl Try.ntmps13 rfl ?_
  refine wgo ?_
  refine Cd.loop (σ := Nat × Value) (fun s => [(0, .slice p bs.length cap), (3, s.2), (4, .int .i64 s.1)]) (fun s wr => s.1 ≤ bs.length ∧ OwnF w.heap.size 57 4 wr s.2 s.1 (fun i => bkC (ix bs i) (ix nvs i)) ∧ Ext w wr) (fun s => bs.length - s.1) (0, _) wsub
    ⟨Nat.zero_le _, OwnF.nil _ _ _ _ _, Chg.refl _ _⟩ ?_
  rintro ⟨k, o⟩ wr ⟨hk, hown, hext⟩
  dsimp only at hk hown hext ⊢
  by_cases hlt : k < bs.length
  · obtain ⟨b, off, rfl, -, hI⟩ := hb.at hlt
    have hk := hI k hlt
    obtain ⟨pn, cn, hn, hnl⟩ := hk.next.slice
    have h0 := hk.fr
    have h1 := hk.to
    have h2 := hk.nx
    have h3 := hk.live
    rw [hn] at h2
    refine wgo ?_
    refine Cd.regionM (List.range 25) (fun w' => Ext w w') (by kernel_rfl) hext.drew ?_
    refine wgo ?_
    refine Ops.y (Yl.build (v := .agg #[.int .i64 (ix bs k).fr, .int .i64 (ix bs k).to, .slice pn (ix bs k).next.length cn, .bool (ix bs k).live]) rfl (fun _ => by kernel_rfl)) rfl ?_
    refine wgo ?_
    refine Ops.m (Eff.buildSlice (cs := [.int .i64 (ix bs k).fr, .int .i64 (ix bs k).to, .slice pn (ix bs k).next.length cn, .bool (ix bs k).live]) (e := 57) rfl (by kernel_rfl)) rfl ?_
    rintro _ w2 ⟨rfl, hn2⟩
    have hext2 : Ext w w2 := hext.drew.trans hn2.ext
    refine ⟨hext2, ?_⟩
    refine Ops.m (OwnF.app (hown.ext ((Chg.refl _ _).drew.trans hn2.ext)) rfl rfl rfl rfl rfl (by decide) (by decide) rfl rfl (by have := hext2.size; omega) hn2.blk rfl (by simp [Value.oneCell']) (by omega)) rfl ?_
    rintro v3 w3 ⟨hown3, hc3⟩
    have hext3 : Ext w w3 := hext2.trans' hc3 (fun i hi h => by have := (hown.lt i h).1; omega)
    refine ⟨hext3, ?_⟩
    refine wgo ?_
    refine Fin.next (k + 1, _) wsub ⟨by omega, hown3.congr (fun i hi => ?_), hext3⟩ (by omega)
    by_cases e : i = k
    · subst e; rw [upd_same, ← hn]; rfl
    · rw [upd_other _ _ e]
  · refine wgo ?_
    obtain rfl : k = bs.length := by omega
    exact Fin.ret1 rfl rfl ⟨_, rfl, hown.blocks rfl hl hnv (fun _ _ => rfl) (fun i hi => (hnx i hi).chg hext (fun _ _ _ h => h)) (fun _ _ => trivial), hext⟩

theorem law_given (bs : List Bk) (nvs : List Value) (v : Value) (w : World) (hsm : bs.length ≤ 1000000) (hb : BlocksN (fun _ => True) w v bs nvs) :
    Calls G.P 19 #[v] w fun e w' => ∃ r, e = .returned r ∧ BlocksN (fun _ => True) w' r bs nvs ∧ Ext w w' := by
  obtain ⟨p, cap, rfl, hl⟩ := hb.slice
  obtain ⟨_, _, _, _, hnv, hnx, _⟩ := id hb
  refine enter (G := G) Try.func19 rfl Try.ntmps19 rfl ?_
  refine wgo ?_
  refine Cd.loop (σ := Nat × Value) (fun s => [(0, .slice p bs.length cap), (3, s.2), (4, .int .i64 s.1)]) (fun s wr => s.1 ≤ bs.length ∧ OwnF w.heap.size 35 4 wr s.2 s.1 (fun i => bkC (ix bs i) (ix nvs i)) ∧ Ext w wr) (fun s => bs.length - s.1) (0, _) wsub
    ⟨Nat.zero_le _, OwnF.nil _ _ _ _ _, Chg.refl _ _⟩ ?_
  rintro ⟨k, o⟩ wr ⟨hk, hown, hext⟩
  dsimp only at hk hown hext ⊢
  by_cases hlt : k < bs.length
  · obtain ⟨b, off, rfl, -, hI⟩ := hb.at hlt
    have hk := hI k hlt
    obtain ⟨pn, cn, hn, hnl⟩ := hk.next.slice
    have h0 := hk.fr
    have h1 := hk.to
    have h2 := hk.nx
    have h3 := hk.live
    rw [hn] at h2
    refine wgo ?_
    refine Cd.regionM (List.range 25) (fun w' => Ext w w') (by kernel_rfl) hext.drew ?_
    refine wgo ?_
    refine Ops.y (Yl.build (v := .agg #[.int .i64 (ix bs k).fr, .int .i64 (ix bs k).to, .slice pn (ix bs k).next.length cn, .bool (ix bs k).live]) rfl (fun _ => by kernel_rfl)) rfl ?_
    refine wgo ?_
    refine Ops.m (Eff.buildSlice (cs := [.int .i64 (ix bs k).fr, .int .i64 (ix bs k).to, .slice pn (ix bs k).next.length cn, .bool (ix bs k).live]) (e := 35) rfl (by kernel_rfl)) rfl ?_
    rintro _ w2 ⟨rfl, hn2⟩
    have hext2 : Ext w w2 := hext.drew.trans hn2.ext
    refine ⟨hext2, ?_⟩
    refine Ops.m (OwnF.app (hown.ext ((Chg.refl _ _).drew.trans hn2.ext)) rfl rfl rfl rfl rfl (by decide) (by decide) rfl rfl (by have := hext2.size; omega) hn2.blk rfl (by simp [Value.oneCell']) (by omega)) rfl ?_
    rintro v3 w3 ⟨hown3, hc3⟩
    have hext3 : Ext w w3 := hext2.trans' hc3 (fun i hi h => by have := (hown.lt i h).1; omega)
    refine ⟨hext3, ?_⟩
    refine wgo ?_
    refine Fin.next (k + 1, _) wsub ⟨by omega, hown3.congr (fun i hi => ?_), hext3⟩ (by omega)
    by_cases e : i = k
    · subst e; rw [upd_same, ← hn]; rfl
    · rw [upd_other _ _ e]
  · refine wgo ?_
    obtain rfl : k = bs.length := by omega
    exact Fin.ret1 rfl rfl ⟨_, rfl, hown.blocks rfl hl hnv (fun _ _ => rfl) (fun i hi => (hnx i hi).chg hext (fun _ _ _ h => h)) (fun _ _ => trivial), hext⟩

theorem ref_has (xs : List Int) (v : Value) (m : Int) (w : World) (hb : IntsR (fun _ => True) w v xs) :
    Calls G.P 40 #[v, .int .i64 m] w fun e w' => e = .returned (.bool (xs.contains m)) ∧ w = w' := by
  obtain ⟨p, cap, rfl, hl⟩ := hb.slice
  refine enter (G := G) Try.func40 rfl Try.ntmps40 rfl ?_
  refine wgo ?_
  refine Cd.loop (σ := Nat) (fun k => [(0, .slice p xs.length cap), (1, .int .i64 m), (5, .int .i64 k)]) (fun k wr => k ≤ xs.length ∧ (∀ j, j < k → ix xs j ≠ m) ∧ w = wr) (fun k => xs.length - k) 0 wsub ⟨Nat.zero_le _, by omega, rfl⟩ ?_
  rintro k wr ⟨hk, hn, rfl⟩
  by_cases hlt : k < xs.length
  · obtain ⟨b, off, rfl, -, hI⟩ := hb.at hlt
    have hc := hI k hlt
    by_cases he : ix xs k = m
    · refine wgo ?_
      refine Fin.ret1 rfl rfl ⟨?_, rfl⟩
      rw [List.contains_iff_mem.2]
      rw [← he, ix_eq hlt]; exact List.getElem_mem hlt
    · refine wgo ?_
      refine Fin.next (k + 1) wsub ⟨by omega, fun j hj => ?_, rfl⟩ (by omega)
      by_cases h : j = k
      · subst h; exact he
      · exact hn j (by omega)
  · refine wgo ?_
    refine Fin.ret1 rfl rfl ⟨?_, rfl⟩
    have : xs.contains m = false := by
      rw [Bool.eq_false_iff, ne_eq, List.contains_iff_mem, List.mem_iff_getElem]
      rintro ⟨j, hj, e⟩
      exact hn j (by omega) (by rw [ix_eq hj]; exact e)
    rw [this]

/-- the first block from place k on that holds the place q -/
def atFrom (bs : List Bk) (q : Int) : Nat → Nat → Int
  | 0, _ => -1
  | f + 1, k => if (ix bs k).fr ≤ q ∧ q < (ix bs k).to then k else atFrom bs q f (k + 1)
def atB (bs : List Bk) (q : Int) : Int := atFrom bs q bs.length 0

theorem ref_At (bs : List Bk) (nvs : List Value) (v : Value) (q : Int) (w : World) (hb : BlocksN (fun _ => True) w v bs nvs) :
    Calls G.P 24 #[v, .int .i64 q] w fun e w' => e = .returned (.int .i64 (atB bs q)) ∧ w = w' := by
  obtain ⟨p, cap, rfl, hl⟩ := hb.slice
  refine enter (G := G) Try.func24 rfl Try.ntmps24 rfl ?_
  refine wgo ?_
  refine Cd.loop (σ := Nat) (fun k => [(0, .slice p bs.length cap), (1, .int .i64 q), (5, .int .i64 k)]) (fun k wr => k ≤ bs.length ∧ atB bs q = atFrom bs q (bs.length - k) k ∧ w = wr) (fun k => bs.length - k) 0 wsub ⟨Nat.zero_le _, rfl, rfl⟩ ?_
  rintro k wr ⟨hk, hn, rfl⟩
  by_cases hlt : k < bs.length
  · obtain ⟨b, off, rfl, -, hI⟩ := hb.at hlt
    have hc := (hI k hlt).fr
    have hd := (hI k hlt).to
    have hs : bs.length - k = (bs.length - (k + 1)) + 1 := by omega
    by_cases h1 : (ix bs k).fr ≤ q
    · by_cases h2 : q < (ix bs k).to
      · refine wgo ?_
        refine Fin.ret1 rfl rfl ⟨?_, rfl⟩
        rw [hn, hs, atFrom, if_pos ⟨h1, h2⟩]
      · refine wgo ?_
        refine Fin.next (k + 1) wsub ⟨by omega, ?_, rfl⟩ (by omega)
        rw [hn, hs, atFrom, if_neg (by omega)]
    · refine wgo ?_
      refine Fin.next (k + 1) wsub ⟨by omega, ?_, rfl⟩ (by omega)
      rw [hn, hs, atFrom, if_neg (by omega)]
  · refine wgo ?_
    refine Fin.ret1 rfl rfl ⟨?_, rfl⟩
    rw [hn, show bs.length - k = 0 by omega]; rfl

theorem law_few (xs : List Ins) (v : Value) (w : World) (hb : Body w v xs) :
    Calls G.P 8 #[v] w fun e w' => ∃ b : Bool, e = .returned (.bool b) ∧ (b = true → xs.length ≤ 60 ∧ ∀ i, i < xs.length → (ix xs i).labels.length ≤ 200) ∧ w = w' := by
  obtain ⟨p, cap, rfl, hl⟩ := hb.slice
  refine enter (G := G) Try.func8 rfl Try.ntmps8 rfl ?_
  refine wgo ?_
  refine Cd.loop (σ := Nat × Nat) (fun s => [(0, .slice p xs.length cap), (3, .int .i64 s.2), (4, .int .i64 s.1)]) (fun s wr => s.1 ≤ xs.length ∧ s.2 ≤ 2000000000000000 ∧ (s.2 ≤ 200 → ∀ i, i < s.1 → (ix xs i).labels.length ≤ 200) ∧ w = wr) (fun s => xs.length - s.1) (0, 0) wsub ⟨Nat.zero_le _, Nat.zero_le _, by omega, rfl⟩ ?_
  rintro ⟨k, m⟩ wr ⟨hk, hm, hn, rfl⟩
  dsimp only at hk hm hn ⊢
  by_cases hc : k < xs.length ∧ k < 80 ∧ m ≤ 200
  · obtain ⟨hlt, h80, h200⟩ := hc
    obtain ⟨b, off, rfl, -, hI⟩ := hb.at hlt
    obtain ⟨lv, hlv, hlr⟩ := (hI k hlt).labels
    obtain ⟨pn, cn, rfl, hnl⟩ := hlr.slice
    refine wgo ?_
    refine Fin.next (k + 1, m + (ix xs k).labels.length) wsub ⟨by omega, by omega, fun h i hi => ?_, rfl⟩ (by omega)
    dsimp only at h
    by_cases e : i = k
    · subst e; omega
    · exact hn (by omega) i (by omega)
  · have hend : ∃ b : Bool, (b = true → xs.length ≤ 60 ∧ ∀ i, i < xs.length → (ix xs i).labels.length ≤ 200) ∧ b = (decide (xs.length ≤ 60) && decide (m ≤ 200)) :=
      ⟨_, fun h => by simp at h; refine ⟨h.1, fun i hi => hn (by omega) i (by omega)⟩, rfl⟩
    obtain ⟨b, hb1, hb2⟩ := hend
    rcases (show ¬ k < xs.length ∨ (k < xs.length ∧ ¬ k < 80) ∨ (k < xs.length ∧ k < 80 ∧ ¬ m ≤ 200) from by omega) with h | ⟨h, h'⟩ | ⟨h, h', h''⟩
    all_goals
      by_cases h60 : xs.length ≤ 60
      all_goals first | (exfalso; omega) | skip
      all_goals by_cases h200 : m ≤ 200
      all_goals first | (exfalso; omega) | skip
      all_goals
        refine wgo ?_
        exact Fin.ret1 rfl rfl ⟨b, by rw [hb2]; simp [h60, h200], hb1, rfl⟩

theorem law_small (bs : List Bk) (nvs : List Value) (v : Value) (w : World) (hb : BlocksN (fun _ => True) w v bs nvs) :
    Calls G.P 18 #[v] w fun e w' => ∃ b : Bool, e = .returned (.bool b) ∧ (b = true → bs.length ≤ 40 ∧ ∀ i, i < bs.length → (ix bs i).next.length ≤ 200) ∧ w = w' := by
  obtain ⟨p, cap, rfl, hl⟩ := hb.slice
  refine enter (G := G) Try.func18 rfl Try.ntmps18 rfl ?_
  refine wgo ?_
  refine Cd.loop (σ := Nat × Nat) (fun s => [(0, .slice p bs.length cap), (3, .int .i64 s.2), (4, .int .i64 s.1)]) (fun s wr => s.1 ≤ bs.length ∧ s.2 ≤ 2000000000000000 ∧ (s.2 ≤ 200 → ∀ i, i < s.1 → (ix bs i).next.length ≤ 200) ∧ w = wr) (fun s => bs.length - s.1) (0, 0) wsub ⟨Nat.zero_le _, Nat.zero_le _, by omega, rfl⟩ ?_
  rintro ⟨k, m⟩ wr ⟨hk, hm, hn, rfl⟩
  dsimp only at hk hm hn ⊢
  by_cases hc : k < bs.length ∧ k < 60 ∧ m ≤ 200
  · obtain ⟨hlt, h80, h200⟩ := hc
    obtain ⟨b, off, rfl, -, hI⟩ := hb.at hlt
    have hlv := (hI k hlt).nx
    obtain ⟨pn, cn, he, hnl⟩ := (hI k hlt).next.slice
    rw [he] at hlv
    refine wgo ?_
    refine Fin.next (k + 1, m + (ix bs k).next.length) wsub ⟨by omega, by omega, fun h i hi => ?_, rfl⟩ (by omega)
    dsimp only at h
    by_cases e : i = k
    · subst e; omega
    · exact hn (by omega) i (by omega)
  · have hend : ∃ b : Bool, (b = true → bs.length ≤ 40 ∧ ∀ i, i < bs.length → (ix bs i).next.length ≤ 200) ∧ b = (decide (bs.length ≤ 40) && decide (m ≤ 200)) :=
      ⟨_, fun h => by simp at h; refine ⟨h.1, fun i hi => hn (by omega) i (by omega)⟩, rfl⟩
    obtain ⟨b, hb1, hb2⟩ := hend
    rcases (show ¬ k < bs.length ∨ (k < bs.length ∧ ¬ k < 60) ∨ (k < bs.length ∧ k < 60 ∧ ¬ m ≤ 200) from by omega) with h | ⟨h, h'⟩ | ⟨h, h', h''⟩
    all_goals
      by_cases h60 : bs.length ≤ 40
      all_goals first | (exfalso; omega) | skip
      all_goals by_cases h200 : m ≤ 200
      all_goals first | (exfalso; omega) | skip
      all_goals
        refine wgo ?_
        exact Fin.ret1 rfl rfl ⟨b, by rw [hb2]; simp [h60, h200], hb1, rfl⟩
end Go.Proofs.Ytfeakkicihlplaa
