/- How many types remain on the stack when the given ones are popped. -/
import Derived.Test.YtgbgnipidakdhaaGreatDoorJSw
import Derived.Test.YtgbgnipidakdhaaGreatDoorJTt
namespace Go.Proofs.YtgbgnipidakdhaaGreatDoor
open Go.RowKit
set_option maxRecDepth 100000
abbrev TPS : Nat := 62
abbrev TPP : Nat := 189
abbrev TEr : Nat := 48
abbrev TIt : Nat := 3
theorem run_ret2s {fn : Func} {n : Nat} {E : Env} {w : World} {a T b T' : Nat} {ti ti' : TI} {v u : Value} {ad bd : Addr} (hr : fn.results = #[.cell a T, .cell b T']) (ha : lk E a = some (.pointer (some ad))) (hT : G.ty T = some ti) (hag : ti.agg = false) (hc : w.cell? ad = some v)
    (hb : lk E b = some (.pointer (some bd))) (hT' : G.ty T' = some ti') (hag' : ti'.agg = false) (hc' : w.cell? bd = some u) : ∀ ac, Ag n ac E → (results fn ac.tmps).run G.P w = .ok (.tuple #[v, u]) w := fun ac hac => by
  have h1 := (G.tyOk T ti hT).agg w
  rw [hag] at h1
  have h2 := (G.tyOk T' ti' hT').agg w
  rw [hag'] at h2
  have g1 : ac.tmps[a]?.getD undef = .pointer (some ad) := by have := (hac.eq a _ ha).2; simpa using this
  have g2 : ac.tmps[b]?.getD undef = .pointer (some bd) := by have := (hac.eq b _ hb).2; simpa using this
  simp [results, hr, g1, g2, asAddr, loadVar, h1, hc, h2, hc']
theorem cell_put {W : World} {D : Nat} {o : Obj} {p : Addr} {v : Value} (h : W.cell? p = some v) (hne : p.block ≠ D) : (W.putObj D o).cell? p = some v := by
  rw [World.cell?_of_block (w := W) (World.putObj_heap_other hne)]; exact h
theorem bwd_pre {l : List Int} {pre : List (Int × Int)} {x : Int × Int} (h : pre ++ [x] <+: bwd l) : pre.length < l.length ∧ l.reverse.drop pre.length = x.2 :: l.reverse.drop (pre.length + 1) := by
  obtain ⟨r, hr⟩ := h
  have hl : pre.length < l.length := by rw [← bwd_len, ← hr]; simp
  refine ⟨hl, ?_⟩
  have h1 : (bwd l)[pre.length]? = some x := by rw [← hr]; simp
  have h2 : (bwd l)[pre.length]? = some (((l.length - 1 - pre.length : Nat) : Int), ix l (l.length - 1 - pre.length)) := by
    rw [List.getElem?_eq_getElem (by rw [bwd_len]; exact hl)]
    congr 1
    simp [bwd, List.getElem_reverse]
  rw [h1] at h2
  cases h2
  rw [List.drop_eq_getElem_cons (by simpa using hl)]
  congr 1
  rw [List.getElem_reverse, ix_eq (by omega)]
set_option maxHeartbeats 8000000 in
theorem stack_left (D : Nat → Prop) (sp : Nat) (s : Stk) (x : Value × Value) (v : Value) (l : List Int) (w : World) (hw : Ok (stkM sp s x) [fun w => IntsR D w v l] w) (hp : 0 < s.ps.length) (h0 : 0 ≤ s.at_) (hle : s.at_ ≤ s.ts.length) :
    Calls G.P 115 #[.pointer (some ⟨sp, 0, none⟩), v] w fun e w' => e = .returned (.tuple #[.int .i64 ((leftK s l.reverse s.ts.length).1 : Nat), .int .i64 (leftK s l.reverse s.ts.length).2]) ∧ Ext w w' := by
  obtain ⟨v1, v2⟩ := x
  obtain ⟨⟨p1, c1, e1, hcap, hg1⟩, ⟨p2, c2, e2, hg2⟩, hn1, hn2⟩ := stkC sp s (v1, v2) hw (List.Sublist.refl _)
  dsimp only at e1 e2
  subst e1; subst e2
  obtain ⟨g2, rfl⟩ := hg2 hp
  have hI : IntsR D w v l := hw.get (p := fun w => IntsR D w v l) (by simp)
  obtain ⟨q, d, rfl, hl⟩ := hI.slice
  have k0 : w.cell? ⟨sp, 0, none⟩ = some (.slice p1 s.ts.length c1) := hw.c1 (T := TStk) (cs := [.slice p1 s.ts.length c1, .slice (some ⟨g2, 0, none⟩) s.ps.length c2, .bool (overB s)]) Up.head rfl
  have k1 : w.cell? ⟨sp, 1, none⟩ = some (.slice (some ⟨g2, 0, none⟩) s.ps.length c2) := hw.c1 (T := TStk) (cs := [.slice p1 s.ts.length c1, .slice (some ⟨g2, 0, none⟩) s.ps.length c2, .bool (overB s)]) Up.head rfl
  have o1 : w.ownsRow 0 TVl 1 (.slice p1 s.ts.length c1) s.ts.length (valsC s.ts) := (hw.m (.own 0 TVl 1 (.slice p1 s.ts.length c1) s.ts.length (valsC s.ts)) (by simp [stkM])).1
  have o2 : w.ownsRow 0 TPrt 2 (.slice (some ⟨g2, 0, none⟩) s.ps.length c2) s.ps.length (partsC s.ps) := (hw.m (.own 0 TPrt 2 (.slice (some ⟨g2, 0, none⟩) s.ps.length c2) s.ps.length (partsC s.ps)) (by simp [stkM])).1
  have a1 : w.cell? ⟨g2, (s.ps.length - 1) * 2, none⟩ = some (.int .i64 s.at_) := own_get o2 (parts_at (l := s.ps) (i := s.ps.length - 1) (by omega)).1
  have a2 : w.cell? ⟨g2, (s.ps.length - 1) * 2 + 1, none⟩ = some (.bool s.loose) := own_get o2 (parts_at (l := s.ps) (i := s.ps.length - 1) (by omega)).2
  refine enterN (l := [.pointer (some ⟨sp, 0, none⟩), .slice q l.length d]) Tryz.func115 rfl Tryz.ntmps115 rfl (Ok.start w) ?_
  refine wgn ?_
  refine OpsN.he (HE.box [.pointer (some ⟨sp, 0, none⟩)] rfl rfl) rfl rfl ?_
  intro b2 _
  refine wgn ?_
  refine OpsN.he (HE.alloc [.int .i64 0] rfl rfl) rfl rfl ?_
  intro b4 _
  refine wgn ?_
  refine OpsN.he (HE.alloc [.int .i64 0] rfl rfl) rfl rfl ?_
  intro b5 _
  refine wgn ?_
  refine CdN.ofH ?_
  refine CdH.regionR [.blk b5 [.int .i64 0] TEr, .blk b4 [.int .i64 0] TIt, .blk b2 [.pointer (some ⟨sp, 0, none⟩)] TPS] [Ext w] wsl wsr ?_
  refine OpsT.joinH (α := Nat × Nat) (fun y => [(1, .slice q l.length d), (2, .pointer (some ⟨b2, 0, none⟩)), (4, .pointer (some ⟨b4, 0, none⟩)), (5, .pointer (some ⟨b5, 0, none⟩)), (6, .pointer (some ⟨y.1, 0, none⟩)), (7, .pointer (some ⟨y.2, 0, none⟩))]) (fun y => [.blk y.1 [.int .i64 s.ts.length] TIt, .blk y.2 [.pointer (some ⟨g2, (s.ps.length - 1) * 2, none⟩)] TPP, .blk b5 [.int .i64 0] TEr, .blk b4 [.int .i64 0] TIt, .blk b2 [.pointer (some ⟨sp, 0, none⟩)] TPS]) (fun _ => [Ext w]) ?_ fun hrest => ?_
  · rintro ⟨b6, b7⟩
    dsimp only
    refine FinH.thenI ?_
    refine wgn ?_
    refine OpsN.he (HE.call (β := Nat) (tf := fun b => .func (.func 181) #[] #[.pointer (some ⟨b, 0, none⟩)]) (φ := fun _ => True) (Mf := fun b => .blk b [.slice q l.length d] 34 :: [.blk b6 [.int .i64 s.ts.length] TIt, .blk b7 [.pointer (some ⟨g2, (s.ps.length - 1) * 2, none⟩)] TPP, .blk b5 [.int .i64 0] TEr, .blk b4 [.int .i64 0] TIt, .blk b2 [.pointer (some ⟨sp, 0, none⟩)] TPS]) (Rf := fun _ => [Ext w]) rfl rfl (fun w' hw' => (slices_Backward q l.length d w').mono fun e w'' ⟨e1, hn⟩ => ⟨w'.heap.size, e1, trivial, hw'.push hn.ext hn.blk (blk_lt hn)⟩)) rfl rfl ?_
    intro b9 _
    refine wgn ?_
    refine ⟨fun w1 hw1 => ?_⟩
    have hx1 : Ext w w1 := hw1.at
    have f9 : b9 < w1.heap.size := (hw1.m (.blk b9 _ _) wmm).2 b9 rfl
    have f6 : b6 < w1.heap.size := (hw1.m (.blk b6 _ _) wmm).2 b6 rfl
    have f7 : b7 < w1.heap.size := (hw1.m (.blk b7 _ _) wmm).2 b7 rfl
    have f5 : b5 < w1.heap.size := (hw1.m (.blk b5 _ _) wmm).2 b5 rfl
    have f4 : b4 < w1.heap.size := (hw1.m (.blk b4 _ _) wmm).2 b4 rfl
    have f2 : b2 < w1.heap.size := (hw1.m (.blk b2 _ _) wmm).2 b2 rfl
    have hRB : RB b9 q d l w1 := ⟨hw1.c1 (cs := [.slice q l.length d]) wup rfl, fun i hi => by
      obtain ⟨b, o, e, -, hc⟩ := hI.at hi
      exact ⟨b, o, e, hx1.cell (hc i hi)⟩⟩
    have lowG : ∀ (x6 x5 x4 : Int) (r : Nat), Mb [.blk b6 [.int .i64 x6] TIt, .blk b7 [.pointer (some ⟨g2, (s.ps.length - 1) * 2, none⟩)] TPP, .blk b5 [.int .i64 x5] TEr, .blk b4 [.int .i64 x4] TIt, .blk b2 [.pointer (some ⟨sp, 0, none⟩)] TPS] r → r < w1.heap.size := fun x6 x5 x4 r ⟨q', hq, hk⟩ => by
      simp only [List.mem_cons, List.not_mem_nil, or_false] at hq
      rcases hq with rfl | rfl | rfl | rfl | rfl <;> (have hk' : r = _ := hk; omega)
    have lowM : ∀ (nn : Nat) (r : Nat), Mb [.blk b6 [.int .i64 ((nn : Nat) : Int)] TIt, .blk b7 [.pointer (some ⟨g2, (s.ps.length - 1) * 2, none⟩)] TPP, .blk b5 [.int .i64 0] TEr, .blk b4 [.int .i64 0] TIt, .blk b2 [.pointer (some ⟨sp, 0, none⟩)] TPS] r → r < w1.heap.size := fun nn r ⟨q', hq, hk⟩ => by
      simp only [List.mem_cons, List.not_mem_nil, or_false] at hq
      rcases hq with rfl | rfl | rfl | rfl | rfl <;> (have hk' : r = _ := hk; omega)
    have lowX : ∀ (ee : Int) (r : Nat), Mb [.blk b7 [.pointer (some ⟨g2, (s.ps.length - 1) * 2, none⟩)] TPP, .blk b5 [.int .i64 ee] TEr, .blk b4 [.int .i64 0] TIt, .blk b2 [.pointer (some ⟨sp, 0, none⟩)] TPS] r → r < w1.heap.size := fun ee r ⟨q', hq, hk⟩ => by
      simp only [List.mem_cons, List.not_mem_nil, or_false] at hq
      rcases hq with rfl | rfl | rfl | rfl <;> (have hk' : r = _ := hk; omega)
    have hqb : ∀ a, 0 < l.length → q = some a → a.block < w.heap.size := fun a h e => by
      obtain ⟨b, o, e', -, hc⟩ := hI.at (i := 0) h
      rw [e] at e'; cases e'
      exact cell_lt (hc 0 h)
    have hne : b9 ≠ b6 ∧ b9 ≠ b7 ∧ b9 ≠ b5 ∧ b9 ≠ b4 ∧ b9 ≠ b2 := by
      have hd := (List.pairwise_cons.1 hw1.d).1
      exact ⟨hd (.blk b6 _ _) wmm b9 rfl, hd (.blk b7 _ _) wmm b9 rfl, hd (.blk b5 _ _) wmm b9 rfl, hd (.blk b4 _ _) wmm b9 rfl, hd (.blk b2 _ _) wmm b9 rfl⟩
    have keepM : ∀ (nn : Nat) (W : World), Ok [.blk b6 [.int .i64 ((nn : Nat) : Int)] TIt, .blk b7 [.pointer (some ⟨g2, (s.ps.length - 1) * 2, none⟩)] TPP, .blk b5 [.int .i64 0] TEr, .blk b4 [.int .i64 0] TIt, .blk b2 [.pointer (some ⟨sp, 0, none⟩)] TPS] [Ext w] W → ∀ k, KB b9 q l.length k → ¬ Mb [.blk b6 [.int .i64 ((nn : Nat) : Int)] TIt, .blk b7 [.pointer (some ⟨g2, (s.ps.length - 1) * 2, none⟩)] TPP, .blk b5 [.int .i64 0] TEr, .blk b4 [.int .i64 0] TIt, .blk b2 [.pointer (some ⟨sp, 0, none⟩)] TPS] k := fun nn W hok k hk hm => by
      rcases hk with rfl | ⟨h, a, e, rfl⟩
      · obtain ⟨q', hq, hk⟩ := hm
        simp only [List.mem_cons, List.not_mem_nil, or_false] at hq
        obtain ⟨n1, n2, n3, n4, n5⟩ := hne
        rcases hq with rfl | rfl | rfl | rfl | rfl
        · exact n1 hk
        · exact n2 hk
        · exact n3 hk
        · exact n4 hk
        · exact n5 hk
      · exact hok.origin (S := fun _ => False) (by simp) _ hm (hqb a h e)
    refine CdI.rangeO (encs := encB) (Kp := KD (KB b9 q l.length)) (full := bwd l) rfl rfl (bwd_seq b9 q d l w1 hRB (by omega)) (fun h k => h.trans k) (fun W l' r r' hW hl' _ => KD.put ?_) (fun _ => rfl) rfl
      (fun pre W => ∃ nn : Nat, Ok [.blk b6 [.int .i64 ((nn : Nat) : Int)] TIt, .blk b7 [.pointer (some ⟨g2, (s.ps.length - 1) * 2, none⟩)] TPP, .blk b5 [.int .i64 0] TEr, .blk b4 [.int .i64 0] TIt, .blk b2 [.pointer (some ⟨sp, 0, none⟩)] TPS] [Ext w] W ∧ s.at_ ≤ nn ∧ nn ≤ s.ts.length ∧ leftK s (l.reverse.drop pre.length) nn = leftK s l.reverse s.ts.length)
      (fun c pre W => c = .ret ∧ ∃ ee : Int, Ok [.blk b7 [.pointer (some ⟨g2, (s.ps.length - 1) * 2, none⟩)] TPP, .blk b5 [.int .i64 ee] TEr, .blk b4 [.int .i64 0] TIt, .blk b2 [.pointer (some ⟨sp, 0, none⟩)] TPS] [Ext w] W ∧ leftK s l.reverse s.ts.length = (0, ee)) ?_ ?_ ⟨s.ts.length, hw1.sub wsl (fun _ h => h), hle, Nat.le_refl _, rfl⟩
      (fun x => [(9, .int .i64 x.2), (1, .slice q l.length d), (2, .pointer (some ⟨b2, 0, none⟩)), (4, .pointer (some ⟨b4, 0, none⟩)), (5, .pointer (some ⟨b5, 0, none⟩)), (6, .pointer (some ⟨b6, 0, none⟩)), (7, .pointer (some ⟨b7, 0, none⟩))]) ?_ ?_ ?_ ?_
    · intro hk
      have hlt : l' < w1.heap.size := by
        rcases hk with rfl | ⟨h, a, e, rfl⟩
        · exact f9
        · exact Nat.lt_of_lt_of_le (hqb a h e) hx1.size
      omega
    · rintro pre A A' row ⟨nn, h, h1, h2, h3⟩ hg hr
      exact ⟨nn, h.grow hx1.size hg hr fun r o h1 h2 h3 h4 => absurd (lowM nn r h4) (by omega), h1, h2, h3⟩
    · rintro c pre A A' row ⟨e, ee, h, h3⟩ hg hr
      exact ⟨e, ee, h.grow hx1.size hg hr fun r o h1 h2 h3 h4 => absurd (lowX ee r h4) (by omega), h3⟩
    · intro l' x W2 K hK
      refine wgi ?_
      exact FinI.thenK (fun a ha => hK a (ha.sub wsub))
    · rintro l' pre x W2 ⟨nn, hok, h1, h2, h3⟩ hN
      obtain ⟨hpl, hdr⟩ := bwd_pre hN
      rw [hdr, leftK] at h3
      obtain ⟨S0, hS0⟩ : ∃ S0, S0 = Mb [.blk b6 [.int .i64 ((nn : Nat) : Int)] TIt, .blk b7 [.pointer (some ⟨g2, (s.ps.length - 1) * 2, none⟩)] TPP, .blk b5 [.int .i64 0] TEr, .blk b4 [.int .i64 0] TIt, .blk b2 [.pointer (some ⟨sp, 0, none⟩)] TPS] := ⟨_, rfl⟩
      have hok' := hok.startM
      rw [← hS0] at hok'
      have fin : ∀ {W' : World}, Chg S0 W2 W' → KeepL #[20, 21] w1.heap.size W2 W' ∧ KD (KB b9 q l.length) W2 W' := fun {W'} hc => by
        have hk0 := keepM nn W2 hok
        rw [← hS0] at hk0
        refine ⟨⟨hc.size, fun k o hk ho _ => ?_⟩, hc.size, fun k hlt hk => hc.block k hlt (hk0 k hk)⟩
        rw [hc.block k (Array.getElem?_eq_some_iff.1 ho).1 (fun hs => by rw [hS0] at hs; have := lowM nn k hs; omega)]; exact ho
      refine CdN.at hok' ?_
      by_cases he : (nn : Int) = s.at_
      · rw [if_pos he] at h3
        obtain ⟨lo, hlo⟩ : ∃ b, s.loose = b := ⟨_, rfl⟩
        rw [hlo] at a2 h3
        cases lo with
        | true =>
          rw [if_pos rfl] at h3
          refine wgm ?_
          refine ⟨fun W' hw' => ⟨fun a ha => ?_⟩⟩
          obtain ⟨k1, k2⟩ := fin hw'.at
          exact ⟨k1, k2, nn, hw'.sub wsl wsr, h1, h2, by rw [← h3]; simp⟩
        | false =>
          rw [if_neg (by simp)] at h3
          refine wgm ?_
          refine OpsN.he0 (HE0.storeB [.int .i64 0] rfl rfl rfl rfl rfl rfl wup rfl) rfl ?_
          rintro ⟨⟩ _
          refine wgm ?_
          refine OpsN.he0 (HE0.storeB [.int .i64 13] rfl rfl rfl rfl rfl rfl wup rfl) rfl ?_
          rintro ⟨⟩ _
          refine wgm ?_
          refine ⟨fun W' hw' => ⟨fun a ha => ?_⟩⟩
          obtain ⟨k1, k2⟩ := fin hw'.at
          exact ⟨k1, k2, rfl, 13, hw'.sub wsl wsr, h3.symm⟩
      · rw [if_neg he] at h3
        obtain ⟨g1, rfl⟩ := hg1 (by omega)
        have b1 := own_get o1 (vals_at (l := s.ts) (i := nn - 1) (by omega))
        have e1 : (nn : Int) - 1 = ((nn - 1 : Nat) : Int) := by omega
        by_cases hM : ix s.ts (nn - 1) ≠ x.2 ∧ ix s.ts (nn - 1) ≠ 0 ∧ x.2 ≠ 0
        · rw [if_pos hM] at h3
          obtain ⟨m1, m2, m3⟩ := hM
          refine wgm ?_
          refine OpsN.he0 (HE0.storeB [.int .i64 ((nn : Int) - 1)] rfl rfl rfl rfl rfl rfl wup rfl) rfl ?_
          rintro ⟨⟩ _
          rw [e1]
          refine wgm ?_
          refine OpsN.he0 (HE0.storeB [.int .i64 0] rfl rfl rfl rfl rfl rfl wup rfl) rfl ?_
          rintro ⟨⟩ _
          refine wgm ?_
          refine OpsN.he0 (HE0.storeB [.int .i64 12] rfl rfl rfl rfl rfl rfl wup rfl) rfl ?_
          rintro ⟨⟩ _
          refine wgm ?_
          refine ⟨fun W' hw' => ⟨fun a ha => ?_⟩⟩
          obtain ⟨k1, k2⟩ := fin hw'.at
          exact ⟨k1, k2, rfl, 12, hw'.sub wsl wsr, h3.symm⟩
        · rw [if_neg hM] at h3
          rcases (show (ix s.ts (nn - 1) = x.2) ∨ (ix s.ts (nn - 1) ≠ x.2 ∧ ix s.ts (nn - 1) = 0) ∨ (ix s.ts (nn - 1) ≠ x.2 ∧ ix s.ts (nn - 1) ≠ 0 ∧ x.2 = 0) from by omega) with m1 | ⟨m1, m2⟩ | ⟨m1, m2, m3⟩
          all_goals
            refine wgm ?_
            refine OpsN.he0 (HE0.storeB [.int .i64 ((nn : Int) - 1)] rfl rfl rfl rfl rfl rfl wup rfl) rfl ?_
            rintro ⟨⟩ _
            rw [e1]
            refine wgm ?_
            refine ⟨fun W' hw' => ⟨fun a ha => ?_⟩⟩
            obtain ⟨k1, k2⟩ := fin hw'.at
            exact ⟨k1, k2, nn - 1, hw'.sub wsl wsr, by omega, by omega, by rw [← h3]; simp⟩
    · rintro Dn W2 hD ⟨nn, hok, h1, h2, h3⟩ hK
      rw [bwd_len, show l.length = l.reverse.length from by simp, List.drop_length, leftK] at h3
      rw [← h3]
      have hok2 : Ok [.blk b6 [.int .i64 ((nn : Nat) : Int)] TIt, .blk b7 [.pointer (some ⟨g2, (s.ps.length - 1) * 2, none⟩)] TPP, .blk b5 [.int .i64 0] TEr, .blk b4 [.int .i64 0] TIt, .blk b2 [.pointer (some ⟨sp, 0, none⟩)] TPS] [fun W => W.heap[Dn]? = some (.deferred (some [])), Ext w] W2 := hok.add fun w' hc => by
        rw [hc.block Dn (Array.getElem?_eq_some_iff.1 hK).1 (fun hs => by have := lowM nn Dn hs; omega)]; exact hK
      refine FinN.at hok2 ?_
      refine wgn ?_
      refine OpsN.he0 (HE0.storeB [.int .i64 nn] rfl rfl rfl rfl rfl rfl wup rfl) rfl ?_
      rintro ⟨⟩ _
      refine wgn ?_
      refine OpsN.he0 (HE0.storeB [.int .i64 0] rfl rfl rfl rfl rfl rfl wup rfl) rfl ?_
      rintro ⟨⟩ _
      refine wgn ?_
      refine ⟨fun W' hw' => ?_⟩
      have hK' : W'.heap[Dn]? = some (.deferred (some [])) := hw'.at
      have hx' : Ext w (W'.putObj Dn (.deferred none)) := (hw'.sub (List.Sublist.refl _) (R' := [Ext w]) wsr |>.grow (row := some Dn) (B := w1.heap.size) hx1.size (grownBy_putObj' W' Dn (.deferred none)) (fun r e => by cases e; exact ⟨hD, _, hK', rfl⟩) (fun r o h1 h2 h3 h4 => absurd (lowG _ _ _ r h4) (by omega))).at
      have q4 : W'.cell? ⟨b4, 0, none⟩ = some (.int .i64 nn) := hw'.c1 wup rfl
      have q5 : W'.cell? ⟨b5, 0, none⟩ = some (.int .i64 0) := hw'.c1 wup rfl
      refine FinI.retM (.inl rfl) hK' (run_ret2s rfl rfl rfl rfl (cell_put q4 (show b4 ≠ Dn by omega)) rfl rfl rfl (cell_put q5 (show b5 ≠ Dn by omega))) ⟨rfl, hx'⟩
    · rintro Dn c pre W2 hD hpre ⟨rfl, ee, hok, h3⟩ hK
      rw [h3]
      have hok2 : Ok [.blk b7 [.pointer (some ⟨g2, (s.ps.length - 1) * 2, none⟩)] TPP, .blk b5 [.int .i64 ee] TEr, .blk b4 [.int .i64 0] TIt, .blk b2 [.pointer (some ⟨sp, 0, none⟩)] TPS] [fun W => W.heap[Dn]? = some (.deferred (some [])), Ext w] W2 := hok.add fun w' hc => by
        rw [hc.block Dn (Array.getElem?_eq_some_iff.1 hK).1 (fun hs => by have := lowX ee Dn hs; omega)]; exact hK
      refine CdN.at hok2 ?_
      refine wgn ?_
      refine ⟨fun W' hw' => ?_⟩
      have hK' : W'.heap[Dn]? = some (.deferred (some [])) := hw'.at
      have hx' : Ext w (W'.putObj Dn (.deferred none)) := (hw'.sub (List.Sublist.refl _) (R' := [Ext w]) wsr |>.grow (row := some Dn) (B := w1.heap.size) hx1.size (grownBy_putObj' W' Dn (.deferred none)) (fun r e => by cases e; exact ⟨hD, _, hK', rfl⟩) (fun r o h1 h2 h3 h4 => absurd (lowX ee r h4) (by omega))).at
      have q4 : W'.cell? ⟨b4, 0, none⟩ = some (.int .i64 0) := hw'.c1 wup rfl
      have q5 : W'.cell? ⟨b5, 0, none⟩ = some (.int .i64 ee) := hw'.c1 wup rfl
      refine FinI.retM (.inl rfl) hK' (run_ret2s rfl rfl rfl rfl (cell_put q4 (show b4 ≠ Dn by omega)) rfl rfl rfl (cell_put q5 (show b5 ≠ Dn by omega))) ⟨rfl, hx'⟩
  · repeat' (first | refine wgt ?_ | (refine StepT.isAl TIt ?_; refine StepT.he rfl rfl (HE.alloc (t := TIt) [.int .i64 0] rfl rfl) (fun _ => wsl) (fun _ => wsr) ?_; intro b_ _) | (refine StepT.isAl TPP ?_; refine StepT.he rfl rfl (HE.alloc (t := TPP) [.pointer none] rfl rfl) (fun _ => wsl) (fun _ => wsr) ?_; intro b_ _) | (refine StepT.isCl 117 ?_; refine StepT.he rfl rfl (HE.callV rfl rfl (fun w' hw' => stack_top sp s.ps.length c2 g2 w' ((show Ext w w' from hw'.at).cell k1) hp hn2)) (fun _ => wsl) (fun _ => wsr) ?_; rintro ⟨⟩ _) | (refine StepT.isSt ?_; refine StepT.he0 rfl (HE0.storeB _ rfl rfl rfl rfl rfl rfl wup rfl) (fun _ => wsl) (fun _ => wsr) ?_; rintro ⟨⟩ _) | refine OpsT.nil (by decide +kernel) ?_ | refine OpsT.any (by decide +kernel) ?_ | exact StepsT.fin rfl | refine StepsT.skip (by decide +kernel) ?_ | refine StepsT.go ?_ ?_)
    all_goals exact FinH.subP (hrest (_, _)) wsub wsp wsr
end Go.Proofs.YtgbgnipidakdhaaGreatDoor
