/- A region that draws its order, gone through by hand: what yields in every world may be taken first; what alone is ready is run. -/
import Derived.Test.YtgbgnipidakdhaaGreatDoorJE
import Derived.Test.YtgbgnipidakdhaaGreatDoorJH4
namespace Go.Proofs.YtgbgnipidakdhaaGreatDoor
open Go.RowKit
def QN (Q : Exit → Act → World → Prop) : Exit → Act → World → Prop := fun e a w => e = .normal ∧ Q e a w
structure OpsA (ops : Array Oper) (Q : Exit → Act → World → Prop) (n f : Nat) (listed : Array Bool) (E : Env) (w : World) : Prop where
  h : ∀ a, Ag n a E → wpAny G.P .any ops (QN Q) f listed a w
section
variable {ops : Array Oper} {Q : Exit → Act → World → Prop} {n f : Nat} {listed : Array Bool} {E : Env} {w : World} {d : Nat} {op : Op} {ty : TypeId} {pos : String} {aft : Array Edge} {v : Value} {K : Value → World → Prop}
theorem Cd.regionA {id : Nat} {l : List Oper} (h : OpsA l.toArray Q n l.length (Array.replicate l.length false) E w.drew) : Cd G Q n (.region id l.toArray true) E w := ⟨fun a ha => by
  refine Code.wp_mono ?_ (wp_region_any (Q := QN Q) G.mixed (by simpa using h.h a ha))
  rintro e a' w' ⟨rfl, hq⟩; exact hq⟩
theorem OpsA.done (hr : Region.ready .any ops listed = []) (h : Fin Q n .normal E w) : OpsA ops Q n f listed E w := ⟨fun a ha => wpAny_done hr ⟨rfl, h.h a ha⟩ f⟩
theorem OpsA.take (i : Nat) (hi : ops[i]? = some ⟨some d, op, ty, pos, aft, none⟩) (hc : (Region.noSelect ops && Region.free .any ops listed i && (Region.ready .any ops listed).contains i && isQ op && Nat.blt d n) = true) (hy : Yl G n op E (fun _ => True) v) (h : OpsA ops Q n f (listed.setIfInBounds i true) ((d, v) :: E) w) : OpsA ops Q n (f + 1) listed E w := ⟨fun a ha => by
  simp only [Bool.and_eq_true] at hc
  obtain ⟨⟨⟨⟨h1, h2⟩, h3⟩, h4⟩, h5⟩ := hc
  refine wpAny_take (v := v) hi h1 h2 h3 (fun c a w hq => by cases hq.1) ?_ (h.h _ (ha.put (by simpa using h5) v))
  exact .inl ⟨by simp [Region.wanted], fun w' => hy.h w' trivial a ha _ _ _ _ _⟩⟩
theorem upon_of {a : Act} {o : Oper} {next : Act → World → Prop} {r : Result Next} (h : effUp G.P (fun v w' => next (a.put o.dst v) w') r) : o.upon G.P a next Q r := by
  cases r with
  | ok x w' =>
    cases x <;> simp only [effUp] at h
    case value v => exact h
    case skip => exact h
    case enter f args => exact h.mono (by rintro e w'' ⟨v, rfl, hv⟩; exact hv)
  | halt x w' => exact h.elim
theorem OpsA.one (i : Nat) (hr : Region.ready .any ops listed = [i]) (hi : ops[i]? = some ⟨some d, op, ty, pos, aft, none⟩) (hd : Nat.blt d n = true) (he : Eff G n op E w K) (h : ∀ v w', K v w' → OpsA ops Q n f (listed.setIfInBounds i true) ((d, v) :: E) w') : OpsA ops Q n (f + 1) listed E w := ⟨fun a ha => by
  refine wpAny_all hr (by simp) (fun j hj => ?_)
  rw [List.mem_singleton] at hj; subst hj
  unfold wpOp
  rw [hi]
  have hw : Region.wanted ⟨some d, op, ty, pos, aft, none⟩ (yielded ops a.tmps) = true := by simp [Region.wanted]
  show (if Region.wanted _ _ then _ else _)
  rw [if_pos hw]
  exact .inl (upon_of (effUp_mono (he.h a ha _ _ _ _ _) (fun v w' hk => (h v w' hk).h _ (ha.put (by simpa using hd) v))))⟩
theorem OpsA.one0 (i : Nat) (hr : Region.ready .any ops listed = [i]) (hi : ops[i]? = some ⟨none, op, ty, pos, aft, none⟩) (he : Eff G n op E w K) (h : ∀ v w', K v w' → OpsA ops Q n f (listed.setIfInBounds i true) E w') : OpsA ops Q n (f + 1) listed E w := ⟨fun a ha => by
  refine wpAny_all hr (by simp) (fun j hj => ?_)
  rw [List.mem_singleton] at hj; subst hj
  unfold wpOp
  rw [hi]
  have hw : Region.wanted ⟨none, op, ty, pos, aft, none⟩ (yielded ops a.tmps) = true := by simp [Region.wanted]
  show (if Region.wanted _ _ then _ else _)
  rw [if_pos hw]
  exact .inl (upon_of (effUp_mono (he.h a ha _ _ _ _ _) (fun v w' hk => (h v w' hk).h a ha)))⟩
theorem OpsA.oneY (i : Nat) (hr : Region.ready .any ops listed = [i]) (hi : ops[i]? = some ⟨some d, op, ty, pos, aft, none⟩) (hd : Nat.blt d n = true) (hy : Yl G n op E (fun w' => w' = w) v) (h : OpsA ops Q n f (listed.setIfInBounds i true) ((d, v) :: E) w) : OpsA ops Q n (f + 1) listed E w :=
  OpsA.one (K := fun v' w' => v' = v ∧ w' = w) i hr hi hd ⟨fun a ha d ty pos aft gd => by rw [hy.h w rfl a ha d ty pos aft gd]; exact ⟨rfl, rfl⟩⟩ (by rintro _ _ ⟨rfl, rfl⟩; exact h)
end
set_option maxRecDepth 100000
def knownO (op : Int) : Bool := !(by_ (nameO op) == [])
def accessO (op : Int) : Bool := decide (40 ≤ op) && decide (op ≤ 62) && knownO op
theorem opcode_access (op : Int) (w : World) (h0 : Env0 w) : Calls G.P 159 #[.int .i64 op] w fun e w' => e = .returned (.bool (accessO op)) ∧ Ext w w' := by
  refine enter (G := G) Tryz.func159 rfl Tryz.ntmps159 rfl ?_
  unfold accessO
  rcases (show op < 40 ∨ (40 ≤ op ∧ 62 < op) ∨ (40 ≤ op ∧ op ≤ 62) by omega) with h | ⟨h1, h2⟩ | ⟨h1, h2⟩
  · refine wgx ?_
    exact Fin.ret1 rfl rfl ⟨by rw [decide_eq_false (by omega)]; rfl, Chg.refl _ _⟩
  · refine wgx ?_
    exact Fin.ret1 rfl rfl ⟨by rw [decide_eq_true h1, decide_eq_false (by omega)]; rfl, Chg.refl _ _⟩
  · refine wgx ?_
    refine Ops.callg rfl rfl rfl rfl (opcode_Known op w h0) ?_
    rintro _ w1 ⟨rfl, hx⟩
    refine ⟨_, rfl, ?_⟩
    refine wgx ?_
    exact Fin.ret1 rfl rfl ⟨by rw [decide_eq_true h1, decide_eq_true h2]; rfl, hx⟩
theorem opX_small : (opX.all fun x => decide (x.2.size ≤ 100)) = true := by decide +kernel
theorem findO_mem {op : Int} {s : ByteArray} : ∀ {l : List (Int × ByteArray)}, findO op l = some s → (op, s) ∈ l
  | x :: r, h => by
    rw [findO] at h
    split at h
    · rename_i e; cases h; subst e; simp
    · exact List.mem_cons_of_mem _ (findO_mem h)
theorem name_small (op : Int) : (nameO op).size ≤ 100 := by
  unfold nameO
  cases h : findO op opX with
  | none => exact Nat.zero_le _
  | some s =>
    have := List.all_eq_true.1 opX_small _ (findO_mem h)
    simpa using this
def widthN (s : List UInt8) : Int :=
  if Lib.contains (s.drop 4) [56] = true then 1 else if Lib.contains (s.drop 4) [49, 54] = true then 2 else if Lib.contains (s.drop 4) [51, 50] = true then 4 else if (s.take 3 == [105, 51, 50]) = true then 4 else 8
def widthO (op : Int) : Int := if accessO op = true then widthN (by_ (nameO op)) else 0
theorem access_long : ∀ k, k < 23 → accessO (40 + (k : Nat)) = true → 4 ≤ (nameO (40 + (k : Nat))).size := by decide +kernel
theorem access_size {op : Int} (h : accessO op = true) : 4 ≤ (nameO op).size := by
  have h' := h
  unfold accessO at h'
  simp only [Bool.and_eq_true, decide_eq_true_eq] at h'
  obtain ⟨k, hk⟩ := Int.eq_ofNat_of_zero_le (show 0 ≤ op - 40 by omega)
  have e : op = 40 + (k : Int) := by omega
  rw [e] at h ⊢
  exact access_long k (by omega) h
theorem drop4 {s : ByteArray} : by_ (s.extract 4 s.size) = (by_ s).drop 4 := by
  rw [by_extract, List.take_of_length_le (by rw [by_len]; omega)]
theorem take3 {s : ByteArray} : by_ (s.extract 0 3) = (by_ s).take 3 := by rw [by_extract, List.drop_zero]
set_option maxHeartbeats 4000000 in
theorem opcode_Width (op : Int) (w : World) (h0 : Env0 w) : Calls G.P 128 #[.int .i64 op] w fun e w' => e = .returned (.int .i64 (widthO op)) ∧ Ext w w' := by
  refine enter (G := G) Tryz.func128 rfl Tryz.ntmps128 rfl ?_
  refine wgx ?_
  refine Ops.call rfl rfl rfl (opcode_access op w h0) ?_
  rintro _ w1 ⟨rfl, hx1⟩
  refine ⟨_, rfl, ?_⟩
  unfold widthO
  cases ha : accessO op with
  | false =>
    refine wgx ?_
    exact Fin.ret1 rfl rfl ⟨rfl, hx1⟩
  | true =>
    have hsz := access_size ha
    have hsm := name_small op
    refine wgx ?_
    refine Ops.call rfl rfl rfl (opcode_Name op w1 (h0.ext hx1)) ?_
    rintro _ w2 ⟨rfl, hx2⟩
    refine ⟨_, rfl, ?_⟩
    have hxb : Ext w w2 := hx1.trans hx2
    generalize nameO op = s at *
    refine wgx ?_
    refine Ops.e (Eff.buildSlice (cs := [.int .i64 8, .int .i64 16, .int .i64 32]) (e := 3) rfl (by kernel_rfl)) rfl ?_
    rintro _ w3 ⟨rfl, hn3⟩
    have hx3 : Ext w w3 := hxb.trans hn3.ext
    have b3 := hn3.blk
    generalize w2.heap.size = bk at *
    refine wgx ?_
    refine Cd.loop (σ := Nat) (fun k => [(3, .string s), (11, .slice (some ⟨bk, 0, none⟩) 3 3), (12, .int .i64 3), (13, .int .i64 k)]) (fun k wr => k ≤ 3 ∧ Ext w wr ∧ Blk wr bk [.int .i64 8, .int .i64 16, .int .i64 32] 3 ∧ (0 < k → Lib.contains ((by_ s).drop 4) [56] = false) ∧ (1 < k → Lib.contains ((by_ s).drop 4) [49, 54] = false) ∧ (2 < k → Lib.contains ((by_ s).drop 4) [51, 50] = false)) (fun k => 3 - k) 0 wsub ⟨by omega, hx3, b3, by omega, by omega, by omega⟩ ?_
    rintro k wr ⟨hk, hxr, hbr, g0, g1, g2⟩
    obtain ⟨mx, hmx⟩ := (h0.ext hxr).mx
    rcases (show k = 0 ∨ k = 1 ∨ k = 2 ∨ k = 3 by omega) with rfl | rfl | rfl | rfl
    · have c : wr.cell? ⟨bk, 0 + 0, none⟩ = some (.int .i64 8) := hbr.cell rfl
      refine wgx ?_
      refine Cd.regionA ?_
      refine OpsA.take 0 rfl (by kernel_rfl) (Yl.move rfl) ?_
      refine OpsA.take 1 rfl (by kernel_rfl) (Yl.sliceSLo Tryz.underlying9 rfl rfl (i := 4) rfl (by omega)) ?_
      refine OpsA.take 3 rfl (by kernel_rfl) (Yl.move rfl) ?_
      refine OpsA.take 4 rfl (by kernel_rfl) (Yl.quo (r := 0) rfl rfl (fun w => by kernel_rfl)) ?_
      refine OpsA.one 2 (by kernel_rfl) rfl rfl (Eff.buildSlice (cs := [.string ⟨#[56]⟩, .string ⟨#[49, 54]⟩, .string ⟨#[51, 50]⟩]) (e := 9) rfl (by kernel_rfl)) ?_
      rintro _ w5 ⟨rfl, hn5⟩
      have hx5 : Ext wr w5 := Chg.trans ((Chg.refl _ wr).drew) hn5.ext
      have c5 : w5.cell? ⟨wr.drew.heap.size, 0 + 0, none⟩ = some (.string ⟨([56] : List UInt8).toArray⟩) := hn5.blk.cell rfl
      refine OpsA.take 5 rfl (by kernel_rfl) (Yl.idx1 rfl rfl rfl rfl rfl (i := 0) rfl (by omega)) ?_
      refine OpsA.oneY 6 (by kernel_rfl) rfl rfl (Yl.load rfl rfl rfl (by rintro _ rfl; exact c5)) ?_
      refine OpsA.one 7 (by kernel_rfl) rfl rfl (Eff.call rfl rfl (sh_strings_Contains (s.extract 4 s.size) ⟨([56] : List UInt8).toArray⟩ mx w5 (by rw [← by_len, drop4, List.length_drop, by_len]; omega) (hx5.cell hmx)) (fun e w' h => ⟨_, h.1⟩)) ?_
      rintro _ w6 ⟨hv, hw6⟩
      obtain rfl : w5 = w6 := hw6.symm
      cases hv
      have e5 : Lib.contains (s.extract 4 s.size).data.toList (ByteArray.mk ([56] : List UInt8).toArray).data.toList = Lib.contains ((by_ s).drop 4) [56] := by rw [← drop4]
      rw [e5]
      refine OpsA.done (by kernel_rfl) ?_
      have b5 : Blk w5 bk [.int .i64 8, .int .i64 16, .int .i64 32] 3 := hbr.chg hx5 id
      have hxw : Ext w w5 := hxr.trans hx5
      cases hct : Lib.contains ((by_ s).drop 4) [56] with
      | true =>
        refine wgx ?_
        refine Ops.y (Yl.quo (r := 1) rfl rfl (fun w => by kernel_rfl)) rfl ?_
        refine wgx ?_
        refine Fin.ret1 rfl rfl ⟨?_, hxw⟩
        rw [if_pos rfl]
        unfold widthN
        simp [hct]
      | false =>
        refine wgx ?_
        exact Fin.next 1 wsub ⟨by omega, hxw, b5, fun _ => rfl, fun _ => by omega, fun _ => by omega⟩ (by omega)
    · have c : wr.cell? ⟨bk, 0 + 1, none⟩ = some (.int .i64 16) := hbr.cell rfl
      refine wgx ?_
      refine Cd.regionA ?_
      refine OpsA.take 0 rfl (by kernel_rfl) (Yl.move rfl) ?_
      refine OpsA.take 1 rfl (by kernel_rfl) (Yl.sliceSLo Tryz.underlying9 rfl rfl (i := 4) rfl (by omega)) ?_
      refine OpsA.take 3 rfl (by kernel_rfl) (Yl.move rfl) ?_
      refine OpsA.take 4 rfl (by kernel_rfl) (Yl.quo (r := 1) rfl rfl (fun w => by kernel_rfl)) ?_
      refine OpsA.one 2 (by kernel_rfl) rfl rfl (Eff.buildSlice (cs := [.string ⟨#[56]⟩, .string ⟨#[49, 54]⟩, .string ⟨#[51, 50]⟩]) (e := 9) rfl (by kernel_rfl)) ?_
      rintro _ w5 ⟨rfl, hn5⟩
      have hx5 : Ext wr w5 := Chg.trans ((Chg.refl _ wr).drew) hn5.ext
      have c5 : w5.cell? ⟨wr.drew.heap.size, 0 + 1, none⟩ = some (.string ⟨([49, 54] : List UInt8).toArray⟩) := hn5.blk.cell rfl
      refine OpsA.take 5 rfl (by kernel_rfl) (Yl.idx1 rfl rfl rfl rfl rfl (i := 1) rfl (by omega)) ?_
      refine OpsA.oneY 6 (by kernel_rfl) rfl rfl (Yl.load rfl rfl rfl (by rintro _ rfl; exact c5)) ?_
      refine OpsA.one 7 (by kernel_rfl) rfl rfl (Eff.call rfl rfl (sh_strings_Contains (s.extract 4 s.size) ⟨([49, 54] : List UInt8).toArray⟩ mx w5 (by rw [← by_len, drop4, List.length_drop, by_len]; omega) (hx5.cell hmx)) (fun e w' h => ⟨_, h.1⟩)) ?_
      rintro _ w6 ⟨hv, hw6⟩
      obtain rfl : w5 = w6 := hw6.symm
      cases hv
      have e5 : Lib.contains (s.extract 4 s.size).data.toList (ByteArray.mk ([49, 54] : List UInt8).toArray).data.toList = Lib.contains ((by_ s).drop 4) [49, 54] := by rw [← drop4]
      rw [e5]
      refine OpsA.done (by kernel_rfl) ?_
      have b5 : Blk w5 bk [.int .i64 8, .int .i64 16, .int .i64 32] 3 := hbr.chg hx5 id
      have hxw : Ext w w5 := hxr.trans hx5
      cases hct : Lib.contains ((by_ s).drop 4) [49, 54] with
      | true =>
        refine wgx ?_
        refine Ops.y (Yl.quo (r := 2) rfl rfl (fun w => by kernel_rfl)) rfl ?_
        refine wgx ?_
        refine Fin.ret1 rfl rfl ⟨?_, hxw⟩
        rw [if_pos rfl]
        unfold widthN
        simp [hct, g0 (by omega)]
      | false =>
        refine wgx ?_
        exact Fin.next 2 wsub ⟨by omega, hxw, b5, fun _ => g0 (by omega), fun _ => rfl, fun _ => by omega⟩ (by omega)
    · have c : wr.cell? ⟨bk, 0 + 2, none⟩ = some (.int .i64 32) := hbr.cell rfl
      refine wgx ?_
      refine Cd.regionA ?_
      refine OpsA.take 0 rfl (by kernel_rfl) (Yl.move rfl) ?_
      refine OpsA.take 1 rfl (by kernel_rfl) (Yl.sliceSLo Tryz.underlying9 rfl rfl (i := 4) rfl (by omega)) ?_
      refine OpsA.take 3 rfl (by kernel_rfl) (Yl.move rfl) ?_
      refine OpsA.take 4 rfl (by kernel_rfl) (Yl.quo (r := 2) rfl rfl (fun w => by kernel_rfl)) ?_
      refine OpsA.one 2 (by kernel_rfl) rfl rfl (Eff.buildSlice (cs := [.string ⟨#[56]⟩, .string ⟨#[49, 54]⟩, .string ⟨#[51, 50]⟩]) (e := 9) rfl (by kernel_rfl)) ?_
      rintro _ w5 ⟨rfl, hn5⟩
      have hx5 : Ext wr w5 := Chg.trans ((Chg.refl _ wr).drew) hn5.ext
      have c5 : w5.cell? ⟨wr.drew.heap.size, 0 + 2, none⟩ = some (.string ⟨([51, 50] : List UInt8).toArray⟩) := hn5.blk.cell rfl
      refine OpsA.take 5 rfl (by kernel_rfl) (Yl.idx1 rfl rfl rfl rfl rfl (i := 2) rfl (by omega)) ?_
      refine OpsA.oneY 6 (by kernel_rfl) rfl rfl (Yl.load rfl rfl rfl (by rintro _ rfl; exact c5)) ?_
      refine OpsA.one 7 (by kernel_rfl) rfl rfl (Eff.call rfl rfl (sh_strings_Contains (s.extract 4 s.size) ⟨([51, 50] : List UInt8).toArray⟩ mx w5 (by rw [← by_len, drop4, List.length_drop, by_len]; omega) (hx5.cell hmx)) (fun e w' h => ⟨_, h.1⟩)) ?_
      rintro _ w6 ⟨hv, hw6⟩
      obtain rfl : w5 = w6 := hw6.symm
      cases hv
      have e5 : Lib.contains (s.extract 4 s.size).data.toList (ByteArray.mk ([51, 50] : List UInt8).toArray).data.toList = Lib.contains ((by_ s).drop 4) [51, 50] := by rw [← drop4]
      rw [e5]
      refine OpsA.done (by kernel_rfl) ?_
      have b5 : Blk w5 bk [.int .i64 8, .int .i64 16, .int .i64 32] 3 := hbr.chg hx5 id
      have hxw : Ext w w5 := hxr.trans hx5
      cases hct : Lib.contains ((by_ s).drop 4) [51, 50] with
      | true =>
        refine wgx ?_
        refine Ops.y (Yl.quo (r := 4) rfl rfl (fun w => by kernel_rfl)) rfl ?_
        refine wgx ?_
        refine Fin.ret1 rfl rfl ⟨?_, hxw⟩
        rw [if_pos rfl]
        unfold widthN
        simp [hct, g0 (by omega), g1 (by omega)]
      | false =>
        refine wgx ?_
        exact Fin.next 3 wsub ⟨by omega, hxw, b5, fun _ => g0 (by omega), fun _ => g1 (by omega), fun _ => rfl⟩ (by omega)
    · by_cases h3 : ((by_ s).take 3 == [105, 51, 50]) = true
      · refine wgx ?_
        refine Ops.y (Yl.sliceSHi Tryz.underlying9 rfl rfl (i := 3) rfl (by omega)) rfl ?_
        refine Ops.y (Yl.eqS rfl rfl) rfl ?_
        rw [show (s.extract 0 3).data.toList = (by_ s).take 3 from take3, show ((ByteArray.mk #[105, 51, 50]).data.toList) = [105, 51, 50] from rfl, h3]
        refine wgx ?_
        refine Fin.ret1 rfl rfl ⟨?_, hxr⟩
        rw [if_pos rfl]
        unfold widthN
        simp [g0 (by omega), g1 (by omega), g2 (by omega), h3]
      · refine wgx ?_
        refine Ops.y (Yl.sliceSHi Tryz.underlying9 rfl rfl (i := 3) rfl (by omega)) rfl ?_
        refine Ops.y (Yl.eqS rfl rfl) rfl ?_
        rw [show (s.extract 0 3).data.toList = (by_ s).take 3 from take3, show ((ByteArray.mk #[105, 51, 50]).data.toList) = [105, 51, 50] from rfl, Bool.eq_false_iff.2 h3]
        refine wgx ?_
        refine Fin.ret1 rfl rfl ⟨?_, hxr⟩
        rw [if_pos rfl]
        unfold widthN
        simp [g0 (by omega), g1 (by omega), g2 (by omega), h3]
end Go.Proofs.YtgbgnipidakdhaaGreatDoor
