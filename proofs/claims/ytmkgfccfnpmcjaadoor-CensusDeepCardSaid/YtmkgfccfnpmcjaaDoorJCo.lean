/- Counters: the plain sums, and that they may be wrapped at any step; the reference's and the program's counting of one instruction. -/
import Derived.Test.YtmkgfccfnpmcjaaDoorJM4
import Derived.Test.YtmkgfccfnpmcjaaDoorJC7
namespace Go.Proofs.YtmkgfccfnpmcjaaDoor
open Go.RowKit
set_option maxRecDepth 100000

section
variable {n : Nat} {E : Env} {M M' : List Res} {R : List (World → Prop)}
theorem HE.callE {β : Type} (tf : β → Value) (φ : β → Prop) {f : Nat} {args : List Operand} {tys : Array TypeId} {vs : List Value} (hf : G.fb[f]? = some true) (ha : evs E args = some vs)
    (hc : ∀ w, Ok M R w → Calls G.P f vs.toArray w (fun e w' => (∃ x, e = .returned (tf x) ∧ φ x) ∧ Ext w w')) : HE n (.call ⟨.value (.func f), args.toArray, tys⟩) E M R φ tf (fun _ => M) (fun _ => R) :=
  HE.call tf hf ha fun w hw => (hc w hw).mono fun _e _w' ⟨⟨x, e1, h1⟩, hx⟩ => ⟨x, e1, h1, hw.ext hx⟩
theorem sub_blk {b T : Nat} {cs cs' : List Value} (h : cs' = cs) (hs : M'.Sublist M) : (Res.blk b cs' T :: M').Sublist (Res.blk b cs T :: M) := by subst h; exact hs.cons_cons _
end
theorem wr64_eq (n : Int) : wr64 n = (n + 9223372036854775808) % 18446744073709551616 - 9223372036854775808 := by
  show IntKind.wrap .i64 n = _
  unfold IntKind.wrap
  have e1 : (2 ^ IntKind.i64.bits : Int) = 18446744073709551616 := by decide
  have e2 : (2 ^ (IntKind.i64.bits - 1) : Int) = 9223372036854775808 := by decide
  have e3 : IntKind.i64.signed = true := rfl
  simp only [e1, e2, e3, Bool.true_and]
  split
  · rename_i h
    have h' := of_decide_eq_true h
    omega
  · rename_i h
    have h' : ¬ (9223372036854775808 : Int) ≤ n % 18446744073709551616 := fun hh => h (decide_eq_true hh)
    omega
theorem wr64_l (a b : Int) : wr64 (wr64 a + b) = wr64 (a + b) := by rw [wr64_eq, wr64_eq, wr64_eq]; omega
theorem wr64_in {a : Int} (h : -9223372036854775808 ≤ a ∧ a ≤ 9223372036854775807) : wr64 a = a := IntWalk.i64_in _ h
def zC : Cen := ⟨0, 0, 0, 0, 0, 0, 0, 0⟩
def add0 (a b : Cen) : Cen := ⟨a.funcs + b.funcs, a.instrs + b.instrs, a.blocks + b.blocks, a.loops + b.loops, a.calls + b.calls, a.loads + b.loads, a.stores + b.stores, a.consts + b.consts⟩
def wrapC (a : Cen) : Cen := ⟨wr64 a.funcs, wr64 a.instrs, wr64 a.blocks, wr64 a.loops, wr64 a.calls, wr64 a.loads, wr64 a.stores, wr64 a.consts⟩
theorem addC_eq (a b : Cen) : addC a b = wrapC (add0 a b) := rfl
theorem addC_wrap (a b : Cen) : addC (wrapC a) b = wrapC (add0 a b) := by
  simp only [addC, wrapC, add0, wr64_l]
theorem add0_assoc (a b c : Cen) : add0 (add0 a b) c = add0 a (add0 b c) := by simp only [add0, Int.add_assoc]
theorem add0_z (a : Cen) : add0 a zC = a := by simp [add0, zC]
theorem z_add0 (a : Cen) : add0 zC a = a := by simp [add0, zC]
theorem add0_comm (a b : Cen) : add0 a b = add0 b a := by simp only [add0]; congr 1 <;> exact Int.add_comm _ _
def csum {α : Type} (f : α → Cen) : List α → Cen
  | [] => zC
  | a :: r => add0 (f a) (csum f r)
theorem csum_app {α : Type} (f : α → Cen) : ∀ (l r : List α), csum f (l ++ r) = add0 (csum f l) (csum f r)
  | [], r => (z_add0 _).symm
  | a :: l, r => by rw [List.cons_append, csum, csum_app f l r, csum, add0_assoc]
theorem csum_one {α : Type} (f : α → Cen) (a : α) : csum f [a] = f a := by rw [csum, csum, add0_z]
theorem csum_take {α : Type} [Inhabited α] (f : α → Cen) {l : List α} {i : Nat} (h : i < l.length) : csum f (l.take (i + 1)) = add0 (csum f (l.take i)) (f (ix l i)) := by
  rw [take_succ_ix h, csum_app, csum_one]

/-- one instruction, as the reference counts it -/
def one5 (op : Int) : Cen := ⟨0, 1, 0, b01 (op == 3), b01 (op == 16 || op == 17), b01 (decide (0 < width5 op) && decide (op < 54)), b01 (decide (0 < width5 op) && !decide (op < 54)), b01 (op == 65 || op == 66)⟩
theorem one_tab : (r05.all fun r => decide (oneC r.1 = one5 r.1)) = true := by decide +kernel
theorem one_5 (op : Int) : oneC op = one5 op := by
  cases h : find5 op with
  | some r =>
    have := List.all_eq_true.1 one_tab r (List.mem_of_find?_eq_some h)
    have e : r.1 = op := by have := List.find?_some h; simpa using this
    rw [e] at this
    simpa using this
  | none =>
    have h2 : width5 op = 0 := by unfold width5 row5; rw [h]; rfl
    have h3 : widthO op = 0 := by rw [widthO_5, h2]
    unfold oneC one5 loadO storO
    rw [h2, h3]; rfl
/-- a body, counted -/
noncomputable def nbK (xs : List Ins) : Nat := open Classical in if (checkR xs).2 = 0 ∧ ¬ badB xs then (blocksB xs).length else 0
noncomputable def bodyC (xs : List Ins) : Cen := add0 ⟨0, 0, nbK xs, 0, 0, 0, 0, 0⟩ (csum (fun x : Ins => oneC x.op) xs)
/-- a module, counted -/
noncomputable def modC (m : ApiModule) : Cen := add0 ⟨m.funcs.length, 0, 0, 0, 0, 0, 0, 0⟩ (csum (fun f : ApiCode => bodyC f.body) m.funcs)
theorem of_len {w : World} {xs : List Ins} {e : Ending} {w' : World} (h : OfPost w xs ((checkR xs).2 = 0 ∧ ¬ badB xs) (blocksB xs) e w') : (∃ x : Option Addr × Nat × Bool, e = .returned (.tuple #[.slice x.1 (nbK xs) x.2.1, .bool x.2.2]) ∧ nbK xs ≤ 2932031007317) ∧ Ext w w' := by
  rcases h with ⟨hn, rfl, hx⟩ | ⟨hk, r, nvs, rfl, hb, hx⟩
  · have e : nbK xs = 0 := by unfold nbK; rw [if_neg hn]
    exact ⟨⟨(none, 0, false), by rw [e], by omega⟩, hx⟩
  · obtain ⟨p, c, rfl, hl⟩ := hb.slice
    have e : nbK xs = (blocksB xs).length := by unfold nbK; rw [if_pos hk]
    exact ⟨⟨(p, c, true), by rw [e], by omega⟩, hx⟩
end Go.Proofs.YtmkgfccfnpmcjaaDoor
/- census.Of, ref57.one, ref57.Of. -/
namespace Go.Proofs.YtmkgfccfnpmcjaaDoor
open Go.RowKit
set_option maxRecDepth 100000
abbrev TCen : Nat := 62
abbrev TCode : Nat := 56
abbrev TIns : Nat := 53
theorem cenC_out (a : Cen) : cenC a = [Value.int .i64 a.funcs, .int .i64 a.instrs, .int .i64 a.blocks, .int .i64 a.loops, .int .i64 a.calls, .int .i64 a.loads, .int .i64 a.stores, .int .i64 a.consts] := rfl

/-- the bodies of a module are small enough -/
def SmallM (m : ApiModule) : Prop := ∀ i, i < m.funcs.length → (ix m.funcs i).body.length ≤ 1000000 ∧ ∀ j, j < (ix m.funcs i).body.length → (ix (ix m.funcs i).body j).labels.length ≤ 1000000
theorem sum_ge {l : List Nat} {x : Nat} (h : x ∈ l) : x ≤ l.sum := by
  induction l with
  | nil => cases h
  | cons a r ih =>
    rw [List.sum_cons]
    rcases List.mem_cons.1 h with rfl | h
    · omega
    · have := ih h; omega
theorem LightP.small {m : ApiModule} (h : LightP m) : SmallM m := by
  intro i hi
  obtain ⟨-, h1, h2⟩ := h
  have hi' : i < (m.funcs.map (·.body)).length := by simpa using hi
  have e : ix (m.funcs.map (·.body)) i = (ix m.funcs i).body := by rw [ix_eq hi', ix_eq hi]; simp
  have h3 := h2 i hi'
  rw [e] at h3
  refine ⟨?_, fun j hj => ?_⟩
  · have hm : (ix m.funcs i).body.length ∈ (m.funcs.map (·.body)).map List.length := by
      rw [ix_eq hi]; simp only [List.map_map, List.mem_map]; exact ⟨m.funcs[i], List.getElem_mem hi, rfl⟩
    have := sum_ge hm
    omega
  · have := (h3 j hj).1; omega
/-- the cells of an instruction, read whole -/
theorem InsR.all9 {F : Nat → Prop} {w : World} {b o : Nat} {x : Ins} (h : InsR F w b o x) : ∃ tv lv, IntsR F w tv x.types ∧ IntsR F w lv x.labels ∧ ∀ j, j < 9 → w.cell? ⟨b, o + j, none⟩ = ([Value.int .i64 x.op, .int .i64 x.a, .int .i64 x.b, .int .u64 x.n, .int .i64 x.kind, .int .i64 x.val, .int .i64 x.index, tv, lv] : List Value)[j]? := by
  obtain ⟨tv, h1, h2⟩ := h.types
  obtain ⟨lv, h3, h4⟩ := h.labels
  refine ⟨tv, lv, h2, h4, fun j hj => ?_⟩
  match j, hj with
  | 0, _ => exact h.op
  | 1, _ => exact h.a
  | 2, _ => exact h.b
  | 3, _ => exact h.n
  | 4, _ => exact h.kind
  | 5, _ => exact h.val
  | 6, _ => exact h.index
  | 7, _ => exact h1
  | 8, _ => exact h3
noncomputable def cen1 (m : ApiModule) (i : Nat) : Cen := add0 ⟨m.funcs.length, 0, 0, 0, 0, 0, 0, 0⟩ (csum (fun f : ApiCode => bodyC f.body) (m.funcs.take i))
noncomputable def cen2 (m : ApiModule) (i j : Nat) : Cen := add0 (cen1 m i) (add0 ⟨0, 0, nbK (ix m.funcs i).body, 0, 0, 0, 0, 0⟩ (csum (fun x : Ins => oneC x.op) ((ix m.funcs i).body.take j)))

/-- what the counting needs of the blocks of a body -/
def LenPost (xs : List Ins) (w : World) (e : Ending) (w' : World) : Prop := (∃ x : Option Addr × Nat × Bool, e = .returned (.tuple #[.slice x.1 (nbK xs) x.2.1, .bool x.2.2]) ∧ nbK xs ≤ 2932031007317) ∧ Ext w w'
theorem cfg_len (xs : List Ins) (v : Value) (w : World) (hb : Body w v xs) (hsm : xs.length ≤ 1000000) (hlab : ∀ i, i < xs.length → (ix xs i).labels.length ≤ 1000000) : Calls G.P 10 #[v] w (LenPost xs w) := (cfg_Of xs v w hb hsm hlab).mono fun _ _ h => of_len h
theorem HE.callLen {n : Nat} {E : Env} {M : List Res} {R : List (World → Prop)} (xs : List Ins) {f : Nat} {args : List Operand} {tys : Array TypeId} {vs : List Value} (hf : G.fb[f]? = some true) (ha : evs E args = some vs)
    (hc : ∀ w, Ok M R w → Calls G.P f vs.toArray w (LenPost xs w)) : HE n (.call ⟨.value (.func f), args.toArray, tys⟩) E M R (fun _ : Option Addr × Nat × Bool => nbK xs ≤ 2932031007317) (fun x => .tuple #[.slice x.1 (nbK xs) x.2.1, .bool x.2.2]) (fun _ => M) (fun _ => R) :=
  HE.callE _ _ hf ha hc

set_option maxHeartbeats 16000000 in
theorem census_Of (F : Nat → Prop) (m : ApiModule) (cs : List Value) (w : World) (hm : ApiModuleV F w cs m) (hs : SmallM m) (h0 : Env0 w) : Calls G.P 7 #[.agg cs.toArray] w fun e w' => e = .returned (.agg (cenC (wrapC (modC m))).toArray) ∧ Ext w w' := by
  obtain ⟨v0, v1, v2, v3, v4, v5, v6, v7, v8, v9, rfl, r0, r1, r2, r3, r4, r5, r6, r7, r8, r9, g0⟩ := hm
  obtain ⟨p2, c2, rfl, l2⟩ := r2.slice
  refine enterH (l := [.agg (([v0, v1, Value.slice p2 m.funcs.length c2, v3, v4, v5, v6, Value.bool m.hasStart, Value.int .i64 m.start, v7, v8, v9] : List Value)).toArray]) Tryd.func7 rfl Tryd.ntmps7 rfl (Ok.start w) ?_
  refine wgh ?_
  refine OpsH.box ([v0, v1, Value.slice p2 m.funcs.length c2, v3, v4, v5, v6, Value.bool m.hasStart, Value.int .i64 m.start, v7, v8, v9] : List Value) rfl rfl rfl fun b => ?_
  refine wgh ?_
  refine OpsH.alloc (cenC zC) rfl rfl rfl fun b2 => ?_
  refine wgh ?_
  refine OpsH.alloc (cenC zC) rfl rfl rfl fun b3 => ?_
  have hw0 : wrapC (cen1 m 0) = ⟨m.funcs.length, 0, 0, 0, 0, 0, 0, 0⟩ := by
    simp [cen1, csum, add0_z, wrapC, wr64_in (show -9223372036854775808 ≤ (m.funcs.length : Int) ∧ (m.funcs.length : Int) ≤ 9223372036854775807 by omega), wr64_in (show -9223372036854775808 ≤ (0 : Int) ∧ (0 : Int) ≤ 9223372036854775807 by omega)]
  refine wgh ?_
  refine CdH.loop (σ := Nat) (fun i => [(1, .pointer (some ⟨b, 0, none⟩)), (2, .pointer (some ⟨b2, 0, none⟩)), (3, .pointer (some ⟨b3, 0, none⟩)), (15, .slice p2 m.funcs.length c2), (16, .int .i64 m.funcs.length), (17, .int .i64 i)]) (fun i => [.blk b3 (cenC (wrapC (cen1 m i))) TCen, .blk b2 (cenC zC) TCen, .blk b ([v0, v1, Value.slice p2 m.funcs.length c2, v3, v4, v5, v6, Value.bool m.hasStart, Value.int .i64 m.start, v7, v8, v9] : List Value) TMod]) (fun _ => [Ext w]) (fun i => i ≤ m.funcs.length) (fun i => m.funcs.length - i) 0 wsub (sub_blk (by rw [hw0]; rfl) wsl) wsr (by omega) ?_
  intro i hi
  by_cases hlt : i < m.funcs.length
  · obtain ⟨b1, o1, rfl, hF, cs5, ⟨u0, u1, rfl, q0, q1, q2⟩, hc5⟩ := r2.el hlt
    obtain ⟨x2, y2, rfl, z2⟩ := q1.slice
    obtain ⟨x0, y0, rfl, z0⟩ := q0.slice
    obtain ⟨hsm1, hsm2⟩ := hs i hlt
    refine wgh ?_
    refine OpsH.y_ (Yl.loadE rfl rfl rfl wmem (by rfl) (by rfl) hc5) rfl ?_
    refine OpsH.alloc [Value.int .i64 0, Value.slice none 0 0, Value.slice none 0 0] rfl rfl rfl fun b5 => ?_
    refine wgh ?_
    refine OpsH.he (HE.callLen (ix m.funcs i).body rfl rfl (fun w' hw' => cfg_len _ _ w' ((Body.true q1).ext (show Ext w w' from hw'.at)) hsm1 hsm2)) rfl ?_
    rintro ⟨pb, cb, bb⟩ hnb
    refine wgh ?_
    have e0 : addC (wrapC (cen1 m i)) ⟨0, 0, nbK (ix m.funcs i).body, 0, 0, 0, 0, 0⟩ = wrapC (cen2 m i 0) := by
      rw [addC_wrap]; simp [cen2, csum, add0_z]
    refine OpsH.call1 (v := .agg (cenC (wrapC (cen2 m i 0))).toArray) rfl rfl rfl (fun w' _ => by rw [← e0]; exact census_Add (wrapC (cen1 m i)) ⟨0, 0, nbK (ix m.funcs i).body, 0, 0, 0, 0, 0⟩ w') ?_
    refine wgh ?_
    refine CdH.loop (σ := Nat) (fun j => [(1, .pointer (some ⟨b, 0, none⟩)), (2, .pointer (some ⟨b2, 0, none⟩)), (3, .pointer (some ⟨b3, 0, none⟩)), (15, .slice (some ⟨b1, o1, none⟩) m.funcs.length c2), (16, .int .i64 m.funcs.length), (17, .int .i64 i), (33, .slice x2 (ix m.funcs i).body.length y2), (34, .int .i64 (ix m.funcs i).body.length), (35, .int .i64 j)]) (fun j => [.blk b3 (cenC (wrapC (cen2 m i j))) TCen, .blk b2 (cenC zC) TCen, .blk b ([v0, v1, Value.slice (some ⟨b1, o1, none⟩) m.funcs.length c2, v3, v4, v5, v6, Value.bool m.hasStart, Value.int .i64 m.start, v7, v8, v9] : List Value) TMod]) (fun _ => [Ext w]) (fun j => j ≤ (ix m.funcs i).body.length) (fun j => (ix m.funcs i).body.length - j) 0 wsub wsl wsr (by omega) ?_
    intro j hj
    by_cases hjl : j < (ix m.funcs i).body.length
    · obtain ⟨b6, o6, rfl, -, hall⟩ := q1.at hjl
      obtain ⟨tv, lv, htv, hlv, hc9⟩ := (hall j hjl).all9
      obtain ⟨xt, yt, rfl, -⟩ := htv.slice
      obtain ⟨xl, yl, rfl, -⟩ := hlv.slice
      refine wgh ?_
      refine OpsH.y_ (Yl.loadE rfl rfl rfl wmem (by rfl) (by rfl) hc9) rfl ?_
      refine OpsH.alloc [Value.int .i64 0, Value.int .i64 0, Value.int .i64 0, Value.int .u64 0, Value.int .i64 0, Value.int .i64 0, Value.int .i64 0, Value.slice none 0 0, Value.slice none 0 0] rfl rfl rfl fun b9 => ?_
      refine wgh ?_
      have e1 : addC (wrapC (cen2 m i j)) (oneC (ix (ix m.funcs i).body j).op) = wrapC (cen2 m i (j + 1)) := by
        rw [addC_wrap]; unfold cen2; rw [csum_take _ hjl, add0_assoc, add0_assoc]
      refine CdH.regionS [0, 1, 2, 3, 4] 5 _ _ (by kernel_rfl) (List.Sublist.refl _) (fun _ h => h) ?_
      refine wgs ?_
      refine OpsS.he (HE.callV rfl rfl (fun w' hw' => census_one _ w' (h0.ext hw'.at))) rfl (fun _ => List.Sublist.refl _) (fun _ _ h => h) ?_
      rintro ⟨⟩ _
      refine OpsS.he (HE.callV rfl rfl (fun w' hw' => census_Add (wrapC (cen2 m i j)) _ w')) rfl (fun _ => List.Sublist.refl _) (fun _ _ h => h) ?_
      rintro ⟨⟩ _
      rw [e1]
      refine OpsS.hez0 (HE0.storeB _ rfl rfl rfl rfl rfl rfl wup rfl) rfl ?_
      rintro ⟨⟩ _
      refine wgh ?_
      exact FinH.next (j + 1) wsub wsl wsr (by omega) (by omega)
    · obtain rfl : j = (ix m.funcs i).body.length := by omega
      refine wgh ?_
      refine FinH.next (i + 1) wsub (sub_blk ?_ wsl) wsr (by omega) (by omega)
      unfold cen2
      rw [List.take_length, show cen1 m (i + 1) = add0 (cen1 m i) (bodyC (ix m.funcs i).body) by unfold cen1; rw [csum_take _ hlt, add0_assoc]]
      rfl
  · obtain rfl : i = m.funcs.length := by omega
    refine wgh ?_
    refine FinH.ret1c (.inl rfl) rfl rfl rfl rfl rfl wup rfl fun w' hw' => ⟨?_, hw'.at⟩
    unfold cen1 modC; rw [List.take_length]
end Go.Proofs.YtmkgfccfnpmcjaaDoor
