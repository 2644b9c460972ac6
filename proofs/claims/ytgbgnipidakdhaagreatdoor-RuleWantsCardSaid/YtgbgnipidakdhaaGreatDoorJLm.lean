/- The control frames (layer 22): what a method that may fail leaves. -/
import Derived.Test.YtgbgnipidakdhaaGreatDoorJCy
import Derived.Test.YtgbgnipidakdhaaGreatDoorJGh
import Derived.Test.YtgbgnipidakdhaaGreatDoorJWj
import Derived.Test.YtgbgnipidakdhaaGreatDoorJWb
namespace Go.Proofs.YtgbgnipidakdhaaGreatDoor
open Go.RowKit
set_option maxRecDepth 100000
def CtlPostE (M0 : List Res) (cp : Nat) (r : Ctl × Int) (w : World) : Ending → World → Prop := MutPost M0 w (fun _ : CtV => .int .i64 r.2) (fun v' => r.2 = 0 → v'.Good r.1) (fun v' => if r.2 = 0 then ctlM cp r.1 v' else [])
theorem CtlPostE.err {M0 M : List Res} {cp : Nat} {r : Ctl × Int} {w w' : World} {S0 : Nat → Prop} {R : List (World → Prop)} (e : Int) (hr : r.2 = e) (he : e ≠ 0) (hS : Mb M0 = S0) (h : Ok M R w') (hR : Chg S0 w ∈ R) : CtlPostE M0 cp r w (.returned (.int .i64 e)) w' := by
  subst hr
  exact MutPost.ofP (x := (⟨0, undef, undef, undef, undef, [], fun _ => False, []⟩ : CtV)) (fun h => absurd h he) hS h (by rw [if_neg he]; exact SubP.nil) hR
theorem CtlPostE.ok {M0 M : List Res} {cp : Nat} {r : Ctl × Int} {w w' : World} {S0 : Nat → Prop} {R : List (World → Prop)} (v' : CtV) (hr : r.2 = 0) (hg : v'.Good r.1) (hS : Mb M0 = S0) (h : Ok M R w') (hM : SubP (ctlM cp r.1 v') M) (hR : Chg S0 w ∈ R) : CtlPostE M0 cp r w (.returned (.int .i64 0)) w' := by
  have := MutPost.ofP (M0 := M0) (tf := fun _ : CtV => .int .i64 r.2) (φ := fun v' => r.2 = 0 → v'.Good r.1) (M1 := fun v' => if r.2 = 0 then ctlM cp r.1 v' else []) v' (fun _ => hg) hS h (by rw [if_pos hr]; exact hM) hR
  unfold CtlPostE
  rw [hr] at this ⊢
  exact this
theorem SubP.app (M : List Res) : ∀ M' : List Res, SubP M (M ++ M') := by
  induction M with
  | nil => exact fun M' => SubP.nil
  | cons q M ih => exact fun M' => SubP.cons Rm.head (ih M')
theorem FnL.cons {D D0 : Nat → Prop} {w : World} {L : List (ApiFunc × Value × Value)} {f : ApiFunc} {x : Value × Value} (h1 : FnL D w L) (h2 : FnD f D0 w x) : FnL (fun k => D k ∨ D0 k) w ((f, x) :: L) := fun y hy => by
  rcases List.mem_cons.1 hy with rfl | hy
  · exact FnD.mono h2 (fun k h => .inr h)
  · exact FnD.mono (h1 y hy) (fun k h => .inl h)
theorem wantK_ts (s : Stk) (l : List Int) : (wantK s l).1.ts.length ≤ s.ts.length := by
  unfold wantK; dsimp only; split
  · rw [List.length_take]; omega
  · exact Nat.le_refl _
theorem blk_ints1 {w : World} {b T : Nat} {a : Int} (h : Blk w b [.int .i64 a] T) : IntsR (fun k => k = b) w (.slice (some ⟨b, 0, none⟩) 1 1) [a] :=
  ⟨_, 1, rfl, by simp, .inr ⟨b, 0, rfl, rfl, fun i hi => by
    have : i = 0 := by simp at hi; exact hi
    subst this
    exact h.cell rfl⟩⟩
abbrev BlsR : (Nat → Prop) → World → Value → List Bool → Prop := SlR 1 17592186044416 BoolAt
theorem BlsR.chg {F S : Nat → Prop} {w w' : World} {v : Value} {xs : List Bool} (h : BlsR F w v xs) (hc : Chg S w w') (hd : ∀ k, k < w.heap.size → F k → ¬ S k) : BlsR F w' v xs := SlR.chg BoolAt.fr BoolAt.ce h hc hd
theorem BlsR.mono {F H : Nat → Prop} {w : World} {v : Value} {xs : List Bool} (h : BlsR F w v xs) (hd : ∀ k, k < w.heap.size → F k → H k) : BlsR H w v xs := SlR.mono BoolAt.mo BoolAt.ce h hd
structure RsV where
  l : Value
  m : Value
  o : Value
def Stk.marks (s : Stk) : List Int := s.ps.map Prod.fst
def Stk.looses (s : Stk) : List Bool := s.ps.map Prod.snd
def capB : Value → Prop
  | .slice _ n c => n ≤ c
  | _ => False
def RsD (s : Stk) (D : Nat → Prop) (w : World) (y : RsV) : Prop := IntsR D w y.l s.ts ∧ IntsR D w y.m s.marks ∧ BlsR D w y.o s.looses ∧ capB y.l ∧ capB y.m ∧ capB y.o
theorem RsD.fr (s : Stk) : FrD (RsD s) := fun h hc hd => ⟨h.1.chg hc hd, h.2.1.chg hc hd, BlsR.chg h.2.2.1 hc hd, h.2.2.2⟩
theorem RsD.mono {s : Stk} {D H : Nat → Prop} {w : World} {y : RsV} (h : RsD s D w y) (hd : ∀ k, D k → H k) : RsD s H w y := ⟨h.1.mono fun k _ => hd k, h.2.1.mono fun k _ => hd k, BlsR.mono h.2.2.1 fun k _ => hd k, h.2.2.2⟩
theorem RsD.shp {s : Stk} {D : Nat → Prop} {w : World} {y : RsV} (h : RsD s D w y) : ∃ p1 c1 p2 c2 p3 c3, y = ⟨.slice p1 s.ts.length c1, .slice p2 s.ps.length c2, .slice p3 s.ps.length c3⟩ ∧ s.ts.length ≤ c1 ∧ s.ps.length ≤ c2 ∧ s.ps.length ≤ c3 := by
  obtain ⟨l, m, o⟩ := y
  obtain ⟨p1, c1, e1, -⟩ := h.1.slice
  obtain ⟨p2, c2, e2, -⟩ := h.2.1.slice
  obtain ⟨p3, c3, e3, -⟩ := SlR.slice h.2.2.1
  obtain ⟨k1, k2, k3⟩ := h.2.2.2
  dsimp only at e1 e2 e3 k1 k2 k3
  subst e1 e2 e3
  simp only [Stk.marks, Stk.looses, List.length_map] at k2 k3
  exact ⟨p1, c1, p2, c2, p3, c3, by simp [Stk.marks, Stk.looses], k1, k2, k3⟩
theorem IntsR.take {F : Nat → Prop} {w : World} {p : Option Addr} {n c : Nat} {xs : List Int} (h : IntsR F w (.slice p n c) xs) (k : Nat) (hk : k ≤ xs.length) : IntsR F w (.slice p k c) (xs.take k) := by
  obtain ⟨p', c', e, hl, h⟩ := h
  cases e
  have ht : (xs.take k).length = k := by rw [List.length_take]; omega
  refine ⟨p, c, by rw [ht], by omega, ?_⟩
  rcases h with h | ⟨b, o, rfl, hF, h⟩
  · exact .inl (by rw [h]; simp)
  · refine .inr ⟨b, o, rfl, hF, fun i hi => ?_⟩
    rw [ht] at hi
    rw [ix_eq (by omega), List.getElem_take, ← ix_eq (by omega)]
    exact h i (by omega)
section
variable {n : Nat} {E : Env} {C : World → Prop} {x y : Operand} {t t2 : TypeId}
end
theorem BlsR.take {F : Nat → Prop} {w : World} {p : Option Addr} {n c : Nat} {xs : List Bool} (h : BlsR F w (.slice p n c) xs) (k : Nat) (hk : k ≤ xs.length) : BlsR F w (.slice p k c) (xs.take k) := by
  obtain ⟨p', c', e, hl, h⟩ := h
  cases e
  have ht : (xs.take k).length = k := by rw [List.length_take]; omega
  refine ⟨p, c, by rw [ht], by omega, ?_⟩
  rcases h with h | ⟨b, o, rfl, hF, h⟩
  · exact .inl (by rw [h]; simp)
  · refine .inr ⟨b, o, rfl, hF, fun i hi => ?_⟩
    rw [ht] at hi
    rw [ix_eq (by omega), List.getElem_take, ← ix_eq (by omega)]
    exact h i (by omega)
theorem same_take {xs ys : List Int} {j : Nat} (hx : j < xs.length) (hy : j < ys.length) (h : xs.take j = ys.take j) : xs.take (j + 1) = ys.take (j + 1) ↔ ix xs j = ix ys j := by
  rw [take_succ_ix hx, take_succ_ix hy, h]
  constructor
  · intro h; simpa using h
  · intro h; rw [h]
def turnK (s : Stk) (f : ApiFunc) : Stk × Int := if (wantK s f.params).2 ≠ 0 then wantK s f.params else (pushK (wantK s f.params).1 f.results, 0)
set_option maxHeartbeats 4000000 in
theorem rule_turn (sp : Nat) (s : Stk) (y : Value × Value) (f : ApiFunc) (a : SgA) (w : World) (hw : Ok (stkM sp s y) [SgR f a] w) (hwf : s.Wf) (hb : (wantK s f.params).2 = 0 → ((wantK s f.params).1.ts.length + f.results.length) * 8 ≤ 140737488355328) :
    Calls G.P 48 #[.pointer (some ⟨sp, 0, none⟩), .agg #[.slice a.p f.params.length a.c, .slice a.q f.results.length a.d]] w (StkPost sp s y (.int .i64 (turnK s f).2) (turnK s f).1 w) := by
  obtain ⟨tv, pv⟩ := y
  have hp := hwf.some
  have h0 := hwf.at_.1
  have hle := hwf.at_.2
  refine enterH (l := [_, _]) Tryz.func48 rfl Tryz.ntmps48 rfl (Ok.startM hw) ?_
  unfold StkPost
  generalize hS : Mb (stkM sp s (tv, pv)) = S0
  unfold turnK
  have hw1 := wantK_wf hwf f.params
  have hts := wantK_ts s f.params
  obtain ⟨r, hr⟩ : ∃ r, wantK s f.params = r := ⟨_, rfl⟩
  obtain ⟨s1, e1⟩ := r
  rw [hr] at hw1 hts hb ⊢
  dsimp only at hw1 hts hb ⊢
  have hp1 := hw1.some
  have hwant := fun w' hw' => stack_Want a.D sp s (tv, pv) (.slice a.p f.params.length a.c) f.params w' hw' hp h0 hle
  rw [hr] at hwant
  dsimp only at hwant
  dsimp only [stkM]
  repeat' (first | refine wau ?_ | (refine qbxq fun b_ => ?_) | (refine wspl ?_ ?_ <;> intro hc_))
  refine OpsH.he (HE.callN (M0 := stkM sp s (tv, pv)) wrms rfl rfl (fun w' hw' => hwant w' ((hw'.der (p := fun w => IntsR a.D w (.slice a.p f.params.length a.c) f.params) (fun w2 h => (h (SgR f a) wmem).1)).subP wsp wsr))) rfl ?_
  rintro ⟨tv1, pv1⟩ _
  dsimp only [stkM, List.cons_append, List.nil_append]
  by_cases he : e1 = 0
  · subst he
    have hb := hb rfl
    rw [if_neg (by decide)]
    repeat' (first | refine wau ?_ | (refine wspl ?_ ?_ <;> intro hc_))
    refine OpsH.he (HE.callN (M0 := stkM sp s1 (tv1, pv1)) wrms rfl rfl (fun w' hw' => stack_Push a.D sp s1 (tv1, pv1) (.slice a.q f.results.length a.d) f.results w' ((hw'.der (p := fun w => IntsR a.D w (.slice a.q f.results.length a.d) f.results) (fun w2 h => (h (SgR f a) wmem).2)).subP wsp wsr) hp1 (by omega))) rfl ?_
    rintro ⟨tv2, pv2⟩ _
    dsimp only [stkM, List.cons_append, List.nil_append]
    repeat' (first | refine wau ?_ | (refine wspl ?_ ?_ <;> intro hc_))
    all_goals exact FinH.ret1 rfl rfl fun w' hw' => MutPost.ofP (x := (tv2, pv2)) trivial hS hw' wsp wmem
  · rw [if_pos he]
    repeat' (first | refine wau ?_ | (refine wspl ?_ ?_ <;> intro hc_))
    all_goals first | omega | exact FinH.ret1 rfl rfl fun w' hw' => MutPost.ofP (x := (tv1, pv1)) trivial hS hw' wsp wmem
def turnC (c : Ctl) (f : ApiFunc) : Ctl × Int := ({ c with stk := (turnK c.stk f).1 }, (turnK c.stk f).2)
theorem HE.sgW1 {n : Nat} {E : Env} {M : List Res} {R : List (World → Prop)} {f : Nat} {args : List Operand} {tys : Array TypeId} {vs : List Value} {r : ApiFunc × Int} (hf : G.fb[f]? = some true) (ha : evs E args = some vs) (hc : ∀ w, Ok M R w → Calls G.P f vs.toArray w (WPost r (fun _ => False) w)) :
    HE n (.call ⟨.value (.func f), args.toArray, tys⟩) E M R (fun _ : SgA => True) (fun x => .tuple #[.agg #[.slice x.p r.1.params.length x.c, .slice x.q r.1.results.length x.d], .int .i64 r.2]) (fun _ => M) (fun x => SgR r.1 x :: R) :=
  ⟨fun w hw => (Eff.call hf ha (hc w hw) (fun e w' h => by obtain ⟨⟨x, e1, _⟩, _⟩ := h; exact ⟨_, e1⟩)).mono fun v w' ⟨⟨⟨x1, x2⟩, e1, hv⟩, hx⟩ => by
    cases e1
    obtain ⟨⟨p, c, rfl⟩, ⟨q, d, rfl⟩⟩ := hv.shape
    refine ⟨⟨fun k => False ∨ w.heap.size ≤ k, p, c, q, d⟩, trivial, rfl, (hw.ext hx).add fun w2 h2 => FnD.fr r.1 hv h2 fun k _ hk hm => ?_⟩
    rcases hk with hk | hk
    · exact hk
    · obtain ⟨q, hq, hk'⟩ := hm
      have := (hw.m q hq).2 k hk'; omega⟩
def ApR (B : Nat) (F : Nat → Prop) (m : ApiModule) (sv : Value) (locals : List Int) (lv : Value) (x : Ins) (tv bv : Value) : List (World → Prop) := [Env0, fun w => SpaceRd B m w sv, fun w => IntsR F w lv locals, fun w => IntsR F w tv x.types, fun w => IntsR F w bv x.labels]
theorem none_of {B : Nat} {F : Nat → Prop} {m : ApiModule} {locals : List Int} {sv lv : Value} {x : Ins} {pt pl : Option Addr} {ct cl : Nat} {M : List Res} {w : World} (hw : Ok M (ApR B F m sv locals lv x (.slice pt x.types.length ct) (.slice pl x.labels.length cl)) w) : Calls G.P 35 #[sv, .agg #[Value.int .i64 x.op, Value.int .i64 x.a, Value.int .i64 x.b, Value.int .u64 x.n, Value.int .i64 x.kind, Value.int .i64 x.val, Value.int .i64 x.index, Value.slice pt x.types.length ct, Value.slice pl x.labels.length cl]] w fun e w' => e = .returned (.int .i64 (if plainK x = false then 10 else 0)) ∧ Ext w w' := by
  have h0 : Env0 w := hw.get (by simp [ApR])
  have h : SpaceRd B m w sv := hw.get (p := fun w => SpaceRd B m w sv) (by simp [ApR])
  have ht := hw.get (p := fun w => IntsR F w (.slice pt x.types.length ct) x.types) (by simp [ApR])
  have hl := hw.get (p := fun w => IntsR F w (.slice pl x.labels.length cl) x.labels) (by simp [ApR])
  exact rule_none B m sv x pt pl ct cl w h fun w2 hx2 => opcode_Plain F x pt pl ct cl w2 (h0.ext hx2) (ht.chg hx2 (fun _ _ _ h => h)) (hl.chg hx2 (fun _ _ _ h => h))
theorem typed_of {B : Nat} {F : Nat → Prop} {m : ApiModule} {locals : List Int} {sv : Value} {x : Ins} {lp pt pl : Option Addr} {lc ct cl : Nat} {M : List Res} {w : World} (hw : Ok M (ApR B F m sv locals (.slice lp locals.length lc) x (.slice pt x.types.length ct) (.slice pl x.labels.length cl)) w) (hp : plainK x = true) (hT : TyB m) : Calls G.P 36 #[sv, .slice lp locals.length lc, .agg #[Value.int .i64 x.op, Value.int .i64 x.a, Value.int .i64 x.b, Value.int .u64 x.n, Value.int .i64 x.kind, Value.int .i64 x.val, Value.int .i64 x.index, Value.slice pt x.types.length ct, Value.slice pl x.labels.length cl]] w (WPost (typedK m locals x) (fun _ => False) w) := by
  have h0 : Env0 w := hw.get (by simp [ApR])
  have h : SpaceRd B m w sv := hw.get (p := fun w => SpaceRd B m w sv) (by simp [ApR])
  have hl := hw.get (p := fun w => IntsR F w (.slice lp locals.length lc) locals) (by simp [ApR])
  have ht := hw.get (p := fun w => IntsR F w (.slice pt x.types.length ct) x.types) (by simp [ApR])
  exact rule_typed B F m locals sv x lp pt pl lc ct cl w h0 h hl ht hp hT
def applyT (c : Ctl) (r : ApiFunc × Int) : Ctl × Int := if r.2 ≠ 0 then (c, r.2) else turnC c r.1
set_option maxHeartbeats 8000000 in
theorem rule_Apply_typed (B : Nat) (F : Nat → Prop) (cp : Nat) (c : Ctl) (v : CtV) (m : ApiModule) (locals : List Int) (sv : Value) (x : Ins) (lp pt pl : Option Addr) (lc ct cl : Nat) (w : World) (hw : Ok (ctlM cp c v) (ApR B F m sv locals (.slice lp locals.length lc) x (.slice pt x.types.length ct) (.slice pl x.labels.length cl)) w) (hg : v.Good c) (hwf : c.Wf) (hp : plainK x = true) (ha : apartK x.op = false) (hT : TyB m) (hb : (wantK c.stk (typedK m locals x).1.params).2 = 0 → ((wantK c.stk (typedK m locals x).1.params).1.ts.length + (typedK m locals x).1.results.length) * 8 ≤ 140737488355328) : Calls G.P 16 #[.pointer (some ⟨cp, 0, none⟩), sv, .slice lp locals.length lc, .agg #[Value.int .i64 x.op, Value.int .i64 x.a, Value.int .i64 x.b, Value.int .u64 x.n, Value.int .i64 x.kind, Value.int .i64 x.val, Value.int .i64 x.index, Value.slice pt x.types.length ct, Value.slice pl x.labels.length cl]] w (CtlPostE (ctlM cp c v) cp (applyT c (typedK m locals x)) w) := by
  have hop : x.op ≠ 2 ∧ x.op ≠ 3 ∧ x.op ≠ 4 ∧ x.op ≠ 5 ∧ x.op ≠ 11 ∧ x.op ≠ 0 ∧ x.op ≠ 12 ∧ x.op ≠ 13 ∧ x.op ≠ 14 ∧ x.op ≠ 15 ∧ x.op ≠ 26 ∧ x.op ≠ 27 ∧ x.op ≠ 209 := by simpa [apartK, and_assoc] using ha
  refine enterH (l := [_, _, _, _]) Tryz.func16 rfl Tryz.ntmps16 rfl (Ok.startM hw) ?_
  generalize hS : Mb (ctlM cp c v) = S0
  unfold ApR
  obtain ⟨sp, tv, pv, bv, rv, fv, D, L⟩ := v
  dsimp only [ctlM, stkM, List.cons_append, List.nil_append]
  have hno := fun w' M (hw' : Ok M _ w') => none_of (B := B) (F := F) (m := m) (locals := locals) (sv := sv) (lv := .slice lp locals.length lc) (x := x) (pt := pt) (pl := pl) (ct := ct) (cl := cl) hw'
  rw [hp] at hno
  have hty := fun w' M (hw' : Ok M _ w') => typed_of (B := B) (F := F) (m := m) (locals := locals) (sv := sv) (x := x) (lp := lp) (lc := lc) (pt := pt) (pl := pl) (ct := ct) (cl := cl) hw' hp hT
  generalize typedK m locals x = r at hty hb ⊢
  obtain ⟨f, e0⟩ := r
  dsimp only at hb
  by_cases he : e0 = 0
  · subst he
    repeat' (first | refine wau ?_ | (refine qbxq fun b_ => ?_) | (refine qal2q fun b_ => ?_) | (refine OpsH.isBin ?_; refine OpsH.y_ (Yl.eqPN Tryz.underlying62 rfl rfl) rfl ?_) | (refine OpsH.isCall (f := 23) ?_; refine OpsH.call1 rfl rfl rfl (fun w' hw' => ctrl_Stack cp ⟨sp, 0, none⟩ w' (hw'.c1 wup (by rfl))) ?_) | (refine OpsH.isCall (f := 35) ?_; refine OpsH.call1 rfl rfl rfl (fun w' hw' => hno w' _ (hw'.sub (List.Sublist.refl _) wsr)) ?_) | (refine OpsH.isCall (f := 36) ?_; refine OpsH.he (HE.sgW1 (r := (f, 0)) rfl rfl (fun w' hw' => hty w' _ (hw'.sub (List.Sublist.refl _) wsr))) rfl ?_; rintro ⟨D_, p_, c_, q_, d_⟩ _; dsimp only) | (refine wspl ?_ ?_ <;> intro hc_))
    refine CdH.regionR [.blk b_ [.slice p_ f.params.length c_, .slice q_ f.results.length d_] TFn] [SgR f ⟨D_, p_, c_, q_, d_⟩] wsl wsr ?_
    repeat' (first | refine wgt ?_ | (refine StepT.isCl 23 ?_; refine StepT.he rfl rfl (HE.callV rfl rfl (fun w' hw' => ctrl_Stack cp ⟨sp, 0, none⟩ w' (hw'.c1 wup (by rfl)))) (fun _ => wsl) (fun _ => wsr) ?_; rintro ⟨⟩ _) | (refine StepT.isCl 48 ?_; refine StepT.he rfl rfl (HE.callN (M0 := stkM sp c.stk (tv, pv)) wrms rfl rfl (fun w' hw' => rule_turn sp c.stk (tv, pv) f ⟨D_, p_, c_, q_, d_⟩ w' (hw'.subP wsp wsr) hwf.stk hb)) (fun _ => by dsimp only [stkM, List.cons_append, List.nil_append]; exact wsl) (fun _ => wsr) ?_; rintro ⟨tvb, pvb⟩ _; dsimp only [stkM, List.cons_append, List.nil_append]) | refine OpsT.nil (by decide +kernel) ?_ | refine OpsT.any (by decide +kernel) ?_ | exact StepsT.fin rfl | refine StepsT.skip (by decide +kernel) ?_ | refine StepsT.go ?_ ?_)
    all_goals
      repeat' (first | refine wau ?_ | (refine wspl ?_ ?_ <;> intro hc_))
      exact FinH.ret1 rfl rfl fun w' hw' => by
        by_cases h2 : (turnK c.stk f).2 = 0
        · have := CtlPostE.ok (cp := cp) (r := ({ c with stk := (turnK c.stk f).1 }, (turnK c.stk f).2)) (⟨sp, tvb, pvb, bv, rv, fv, D, L⟩ : CtV) h2 ⟨hg.len, hg.fr, hg.rs⟩ hS hw' (by dsimp only [ctlM, stkM, List.cons_append, List.nil_append]; exact wsp) wmem
          rw [h2]; exact this
        · exact CtlPostE.err _ rfl h2 hS hw' wmem
  · unfold applyT
    rw [if_pos he]
    repeat' (first | refine wau ?_ | (refine qbxq fun b_ => ?_) | (refine qal2q fun b_ => ?_) | (refine OpsH.isBin ?_; refine OpsH.y_ (Yl.eqPN Tryz.underlying62 rfl rfl) rfl ?_) | (refine OpsH.isCall (f := 23) ?_; refine OpsH.call1 rfl rfl rfl (fun w' hw' => ctrl_Stack cp ⟨sp, 0, none⟩ w' (hw'.c1 wup (by rfl))) ?_) | (refine OpsH.isCall (f := 35) ?_; refine OpsH.call1 rfl rfl rfl (fun w' hw' => hno w' _ (hw'.sub (List.Sublist.refl _) wsr)) ?_) | (refine OpsH.isCall (f := 36) ?_; refine OpsH.he (HE.sgW1 (r := (f, e0)) rfl rfl (fun w' hw' => hty w' _ (hw'.sub (List.Sublist.refl _) wsr))) rfl ?_; rintro ⟨D_, p_, c_, q_, d_⟩ _; dsimp only) | (refine wspl ?_ ?_ <;> intro hc_))
    all_goals first | omega | exact FinH.ret1 rfl rfl fun w' hw' => CtlPostE.err e0 rfl he hS hw' wmem
set_option maxHeartbeats 8000000 in
theorem ref06_SameVals (F F' : Nat → Prop) (xs ys : List Int) (v u : Value) (w : World) (h : IntsR F w v xs) (h' : IntsR F' w u ys) : Calls G.P 42 #[v, u] w fun e w' => e = .returned (.bool (decide (xs = ys))) ∧ Ext w w' := by
  obtain ⟨p, c, rfl, hl⟩ := h.slice
  obtain ⟨q, d, rfl, hl'⟩ := h'.slice
  refine enterH (l := [_, _]) Tryz.func42 rfl Tryz.ntmps42 rfl (Ok.start w) ?_
  by_cases hlen : xs.length = ys.length
  · repeat' (first | refine wau ?_ | (refine wspl ?_ ?_ <;> intro hc_))
    refine CdH.loop (σ := Nat) (fun j => [(0, .slice p xs.length c), (1, .slice q ys.length d), (5, .int .i64 j)]) (fun _ => []) (fun _ => [Ext w]) (fun j => j ≤ xs.length ∧ xs.take j = ys.take j) (fun j => xs.length - j) 0 wsub wsl wsr ⟨by omega, by simp⟩ ?_
    rintro j ⟨hj, heq⟩
    by_cases hjl : j < xs.length
    · obtain ⟨b7, o7, rfl, -, hc⟩ := h.at hjl
      obtain ⟨b8, o8, rfl, -, hc'⟩ := h'.at (show j < ys.length by omega)
      have hcj := hc j hjl
      have hcj' := hc' j (by omega)
      have hst := same_take hjl (show j < ys.length by omega) heq
      by_cases he : ix xs j = ix ys j
      · repeat' (first | refine wau ?_ | (refine wspl ?_ ?_ <;> intro hc_))
        all_goals exact FinH.next (j + 1) wsub wsl wsr ⟨by omega, hst.2 he⟩ (by omega)
      · repeat' (first | refine wau ?_ | (refine wspl ?_ ?_ <;> intro hc_))
        all_goals exact FinH.ret1 rfl rfl fun w' hw' => ⟨by rw [decide_eq_false]; intro e; exact he (by rw [e]), hw'.at⟩
    · obtain rfl : j = xs.length := by omega
      rw [List.take_length, hlen, List.take_length] at heq
      repeat' (first | refine wau ?_ | (refine wspl ?_ ?_ <;> intro hc_))
      all_goals exact FinH.ret1 rfl rfl fun w' hw' => ⟨by rw [decide_eq_true heq], hw'.at⟩
  · repeat' (first | refine wau ?_ | (refine wspl ?_ ?_ <;> intro hc_))
    all_goals first | omega | exact FinH.ret1 rfl rfl fun w' hw' => ⟨by rw [decide_eq_false]; intro e; exact hlen (by rw [e]), hw'.at⟩
theorem ref06_Same (f g : ApiFunc) (F H : Nat → Prop) (p q p' q' : Option Addr) (c d c' d' : Nat) (w : World) (hf : FnD f F w (.slice p f.params.length c, .slice q f.results.length d)) (hg : FnD g H w (.slice p' g.params.length c', .slice q' g.results.length d')) : Calls G.P 14 #[.agg #[.slice p f.params.length c, .slice q f.results.length d], .agg #[.slice p' g.params.length c', .slice q' g.results.length d']] w fun e w' => e = .returned (.bool (decide (f.params = g.params) && decide (f.results = g.results))) ∧ Ext w w' := by
  by_cases hp : f.params = g.params
  · refine enterH (l := [_, _]) Tryz.func14 rfl Tryz.ntmps14 rfl (Ok.start w) ?_
    repeat' (first | refine wau ?_ | (refine qbxq fun b_ => ?_) | (refine OpsH.isCall (f := 42) ?_; refine OpsH.call1 (v := .bool true) rfl rfl rfl (fun w' hw' => by have := ref06_SameVals F H f.params g.params (.slice p f.params.length c) (.slice p' g.params.length c') w' (hf.1.chg (show Ext w w' from hw'.at) (fun _ _ _ h => h)) (hg.1.chg (show Ext w w' from hw'.at) (fun _ _ _ h => h)); rw [decide_eq_true hp] at this; exact this) ?_) | (refine wspl ?_ ?_ <;> intro hc_))
    refine OpsH.call1g rfl rfl rfl rfl (fun w' hw' => ref06_SameVals F H f.results g.results (.slice q f.results.length d) (.slice q' g.results.length d') w' (hf.2.chg (show Ext w w' from hw'.at) (fun _ _ _ h => h)) (hg.2.chg (show Ext w w' from hw'.at) (fun _ _ _ h => h))) ?_
    repeat' (first | refine wau ?_ | (refine wspl ?_ ?_ <;> intro hc_))
    all_goals exact FinH.ret1 rfl rfl fun w' hw' => ⟨by simp_all, hw'.at⟩
  · refine enterH (l := [_, _]) Tryz.func14 rfl Tryz.ntmps14 rfl (Ok.start w) ?_
    repeat' (first | refine wau ?_ | (refine qbxq fun b_ => ?_) | (refine OpsH.isCall (f := 42) ?_; refine OpsH.call1 (v := .bool false) rfl rfl rfl (fun w' hw' => by have := ref06_SameVals F H f.params g.params (.slice p f.params.length c) (.slice p' g.params.length c') w' (hf.1.chg (show Ext w w' from hw'.at) (fun _ _ _ h => h)) (hg.1.chg (show Ext w w' from hw'.at) (fun _ _ _ h => h)); rw [decide_eq_false hp] at this; exact this) ?_) | (refine wspl ?_ ?_ <;> intro hc_))
    all_goals exact FinH.ret1 rfl rfl fun w' hw' => ⟨by simp [hp], hw'.at⟩
def RPost (r : ApiFunc × Int) (F : Nat → Prop) (w : World) : Ending → World → Prop := Gives (FnD r.1) (fun y : Value × Value => .agg #[y.1, y.2, .int .i64 r.2]) F w
section
variable {n : Nat} {E : Env} {M : List Res} {R : List (World → Prop)} {w0 : World} {f : Nat} {args : List Operand} {tys : Array TypeId} {vs : List Value} {F : Nat → Prop}
theorem HE.rg {r : ApiFunc × Int} (hR : Ext w0 ∈ R) (hF : ∀ k, F k → k < w0.heap.size) (hf : G.fb[f]? = some true) (ha : evs E args = some vs) (hc : ∀ w, Ok M R w → Calls G.P f vs.toArray w (RPost r F w)) :
    HE n (.call ⟨.value (.func f), args.toArray, tys⟩) E M R (fun x : SgA => ∀ k, x.D k → F k ∨ w0.heap.size ≤ k) (fun x => .agg #[.slice x.p r.1.params.length x.c, .slice x.q r.1.results.length x.d, .int .i64 r.2]) (fun _ => M) (fun x => SgR r.1 x :: R) :=
  HE.callS (tf := fun u v => .agg #[u, v, .int .i64 r.2]) hR hF hf ha hc
end
theorem qal1q {ops : Array Oper} {Q : Exit → Act → World → Prop} {n : Nat} {rest : List Oper} {E : Env} {M : List Res} {R : List (World → Prop)} {d : Nat} {ty : TypeId} {pos : String} {aft : Array Edge} (h : ∀ b : Nat, OpsH ops Q n rest ((d, .pointer (some ⟨b, 0, none⟩)) :: E) (.blk b [Value.slice none 0 0, Value.slice none 0 0, Value.int .i64 0] 120 :: M) R) (hd : Nat.blt d n = true := by rfl) : OpsH ops Q n (⟨some d, .alloc 120, ty, pos, aft, none⟩ :: rest) E M R := OpsH.alloc (t := 120) [Value.slice none 0 0, Value.slice none 0 0, Value.int .i64 0] rfl rfl hd h
theorem ref23_bad (e0 : Int) (w : World) : Calls G.P 92 #[.int .i64 e0] w fun e w' => e = .returned (.agg #[.slice none 0 0, .slice none 0 0, .int .i64 e0]) ∧ Ext w w' := by
  refine enterH (l := [_]) Tryz.func92 rfl Tryz.ntmps92 rfl (Ok.start w) ?_
  repeat' (first | refine wau ?_ | (refine qal1q fun b_ => ?_) | (refine wspl ?_ ?_ <;> intro hc_))
  all_goals exact FinH.ret1c (.inl rfl) rfl rfl rfl rfl rfl wup rfl fun w' hw' => ⟨by rfl, hw'.at⟩
theorem ref23_gives (p0 p1 : Option Addr) (n0 n1 c0 c1 : Nat) (w : World) : Calls G.P 95 #[.slice p0 n0 c0, .slice p1 n1 c1] w fun e w' => e = .returned (.agg #[.slice p0 n0 c0, .slice p1 n1 c1, .int .i64 0]) ∧ Ext w w' := by
  refine enterH (l := [_, _]) Tryz.func95 rfl Tryz.ntmps95 rfl (Ok.start w) ?_
  repeat' (first | refine wau ?_ | (refine qal1q fun b_ => ?_) | (refine wspl ?_ ?_ <;> intro hc_))
  all_goals exact FinH.ret1c (.inl rfl) rfl rfl rfl rfl rfl wup rfl fun w' hw' => ⟨by rfl, hw'.at⟩
theorem ref23_list (p0 : Option Addr) (n0 c0 : Nat) (w : World) : Calls G.P 96 #[.slice p0 n0 c0] w fun e w' => e = .returned (.slice p0 n0 c0) ∧ Ext w w' := by
  refine enterH (l := [_]) Tryz.func96 rfl Tryz.ntmps96 rfl (Ok.start w) ?_
  repeat' (first | refine wau ?_ | (refine wspl ?_ ?_ <;> intro hc_))
  all_goals exact FinH.ret1 rfl rfl fun w' hw' => ⟨by rfl, hw'.at⟩
theorem qk1q {g g' : Prop} (h : g') (hw : Hold g' → g := by (intro hk_; (first | (refine OpsH.isCall (f := 92) ?_; refine OpsH.call1 rfl rfl rfl (fun w' hw' => ref23_bad _ w') ?_) | (refine OpsH.isCall (f := 95) ?_; refine OpsH.call1 rfl rfl rfl (fun w' hw' => ref23_gives _ _ _ _ _ _ w') ?_) | (refine OpsH.isCall (f := 96) ?_; refine OpsH.call1 rfl rfl rfl (fun w' hw' => ref23_list _ _ _ w') ?_)); exact hk_.out)) : g := hw ⟨h⟩
section
variable {n : Nat} {E : Env} {M M' : List Res} {R : List (World → Prop)} {t : TypeId}
theorem HE.bslB {B e len s : Nat} {ti te : TI} {parts : List (Nat × Operand)} {vs cs : List Value} (hB : ∀ w, Ok M R w → B ≤ w.heap.size) (ht : G.ty t = some ti) (he : ti.elem = some e) (hte : G.ty e = some te) (hs : te.size = s) (hv : evs E (parts.map (·.2)) = some vs) (_hc : Cells vs cs) (hlen : Nat.ble (len * s) 16777216 = true) (hf : fillS s (zrow len s te.zero.cells.toList) ((parts.map (·.1)).zip vs) = some cs) :
    HE n (.buildSlice t len parts.toArray) E M R (fun b : Nat => B ≤ b) (fun b => .slice (some ⟨b, 0, none⟩) len len) (fun b => .blk b cs e :: M) (fun _ => R) :=
  ⟨fun w hw => (Eff.buildSlice hv (run_bslice w ht he hte hs hlen hf)).mono fun _v _w' ⟨e1, hn⟩ => ⟨w.heap.size, hB w hw, e1, hw.push hn.ext hn.blk (blk_lt hn)⟩⟩
theorem own_of_blkB {w : World} {B b n s T : Nat} {cs : List Value} (h : Blk w b cs T) (hl : cs.length = n * s) (hB : B ≤ b) (hn : n ≤ 1000000) : w.ownsRow B T s (.slice (some ⟨b, 0, none⟩) n n) n cs :=
  ⟨hl, .inr ⟨b, n, cs.toArray, rfl, hB, h, Nat.le_refl _, by unfold maxLen; omega, by simp [hl], by simp [← hl]⟩⟩
theorem Ok.toOwnB {w : World} {B b m s T : Nat} {cs : List Value} (hw : Ok M R w) (hM : Up (.blk b cs T) (.own B T s (.slice (some ⟨b, 0, none⟩) m m) m cs) M M') (hl : cs.length = m * s) (hB : B ≤ b) (hn : m ≤ 1000000) : Ok M' R w :=
  hw.upd hM (Chg.refl _ w) (own_of_blkB (hw.m _ hM.mem).1 hl hB hn) (fun k hk => by
    have hk' : some b = some k := hk
    cases hk'
    exact ⟨(hw.m _ hM.mem).2 b rfl, fun _ => rfl⟩)
theorem OpsT.toOwnB {l : List Oper} {Q : Exit → Act → World → Prop} {Mc : List Res} {Rc : List (World → Prop)} {n fuel : Nat} {listed : Array Bool} {E : Env} {B b m s T : Nat} {cs : List Value} (hM : Up (.blk b cs T) (.own B T s (.slice (some ⟨b, 0, none⟩) m m) m cs) M M') (hl : cs.length = m * s) (hB : B ≤ b) (hn : m ≤ 1000000) (h : OpsT l Q Mc Rc n fuel listed E M' R) : OpsT l Q Mc Rc n fuel listed E M R := ⟨fun w hw => h.h w (hw.toOwnB hM hl hB hn)⟩
end
theorem sgR_p {f : ApiFunc} {a : SgA} {w : World} (h : SgR f a w) : f.params.length = 0 ∨ ∃ bk o, a.p = some ⟨bk, o, none⟩ := by
  obtain ⟨q, c, e, hl, h0 | ⟨b, o, hq, -, -⟩⟩ := h.1
  · exact .inl (by rw [h0]; rfl)
  · cases e; exact .inr ⟨b, o, hq⟩
theorem ints_rdP {f : ApiFunc} {a : SgA} {M : List Res} {R : List (World → Prop)} (hs : f.params.length = 0 ∨ ∃ bk o, a.p = some ⟨bk, o, none⟩) (hR : SgR f a ∈ R) : f.params.length = 0 ∨ ∃ bk o, a.p = some ⟨bk, o, none⟩ ∧ ∀ w', Ok M R w' → ∀ j u, (valsC f.params)[j]? = some u → w'.cell? ⟨bk, o + j, none⟩ = some u := by
  rcases hs with h | ⟨b, o, hq⟩
  · exact .inl h
  by_cases hz : f.params.length = 0
  · exact .inl hz
  refine .inr ⟨b, o, hq, fun w' hw' j u hj => ?_⟩
  obtain ⟨q2, c2, e2, -, h1 | ⟨b2, o2, hq2, -, hc2⟩⟩ := (hw'.get hR).1
  · rw [h1] at hz; exact absurd rfl hz
  · cases e2
    rw [hq] at hq2; cases hq2
    have hjl : j < f.params.length := by
      have := (List.getElem?_eq_some_iff.1 hj).1
      simpa [valsC] using this
    have hu : u = .int .i64 (ix f.params j) := by
      unfold valsC at hj
      rw [List.getElem?_map, ix_some hjl] at hj
      simpa using hj.symm
    rw [hu]; exact hc2 j hjl
theorem typedK_err {m : ApiModule} {locals : List Int} {x : Ins} {f : ApiFunc} {e : Int} (h : typedK m locals x = (f, e)) (h1 : e ≠ 0) : f = noF := by
  unfold typedK functionK indirectK localK globalK tableK at h
  dsimp only at h
  repeat' split at h
  all_goals first | (cases h; exact absurd rfl h1) | (cases h; rfl)
theorem wantsP_none {m : ApiModule} {locals : List Int} {x : Ins} {f : ApiFunc} {e : Int} (h : wantsP m locals x = (f, e)) (h1 : e ≠ 0) : f = noF := by
  unfold wantsP at h
  split at h
  · cases h; rfl
  split at h
  · cases h; rfl
  · exact typedK_err h h1
end Go.Proofs.YtgbgnipidakdhaaGreatDoor
