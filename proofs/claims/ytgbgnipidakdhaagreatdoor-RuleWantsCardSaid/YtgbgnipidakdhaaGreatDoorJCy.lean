/- The operand stack (layer 21): the other methods. -/
import Derived.Test.YtgbgnipidakdhaaGreatDoorJSx
import Derived.Test.YtgbgnipidakdhaaGreatDoorJGq
import Derived.Test.YtgbgnipidakdhaaGreatDoorJSk
import Derived.Laws.CopyOwn
import Derived.Test.YtgbgnipidakdhaaGreatDoorJWb
namespace Go.Proofs.YtgbgnipidakdhaaGreatDoor
open Go.RowKit
set_option maxRecDepth 100000
set_option maxHeartbeats 4000000 in
theorem stack_Want (D : Nat → Prop) (sp : Nat) (s : Stk) (x : Value × Value) (v : Value) (l : List Int) (w : World) (hw : Ok (stkM sp s x) [fun w => IntsR D w v l] w) (hp : 0 < s.ps.length) (h0 : 0 ≤ s.at_) (hle : s.at_ ≤ s.ts.length) :
    Calls G.P 55 #[.pointer (some ⟨sp, 0, none⟩), v] w (StkPost sp s x (.int .i64 (wantK s l).2) (wantK s l).1 w) := by
  obtain ⟨v1, v2⟩ := x; obtain ⟨⟨p1, c1, e1, hcap, hg1⟩, ⟨p2, c2, e2, hg2⟩, hn1, hn2⟩ := stkC sp s (v1, v2) hw (List.Sublist.refl _); dsimp only at e1 e2; subst e1; subst e2; obtain ⟨g2, rfl⟩ := hg2 hp
  have hI : IntsR D w v l := hw.get (p := fun w => IntsR D w v l) (by simp)
  obtain ⟨q, d, rfl, hl⟩ := hI.slice
  refine enterH (l := [_, _]) Tryz.func55 rfl Tryz.ntmps55 rfl (Ok.startM hw) ?_
  unfold StkPost
  obtain ⟨r, hr⟩ : ∃ r, leftK s l.reverse s.ts.length = r := ⟨_, rfl⟩
  obtain ⟨n, e⟩ := r
  have hlf : ∀ w', Ok (stkM sp s (.slice p1 s.ts.length c1, .slice (some ⟨g2, 0, none⟩) s.ps.length c2)) [fun w => IntsR D w (.slice q l.length d) l] w' → Calls G.P 115 #[.pointer (some ⟨sp, 0, none⟩), .slice q l.length d] w' fun ee w'' => ee = .returned (.tuple #[.int .i64 (n : Nat), .int .i64 e]) ∧ Ext w' w'' := fun w' hw' => by
    have := stack_left D sp s _ _ l w' hw' hp h0 hle
    rw [hr] at this; exact this
  have hwk : wantK s l = if e = 0 then ({ s with ts := s.ts.take n }, 0) else (s, e) := by unfold wantK; rw [hr]
  have hnl : e = 0 → n ≤ s.ts.length := fun h => by
    have := leftK_at l.reverse s.ts.length hle (by rw [hr]; exact h)
    rw [hr] at this; exact this.2
  rw [hwk]
  generalize hS : Mb (stkM sp s (.slice p1 s.ts.length c1, .slice (some ⟨g2, 0, none⟩) s.ps.length c2)) = S0; unfold stkM; dsimp only
  repeat' (first | refine wau ?_ | (refine OpsH.isCall (f := 65) ?_; refine OpsH.call1 rfl rfl rfl (fun w' hw' => stack_made sp s.ps.length c2 (some ⟨g2, 0, none⟩) w' (hw'.c1 wup (by rfl)) hp) ?_) | (refine OpsH.isCall (f := 115) ?_; refine OpsH.call1 rfl rfl rfl (fun w' hw' => hlf w' (hw'.sub (List.Sublist.refl _) wsr)) ?_) | (refine OpsH.y_ (Yl.sliceHi (i := n) rfl rfl rfl rfl rfl rfl (Nat.le_trans (hnl hc_) hcap)) rfl ?_) | (refine wspl ?_ ?_ <;> intro hc_))
  · subst hc_
    rw [if_pos rfl]
    dsimp only
    refine FinH.ownTake n wup (hnl rfl) ?_
    exact FinH.ret1 rfl rfl fun w' hw' => by
      have hn := hnl rfl
      refine MutPost.ofS (x := (_, _)) trivial hS hw' (stkM_eq rfl rfl rfl (by simp; omega) (by simp [valsC, List.map_take]) rfl rfl rfl) wmem
  · rw [if_neg hc_]
    dsimp only
    exact FinH.ret1 rfl rfl fun w' hw' => MutPost.ofS (x := (_, _)) trivial hS hw' (stkM_eq rfl rfl rfl rfl rfl rfl rfl rfl) wmem
theorem partsC_app (l : List (Int × Bool)) (a : Int × Bool) : partsC (l ++ [a]) = partsC l ++ partC a := by unfold partsC; rw [List.flatMap_append]; simp
set_option maxHeartbeats 4000000 in
theorem stack_Open (sp : Nat) (s : Stk) (x : Value × Value) (w : World) (hw : Ok (stkM sp s x) [] w) (hp : 0 < s.ps.length) (hpl : s.ps.length ≤ 1000000) :
    Calls G.P 51 #[.pointer (some ⟨sp, 0, none⟩)] w (StkPost sp s x (.tuple #[]) (openK s) w) := by
  obtain ⟨v1, v2⟩ := x; obtain ⟨⟨p1, c1, e1, hcap, hg1⟩, ⟨p2, c2, e2, hg2⟩, hn1, hn2⟩ := stkC sp s (v1, v2) hw (List.Sublist.refl _); dsimp only at e1 e2; subst e1; subst e2; obtain ⟨g2, rfl⟩ := hg2 hp
  refine enterH (l := [_]) Tryz.func51 rfl Tryz.ntmps51 rfl (Ok.startM hw) ?_
  unfold StkPost
  generalize hS : Mb (stkM sp s (.slice p1 s.ts.length c1, .slice (some ⟨g2, 0, none⟩) s.ps.length c2)) = S0; unfold stkM; dsimp only
  repeat' (first | refine wau ?_ | (refine OpsH.isCall (f := 65) ?_; refine OpsH.call1 rfl rfl rfl (fun w' hw' => stack_made sp s.ps.length c2 (some ⟨g2, 0, none⟩) w' (hw'.c1 wup (by rfl)) hp) ?_) | (refine wspl ?_ ?_ <;> intro hc_))
  refine CdH.regionS [0, 1, 2, 3, 4, 5, 6, 7, 8, 9, 10, 11, 12, 13, 14] 15 [.blk sp [.slice p1 s.ts.length c1, .slice (some ⟨g2, 0, none⟩) s.ps.length c2, .bool (overB s)] TStk, .own 0 TVl 1 (.slice p1 s.ts.length c1) s.ts.length (valsC s.ts)] [] (by kernel_rfl) wsl wsr ?_
  refine wgs ?_
  refine OpsS.he (HE.bsl rfl rfl rfl rfl rfl wcel (by rfl) (by rfl)) rfl (fun _ => wsl) (fun _ => wsr) ?_
  intro b3 _
  refine OpsS.he (HE.app rfl rfl (fun _ => wup) wup rfl rfl rfl (by rfl) (by rfl) (by rfl) (by rfl) (by rfl) (by rfl) (by omega) (fun _ _ => Nat.zero_le _)) rfl (fun _ => wsl) (fun _ => wsr) ?_
  intro v2 _
  refine OpsS.pure (φ := ∃ p c, v2 = .slice p (s.ps.length + 1) c) (fun w' hw' => ?_) ?_
  · obtain ⟨p, c, e, _⟩ := own_slice (hw'.own (v := v2)); exact ⟨p, c, e⟩
  rintro ⟨p3, c3, rfl⟩
  refine wgs ?_
  refine OpsS.hez0 (HE0.storeL rfl rfl rfl rfl rfl wup wset) rfl ?_
  rintro ⟨⟩ _
  refine wgh ?_
  exact FinH.end0 rfl fun w' hw' => MutPost.ofS (x := (_, _)) trivial hS (hw'.subP (M' := [.blk sp [.slice p1 s.ts.length c1, .slice p3 (s.ps.length + 1) c3, .bool (overB s)] TStk, .own 0 TVl 1 (.slice p1 s.ts.length c1) s.ts.length (valsC s.ts), .own 0 TPrt 2 (.slice p3 (s.ps.length + 1) c3) (s.ps.length + 1) _]) wsp (fun _ h => h)) (stkM_eq rfl rfl rfl rfl rfl (by simp [openK]) (by simp [openK, partsC_app]; rfl) rfl) wmem
set_option maxHeartbeats 4000000 in
theorem slices_CloneV (xs : List Int) (p : Option Addr) (c : Nat) (w : World) (hrd : xs.length = 0 ∨ ∃ bk o, p = some ⟨bk, o, none⟩ ∧ ∀ j u, (valsC xs)[j]? = some u → w.cell? ⟨bk, o + j, none⟩ = some u) (hl : xs.length ≤ 17592186044416) :
    Calls G.P 50 #[.slice p xs.length c] w (MutPost [] w (fun u : Value => u) (fun _ => True) (fun u => [.own 0 TVl 1 u xs.length (valsC xs)])) := by
  refine enterH (l := [_]) Tryz.func50 rfl Tryz.ntmps50 rfl (Ok.start w) ?_
  repeat' (first | refine wau ?_ | (refine wspl ?_ ?_ <;> intro hc_))
  · have hp : p = none := by cases p with | none => rfl | some a => cases hc_
    subst hp
    have h0 : xs.length = 0 := by
      rcases hrd with h | ⟨bk, o, e, -⟩
      · exact h
      · cases e
    have hx : xs = [] := List.eq_nil_of_length_eq_zero h0
    subst hx
    exact FinH.ret1 rfl rfl fun w' hw' => MutPost.ofE (x := Value.slice none 0 0) trivial (hw'.nilO 0 TVl 1) (by exact List.Sublist.refl _) wmem
  · refine OpsH.he (HE.bsl rfl rfl rfl rfl rfl wcel (by rfl) (by rfl)) rfl ?_
    intro b _
    refine OpsH.toOwn 1 wup rfl (Nat.zero_le _) ?_
    refine wgh ?_
    refine OpsH.he (HE.appRB (valsC xs) rfl rfl (fun _ => wup) (hrd.imp id fun ⟨bk, o, e, h⟩ => ⟨bk, o, e, fun w' hw' j u hj => (show Ext w w' from hw'.at).cell (h j u hj)⟩) (by simp [valsC]) rfl rfl rfl (by rfl) (by rfl) (by rfl) (ints_one _) (by show (0 + xs.length) * 8 ≤ _; omega) (by omega) (fun _ _ => Nat.zero_le _)) rfl ?_
    intro u _
    simp only [Nat.zero_add, List.nil_append]
    refine wgh ?_
    exact FinH.ret1 rfl rfl fun w' hw' => MutPost.ofE (x := u) trivial hw' wsl wmem
theorem stack_Len (sp : Nat) (s : Stk) (x : Value × Value) (w : World) (hw : Ok (stkM sp s x) [] w) (hp : 0 < s.ps.length) :
    Calls G.P 34 #[.pointer (some ⟨sp, 0, none⟩)] w fun e w' => e = .returned (.int .i64 s.ts.length) ∧ Ext w w' := by
  obtain ⟨v1, v2⟩ := x; obtain ⟨⟨p1, c1, e1, hcap, hg1⟩, ⟨p2, c2, e2, hg2⟩, hn1, hn2⟩ := stkC sp s (v1, v2) hw (List.Sublist.refl _); dsimp only at e1 e2; subst e1; subst e2; obtain ⟨g2, rfl⟩ := hg2 hp
  have k0 : w.cell? ⟨sp, 0, none⟩ = some (.slice p1 s.ts.length c1) := hw.c1 (T := TStk) (cs := [.slice p1 s.ts.length c1, .slice (some ⟨g2, 0, none⟩) s.ps.length c2, .bool (overB s)]) Up.head rfl
  have k1 : w.cell? ⟨sp, 1, none⟩ = some (.slice (some ⟨g2, 0, none⟩) s.ps.length c2) := hw.c1 (T := TStk) (cs := [.slice p1 s.ts.length c1, .slice (some ⟨g2, 0, none⟩) s.ps.length c2, .bool (overB s)]) Up.head rfl
  refine enterH (l := [_]) Tryz.func34 rfl Tryz.ntmps34 rfl (Ok.start w) ?_
  repeat' (first | refine wau ?_ | (refine OpsH.isCall (f := 65) ?_; refine OpsH.call1 rfl rfl rfl (fun w' hw' => stack_made sp s.ps.length c2 (some ⟨g2, 0, none⟩) w' ((show Ext w w' from hw'.at).cell k1) hp) ?_) | (refine wspl ?_ ?_ <;> intro hc_))
  all_goals exact FinH.ret1 rfl rfl fun w' hw' => ⟨by rfl, hw'.at⟩
set_option maxHeartbeats 4000000 in
theorem stack_New (w : World) : Calls G.P 49 #[] w (MutPost [] w (fun y : Nat × Value × Value => .pointer (some ⟨y.1, 0, none⟩)) (fun _ => True) (fun y => stkM y.1 ⟨[], [(0, false)], 0⟩ y.2)) := by
  refine enterH (l := []) Tryz.func49 rfl Tryz.ntmps49 rfl (Ok.start w) ?_
  repeat' (first | refine wau ?_ | (refine qbsq fun b_ _ => ?_) | (refine qbxq fun b_ => ?_) | (refine wspl ?_ ?_ <;> intro hc_))
  all_goals exact FinH.ret1 rfl rfl fun w' hw' => MutPost.ofE (x := (_, _, _)) trivial ((((hw'.toOwn (s := 2) (len := 1) (Up.tail Up.head) rfl (by unfold maxLen; omega)).nilO 0 TVl 1)).front (Rm.tail Rm.head)) (by exact List.Sublist.refl _) wmem
abbrev TCtl : Nat := 65
abbrev TBk : Nat := 130
def Res.frd {β : Type} (V : (Nat → Prop) → World → β → Prop) (hV : FrD V) (D : Nat → Prop) (x : β) : Res := ⟨D, fun w => V D w x, fun h hc hd => hV h hc hd⟩
def FnL (D : Nat → Prop) (w : World) (L : List (ApiFunc × Value × Value)) : Prop := ∀ y ∈ L, FnD y.1 D w y.2
theorem FnL.fr : FrD FnL := fun h hc hd y hy => FnD.fr y.1 (h y hy) hc hd
structure CtV where
  sp : Nat
  tv : Value
  pv : Value
  bv : Value
  rv : Value
  fv : List (Value × Value)
  D : Nat → Prop
  L : List (ApiFunc × Value × Value)
def frmC (f : Frm) (x : Value × Value) : List Value := [.int .i64 f.kind, x.1, x.2, .bool f.other, .bool f.was]
def frmsC : List Frm → List (Value × Value) → List Value
  | f :: r, x :: s => frmC f x ++ frmsC r s
  | _, _ => []
abbrev Frm.fn (f : Frm) : ApiFunc := ⟨f.par, f.res⟩
structure CtV.Good (v : CtV) (c : Ctl) : Prop where
  len : v.fv.length = c.fs.length
  fr : ∀ i, i < c.fs.length → ((ix c.fs i).fn, ix v.fv i) ∈ v.L
  rs : (⟨[], c.results⟩, .slice none 0 0, v.rv) ∈ v.L
def ctlM (cp : Nat) (c : Ctl) (v : CtV) : List Res := .blk cp [.pointer (some ⟨v.sp, 0, none⟩), v.bv, v.rv, .bool c.live, .int .i64 c.broken] TCtl :: (stkM v.sp c.stk (v.tv, v.pv) ++ [.own 0 TBk 5 v.bv c.fs.length (frmsC c.fs v.fv), .frd FnL FnL.fr v.D v.L])
structure CtlRd (cp : Nat) (c : Ctl) (v : CtV) (w : World) : Prop where
  b : Blk w cp [.pointer (some ⟨v.sp, 0, none⟩), v.bv, v.rv, .bool c.live, .int .i64 c.broken] TCtl
  o : w.ownsRow 0 TBk 5 v.bv c.fs.length (frmsC c.fs v.fv)
  l : FnL v.D w v.L
theorem CtlRd.ext {cp : Nat} {c : Ctl} {v : CtV} {w w' : World} (h : CtlRd cp c v w) (hx : Ext w w') : CtlRd cp c v w' := ⟨h.b.chg hx id, own_chg h.o hx (fun _ _ h => h), FnL.fr h.l hx (fun _ _ _ h => h)⟩
theorem ctrl_made (cp : Nat) (a : Addr) (w : World) (h : w.cell? ⟨cp, 0, none⟩ = some (.pointer (some a))) : Calls G.P 64 #[.pointer (some ⟨cp, 0, none⟩)] w fun e w' => e = .returned (.bool true) ∧ Ext w w' := by
  refine enterH (l := [_]) Tryz.func64 rfl Tryz.ntmps64 rfl (Ok.start w) ?_
  repeat' (first | refine wau ?_ | (refine OpsH.isBin ?_; refine OpsH.y_ (Yl.neqPN Tryz.underlying56 rfl rfl) rfl ?_) | (refine OpsH.isBin ?_; refine OpsH.yg (by first | rfl | exact gdT rfl wrdq) (Yl.neqPN Tryz.underlying62 rfl rfl) rfl ?_) | (refine wspl ?_ ?_ <;> intro hc_))
  all_goals exact FinH.ret1 rfl rfl fun w' hw' => ⟨by rfl, hw'.at⟩
theorem ctrl_Stack (cp : Nat) (a : Addr) (w : World) (h : w.cell? ⟨cp, 0, none⟩ = some (.pointer (some a))) : Calls G.P 23 #[.pointer (some ⟨cp, 0, none⟩)] w fun e w' => e = .returned (.pointer (some a)) ∧ Ext w w' := by
  refine enterH (l := [_]) Tryz.func23 rfl Tryz.ntmps23 rfl (Ok.start w) ?_
  repeat' (first | refine wau ?_ | (refine OpsH.isCall (f := 64) ?_; refine OpsH.call1 rfl rfl rfl (fun w' hw' => ctrl_made cp a w' ((show Ext w w' from hw'.at).cell h)) ?_) | (refine wspl ?_ ?_ <;> intro hc_))
  all_goals exact FinH.ret1 rfl rfl fun w' hw' => ⟨by rfl, hw'.at⟩
inductive Rms : List Res → List Res → List Res → Prop
  | nil {M : List Res} : Rms [] M M
  | cons {q : Res} {M M1 M0 Mr : List Res} (hr : Rm q M M1) (h : Rms M0 M1 Mr) : Rms (q :: M0) M Mr
theorem Rms.perm {M0 M Mr : List Res} (h : Rms M0 M Mr) : M.Perm (M0 ++ Mr) := by
  induction h with
  | nil => exact List.Perm.refl _
  | cons hr _ ih => exact hr.perm.trans (ih.cons _)
theorem wrms {M0 M Mr : List Res} (h : Rms M0 M Mr := by (repeat (first | exact Rms.nil | (apply Rms.cons; · (repeat (first | with_reducible exact Rm.head | apply Rm.tail)))))) : Rms M0 M Mr := h
section
variable {n : Nat} {E : Env} {M M0 Mr : List Res} {R : List (World → Prop)} {β : Type} {tf : β → Value} {φ : β → Prop} {M1 : β → List Res} {f : Nat} {args : List Operand} {tys : Array TypeId} {vs : List Value}
theorem HE.callN (hr : Rms M0 M Mr) (hf : G.fb[f]? = some true) (ha : evs E args = some vs)
    (hc : ∀ w, Ok M R w → Calls G.P f vs.toArray w (MutPost M0 w tf φ M1)) : HE n (.call ⟨.value (.func f), args.toArray, tys⟩) E M R φ tf (fun x => M1 x ++ Mr) (fun _ => R) :=
  HE.call tf hf ha fun w hw => (hc w hw).mono fun _e _w' ⟨x, e1, h1, h2, h3, h4⟩ => ⟨x, e1, h1, (hw.perm hr.perm).frame h2 h3 h4⟩
theorem HE0.callN (hr : Rms M0 M Mr) (hf : G.fb[f]? = some true) (ha : evs E args = some vs)
    (hc : ∀ w, Ok M R w → Calls G.P f vs.toArray w (MutPost M0 w tf φ M1)) : HE0 n (.call ⟨.value (.func f), args.toArray, tys⟩) E M R φ (fun x => M1 x ++ Mr) (fun _ => R) :=
  ⟨fun w hw => ((HE.callN hr hf ha hc).h w hw).mono fun _ _ ⟨x, h1, _, h3⟩ => ⟨x, h1, h3⟩⟩
end
theorem ints_hrd {D : Nat → Prop} {w : World} {p : Option Addr} {n c : Nat} {xs : List Int} (h : IntsR D w (.slice p n c) xs) : xs.length = 0 ∨ ∃ bk o, p = some ⟨bk, o, none⟩ ∧ ∀ j u, (valsC xs)[j]? = some u → w.cell? ⟨bk, o + j, none⟩ = some u := by
  obtain ⟨p', c', e, hl, h⟩ := h
  cases e
  rcases h with h | ⟨b, o, rfl, hF, h⟩
  · exact .inl (by rw [h]; rfl)
  · refine .inr ⟨b, o, rfl, fun j u hj => ?_⟩
    have hj' : j < xs.length := by have := (List.getElem?_eq_some_iff.1 hj).1; simpa [valsC] using this
    rw [h j hj', ← hj]
    unfold valsC
    rw [List.getElem?_map, ix_some hj']; rfl
theorem slices_CloneI {D : Nat → Prop} (xs : List Int) (v : Value) (w : World) (h : IntsR D w v xs) :
    Calls G.P 50 #[v] w (MutPost [] w (fun u : Value => u) (fun _ => True) (fun u => [.own 0 TVl 1 u xs.length (valsC xs)])) := by
  obtain ⟨p, c, rfl, hl⟩ := h.slice
  exact slices_CloneV xs p c w (ints_hrd h) hl
theorem MutPost.ofP {β : Type} {M0 M : List Res} {R : List (World → Prop)} {w w' : World} {S0 : Nat → Prop} {tf : β → Value} {φ : β → Prop} {M1 : β → List Res} (x : β) (hφ : φ x) (hS : Mb M0 = S0) (h : Ok M R w') (hM : SubP (M1 x) M) (hR : Chg S0 w ∈ R) : MutPost M0 w tf φ M1 (.returned (tf x)) w' := by
  obtain ⟨M2, hp⟩ := hM.perm
  exact MutPost.ofS x hφ hS (h.perm hp) (List.sublist_append_left _ _) hR
theorem CtV.Good.mono {v v' : CtV} {c c' : Ctl} (h : v.Good c) (hfs : c'.fs = c.fs) (hrs : c'.results = c.results) (hfv : v'.fv = v.fv) (hrv : v'.rv = v.rv) (hL : ∀ y, y ∈ v.L → y ∈ v'.L) : v'.Good c' :=
  ⟨by rw [hfs, hfv]; exact h.len, fun i hi => by rw [hfs] at hi ⊢; rw [hfv]; exact hL _ (h.fr i hi), by rw [hrs, hrv]; exact hL _ h.rs⟩
theorem FnD.shp {f : ApiFunc} {D : Nat → Prop} {w : World} {x : Value × Value} (h : FnD f D w x) : ∃ p c p' c', x = (.slice p f.params.length c, .slice p' f.results.length c') := by
  obtain ⟨p, c, e, _⟩ := h.1.slice
  obtain ⟨p2, c2, e2, _⟩ := h.2.slice
  exact ⟨p, c, p2, c2, by rw [← e, ← e2]⟩
theorem CtV.Good.one {v : CtV} {c : Ctl} {w : World} (h : v.Good c) (hl : FnL v.D w v.L) : ∀ x ∈ v.fv, x.1.oneCell' = true ∧ x.2.oneCell' = true := fun x hx => by
  obtain ⟨i, hi, e⟩ := List.mem_iff_getElem.1 hx
  have hi' : i < c.fs.length := by rw [← h.len]; exact hi
  have hf := hl _ (h.fr i hi')
  rw [ix_eq hi, e] at hf
  obtain ⟨p, c1, p', c1', e1⟩ := hf.shp
  dsimp only at e1
  rw [e1]; exact ⟨rfl, rfl⟩
theorem own_reads {w : World} {B T : Nat} {v : Value} {xs : List Int} (h : w.ownsRow B T 1 v xs.length (valsC xs)) (hl : xs.length ≤ 17592186044416) : IntsR (fun k => v.ownBlock = some k) w v xs := by
  obtain ⟨p, c, rfl, hn, hc, hg⟩ := own_slice h
  refine ⟨p, c, rfl, hl, ?_⟩
  by_cases h0 : xs.length = 0
  · exact .inl (List.eq_nil_of_length_eq_zero h0)
  · obtain ⟨g, rfl, -⟩ := hg (by omega)
    exact .inr ⟨g, 0, rfl, rfl, fun i hi => own_get h (vals_at hi)⟩
theorem Ok.swap {q q' : Res} {M M' : List Res} {R : List (World → Prop)} {w : World} (h : Ok M R w) (hM : Up q q' M M') (hF : ∀ k, q'.F k → q.F k) (hP : q.P w → q'.P w) : Ok M' R w :=
  h.upd hM (Chg.refl _ w) (hP (h.m _ hM.mem).1) fun k hk => ⟨(h.m _ hM.mem).2 k (hF k hk), fun _ => hF k hk⟩
theorem OpsH.swap {ops : Array Oper} {Q : Exit → Act → World → Prop} {n : Nat} {l : List Oper} {E : Env} {q q' : Res} {M M' : List Res} {R : List (World → Prop)} (hM : Up q q' M M') (hF : ∀ k, q'.F k → q.F k) (hP : ∀ w, q.P w → q'.P w) (h : OpsH ops Q n l E M' R) : OpsH ops Q n l E M R := ⟨fun w hw => h.h w (hw.swap hM hF (hP w))⟩
theorem CdH.swap {Q : Exit → Act → World → Prop} {n : Nat} {c : Code} {E : Env} {q q' : Res} {M M' : List Res} {R : List (World → Prop)} (hM : Up q q' M M') (hF : ∀ k, q'.F k → q.F k) (hP : ∀ w, q.P w → q'.P w) (h : CdH Q n c E M' R) : CdH Q n c E M R := ⟨fun w hw => h.h w (hw.swap hM hF (hP w))⟩
theorem MutPost.ofEP {β : Type} {M : List Res} {R : List (World → Prop)} {w w' : World} {tf : β → Value} {φ : β → Prop} {M1 : β → List Res} (x : β) (hφ : φ x) (h : Ok M R w') (hM : SubP (M1 x) M) (hR : Ext w ∈ R) : MutPost [] w tf φ M1 (.returned (tf x)) w' := by
  obtain ⟨M2, hp⟩ := hM.perm
  exact MutPost.ofE x hφ (h.perm hp) (List.sublist_append_left _ _) hR
set_option maxHeartbeats 16000000 in
theorem ctrl_New (D0 : Nat → Prop) (results : List Int) (v : Value) (w : World) (hI : IntsR D0 w v results) : Calls G.P 17 #[v] w (MutPost [] w (fun y : Nat × CtV => .pointer (some ⟨y.1, 0, none⟩)) (fun y => y.2.Good (newC results)) (fun y => ctlM y.1 (newC results) y.2)) := by
  obtain ⟨p, cc, rfl, hl⟩ := hI.slice
  refine enterH (l := [_]) Tryz.func17 rfl Tryz.ntmps17 rfl (Ok.start w) ?_
  repeat' (first | refine wau ?_ | (refine wspl ?_ ?_ <;> intro hc_))
  refine OpsH.he (HE.callN (M0 := []) Rms.nil rfl rfl (fun w' hw' => stack_New w')) rfl ?_
  rintro ⟨sp, tv, pv⟩ _
  dsimp only [stkM, List.cons_append, List.nil_append]
  repeat' (first | refine wau ?_ | (refine wspl ?_ ?_ <;> intro hc_))
  refine OpsH.he (HE.callN (M0 := []) Rms.nil rfl rfl (fun w' hw' => slices_CloneI results _ w' (hI.chg (show Ext w w' from hw'.at) (fun _ _ _ h => h)))) rfl ?_
  intro u _
  dsimp only [List.cons_append, List.nil_append]
  refine OpsH.pure (φ := ∃ p c, u = .slice p results.length c) (fun w' hw' => ?_) ?_
  · obtain ⟨p, c, e, _⟩ := own_slice (hw'.own (v := u)); exact ⟨p, c, e⟩
  rintro ⟨p3, c3, rfl⟩
  repeat' (first | refine wau ?_ | (refine wspl ?_ ?_ <;> intro hc_))
  refine OpsH.box [.pointer (some ⟨sp, 0, none⟩), .slice none 0 0, .slice p3 results.length c3, .bool true, .int .i64 0] rfl rfl rfl fun cp => ?_
  repeat' (first | refine wau ?_ | (refine wspl ?_ ?_ <;> intro hc_))
  refine OpsH.he (HE.callN (M0 := [.blk sp [tv, pv, .bool (overB ⟨[], [(0, false)], 0⟩)] TStk, .own 0 TVl 1 tv (([] : List Int).length) (valsC []), .own 0 TPrt 2 pv ([((0 : Int), false)].length) (partsC [(0, false)])]) wrms rfl rfl (fun w' hw' => stack_Open sp ⟨[], [(0, false)], 0⟩ (tv, pv) w' (hw'.subP wsp (fun p h => by cases h)) (by decide) (by decide))) rfl ?_
  rintro ⟨tv2, pv2⟩ _
  dsimp only [stkM, List.cons_append, List.nil_append]
  repeat' (first | refine wau ?_ | (refine wspl ?_ ?_ <;> intro hc_))
  refine OpsH.he (HE.bsl rfl rfl rfl rfl rfl wcel (by rfl) (by rfl)) rfl ?_
  intro b6 _
  repeat' (first | refine wau ?_ | (refine wspl ?_ ?_ <;> intro hc_))
  refine FinH.ret1 rfl rfl fun w' hw' => ?_
  have h1 := hw'.swap (q := .own 0 TVl 1 (.slice p3 results.length c3) results.length (valsC results)) (q' := .frd FnL FnL.fr (fun k => (Value.slice p3 results.length c3).ownBlock = some k) [(⟨[], results⟩, .slice none 0 0, .slice p3 results.length c3)]) wup (fun k h => h) (fun h y hy => by
    rw [List.mem_singleton] at hy; subst hy
    exact ⟨IntsR.nil0 _ _, own_reads h hl⟩)
  have h2 := h1.toOwn (s := 5) (len := 1) wup rfl (by unfold maxLen; omega)
  refine MutPost.ofEP (x := (cp, (⟨sp, tv2, pv2, .slice (some ⟨b6, 0, none⟩) 1 1, .slice p3 results.length c3, [(.slice none 0 0, .slice p3 results.length c3)], _, [(⟨[], results⟩, .slice none 0 0, .slice p3 results.length c3)]⟩ : CtV))) ⟨rfl, fun i hi => ?_, List.mem_cons_self⟩ h2 (by
    show SubP [.blk cp [.pointer (some ⟨sp, 0, none⟩), .slice (some ⟨b6, 0, none⟩) 1 1, .slice p3 results.length c3, .bool true, .int .i64 0] TCtl, .blk sp [tv2, pv2, .bool (overB (openK ⟨[], [(0, false)], 0⟩))] TStk, .own 0 TVl 1 tv2 (openK ⟨[], [(0, false)], 0⟩).ts.length (valsC (openK ⟨[], [(0, false)], 0⟩).ts), .own 0 TPrt 2 pv2 (openK ⟨[], [(0, false)], 0⟩).ps.length (partsC (openK ⟨[], [(0, false)], 0⟩).ps), .own 0 TBk 5 (.slice (some ⟨b6, 0, none⟩) 1 1) 1 [.int .i64 0, .slice none 0 0, .slice p3 results.length c3, .bool false, .bool true], .frd FnL FnL.fr _ _] _
    exact wsp) wmem
  have : i = 0 := by simp [newC] at hi; exact hi
  subst this
  exact List.mem_cons_self
end Go.Proofs.YtgbgnipidakdhaaGreatDoor
