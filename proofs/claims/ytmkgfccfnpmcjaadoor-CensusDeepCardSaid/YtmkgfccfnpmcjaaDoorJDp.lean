/- census.walk.from: the search for the longest chain. -/
import Derived.Test.YtmkgfccfnpmcjaaDoorJCr
import Derived.Test.YtmkgfccfnpmcjaaDoorJQ2
import Derived.Test.YtmkgfccfnpmcjaaDoorJM3
namespace Go.Proofs.YtmkgfccfnpmcjaaDoor
open Go.RowKit
set_option maxRecDepth 100000
section
variable {n : Nat} {E : Env} {M M' : List Res} {R R' : List (World → Prop)} {v : Value} {x y z : Operand} {t t2 : TypeId}
theorem Yl.loadI {ti : TI} {B g m cap i : Nat} {xs : List Int} (ht : G.ty t = some ti) (ha : ti.agg = false) (hx : ev E x = some (.pointer (some ⟨g, 0 + i, none⟩))) (hM : Res.ownI B (.slice (some ⟨g, 0, none⟩) m cap) xs ∈ M) (hi : i < xs.length) : Yl G n (.load t x) E (Ok M R) (.int .i64 (ix xs i)) :=
  Yl.load ht ha hx fun _w hw => OwnI.get (hw.m _ hM).1 hi
theorem Yl.loadO {ti : TI} {B T g m cap i : Nat} {xs : List Value} {u : Value} (ht : G.ty t = some ti) (ha : ti.agg = false) (hx : ev E x = some (.pointer (some ⟨g, 0 + i, none⟩))) (hu : xs[i]? = some u) (hM : Res.own B T 1 (.slice (some ⟨g, 0, none⟩) m cap) m xs ∈ M) : Yl G n (.load t x) E (Ok M R) u :=
  Yl.load ht ha hx fun w hw => by rw [Nat.zero_add]; exact own_get (hw.m _ hM).1 hu
theorem HE0.setO {ti : TI} {B T g cap m i : Nat} {xs : List Value} (ht : G.ty t = some ti) (hs : ti.size = 1) (hx : ev E x = some (.pointer (some ⟨g, 0 + i, none⟩))) (hy : ev E y = some v) (hv : v.oneCell' = true)
    (hM : Up (.own B T 1 (.slice (some ⟨g, 0, none⟩) m cap) m xs) (.own B T 1 (.slice (some ⟨g, 0, none⟩) m cap) m (xs.set i v)) M M') (hi : i < xs.length) : HE0 n (.store t x y) E M R (fun _ : Unit => True) (fun _ => M') (fun _ => R) :=
  ⟨fun w hw => by
    have ho : w.ownsRow B T 1 (.slice (some ⟨g, 0, none⟩) m cap) m xs := (hw.m _ hM.mem).1
    have hlt := (hw.m _ hM.mem).2
    refine (Eff.store ht hs hx hy hv (by rw [Nat.zero_add]; exact own_get ho (List.getElem?_eq_getElem hi)) (World.ownsRow.frozenAt ho _)).mono fun _ w' e => ?_
    subst e
    obtain ⟨h1, h2⟩ := World.ownsRow.stored ho i v
    rw [Nat.zero_add]
    refine ⟨(), trivial, hw.upd hM ((Chg.ofGrown h2).mono fun k _ e => e) h1 (fun k hk => ⟨?_, fun _ => hk⟩)⟩
    have := hlt k hk
    have := (Chg.ofGrown h2).size
    omega⟩
theorem HE.maxV {p q : Int} {tys : Array TypeId} (hx : ev E x = some (.int .i64 p)) (hy : ev E y = some (.int .i64 q)) : HE n (.call ⟨.builtin .max, #[x, y], tys⟩) E M R (fun _ : Unit => True) (fun _ => .int .i64 (maxI p q)) (fun _ => M) (fun _ => R) :=
  ⟨fun w hw => by
    refine Eff.of (w' := w) (v := .int .i64 (maxI p q)) (fun a ha d ty pos aft gd => ?_) ⟨(), trivial, rfl, hw⟩
    have e : (if q > p then q else p) = maxI p q := by unfold maxI; rfl
    simp [execOp, resolve, invoke, builtin, ha.eval hx, ha.eval hy, Builtin.max_, Builtin.max2, e]⟩
theorem HE.callM0 {β : Type} {tf : β → Value} {φ : β → Prop} {M1 : β → List Res} {f : Nat} {args : List Operand} {tys : Array TypeId} {vs : List Value} (hf : G.fb[f]? = some true) (ha : evs E args = some vs)
    (hc : ∀ w, Ok M R w → Calls G.P f vs.toArray w (MutPost M w tf φ M1)) : HE n (.call ⟨.value (.func f), args.toArray, tys⟩) E M R φ tf M1 (fun _ => R) :=
  HE.call tf hf ha fun w hw => (hc w hw).mono fun e w' ⟨x, e1, h1, h2, h3, h4⟩ => by
    have hw' : Ok (M ++ []) R w := by rw [List.append_nil]; exact hw
    have := hw'.frame h2 h3 h4
    rw [List.append_nil] at this
    exact ⟨x, e1, h1, this⟩
end
abbrev TWk : Nat := 69
abbrev TBool : Nat := 4
/-- the search in memory -/
def wkM (B wb gl go n cl co : Nat) (cv : Value) (s : DSt) : List Res :=
  [.blk wb [cv, .slice (some ⟨gl, 0, none⟩) n cl, .slice (some ⟨go, 0, none⟩) n co, .bool s.ring] TWk, .ownI B (.slice (some ⟨gl, 0, none⟩) n cl) s.long, .own B TBool 1 (.slice (some ⟨go, 0, none⟩) n co) n (s.op.map Value.bool)]
def WalkPost (B wb gl go n cl co : Nat) (cv : Value) (s : DSt) (r : DSt × Int) (w : World) : Ending → World → Prop :=
  MutPost (wkM B wb gl go n cl co cv s) w (fun _ : Unit => .int .i64 r.2) (fun _ => True) (fun _ => wkM B wb gl go n cl co cv r.1)
theorem op_get {l : List Bool} {i : Nat} (h : i < l.length) : (l.map Value.bool)[i]? = some (.bool (ix l i)) := by rw [List.getElem?_map, ix_some h]; rfl
theorem fromR_stop {g : List (List Int)} {f i : Nat} {s : DSt} (h : (s.ring || ix s.op i || decide (0 < ix s.long i)) = true) : fromR g (f + 1) i s = ({ s with ring := s.ring || ix s.op i }, ix s.long i) := by
  unfold fromR; dsimp only; rw [if_pos h]
theorem fromR_go {g : List (List Int)} {f i : Nat} {s : DSt} (h : (s.ring || ix s.op i || decide (0 < ix s.long i)) = false) : fromR g (f + 1) i s =
    ({ long := (foldR g f (ix g i) ({ s with op := s.op.set i true }, 0)).1.long.set i ((foldR g f (ix g i) ({ s with op := s.op.set i true }, 0)).2 + 1), op := (foldR g f (ix g i) ({ s with op := s.op.set i true }, 0)).1.op.set i false, ring := (foldR g f (ix g i) ({ s with op := s.op.set i true }, 0)).1.ring }, (foldR g f (ix g i) ({ s with op := s.op.set i true }, 0)).2 + 1) := by
  rw [fromR]; dsimp only; rw [if_neg (by rw [h]; simp)]; rfl
theorem foldR_snoc (g : List (List Int)) (f : Nat) (l : List Int) (a : Int) (t : DSt × Int) : foldR g f (l ++ [a]) t = ((fromR g f a.toNat (foldR g f l t).1).1, maxI (foldR g f l t).2 (fromR g f a.toNat (foldR g f l t).1).2) := by
  unfold foldR; rw [List.foldl_append]; rfl

set_option maxHeartbeats 32000000 in
theorem walk_from (F : Nat → Prop) (B wb gl go cl co : Nat) (cv : Value) (g : List (List Int)) (w0 : World) (hg : RowsR F w0 cv g) (hgr : ∀ i, i < g.length → ∀ a ∈ ix g i, 0 ≤ a ∧ a < g.length) (hsm : g.length ≤ 1000000) :
    ∀ (f i : Nat) (s : DSt) (w : World), cnt s.op < f → DOk g s → i < g.length → Ok (wkM B wb gl go g.length cl co cv s) [Ext w0] w →
      Calls G.P 9 #[.pointer (some ⟨wb, 0, none⟩), .int .i64 i] w (WalkPost B wb gl go g.length cl co cv s (fromR g f i s) w) := by
  obtain ⟨pc, cc, rfl, hln⟩ := hg.slice
  by_cases hg0 : g.length = 0
  · intro f i s w _ _ hi; omega
  obtain ⟨bc, oc, rfl, hF, hall⟩ := hg.at (i := 0) (by omega)
  intro f
  induction f with
  | zero => intro i s w hc; omega
  | succ f ih =>
    intro i s w hc hs hi hw
    obtain ⟨ur, hcr, hrow⟩ := hall i hi
    obtain ⟨pr, cr, rfl, hlr⟩ := hrow.slice
    have hll := hs.ll
    have hlo := hs.lo
    have hio : i < s.op.length := by omega
    have hil : i < s.long.length := by omega
    obtain ⟨hnn1, hnn2⟩ := hs.nn i hi
    refine enterH (l := [.pointer (some ⟨wb, 0, none⟩), .int .i64 i]) Tryd.func9 rfl Tryd.ntmps9 rfl (Ok.startM hw) ?_
    generalize hS : Mb (wkM B wb gl go g.length cl co (.slice (some ⟨bc, oc, none⟩) g.length cc) s) = S0
    unfold wkM
    refine wgh ?_
    refine OpsH.y_ (Yl.loadO (i := i) rfl rfl rfl (op_get hio) wmm) rfl ?_
    cases hop : ix s.op i with
    | true =>
      have hst := fromR_stop (g := g) (f := f) (i := i) (s := s) (by simp [hop])
      rw [hop, Bool.or_true] at hst
      refine wgh ?_
      refine OpsH.y_ (Yl.loadI (i := i) rfl rfl rfl wmm (by omega)) rfl ?_
      refine wgh ?_
      refine FinH.ret1 rfl rfl fun w' hw' => ?_
      unfold WalkPost
      rw [hst]
      exact MutPost.of (x := ()) trivial hw' rfl (by rw [hS]; exact wmem)
    | false =>
      cases hrg : s.ring with
      | true =>
        have hst := fromR_stop (g := g) (f := f) (i := i) (s := s) (by simp [hrg])
        rw [hop, hrg, Bool.or_false] at hst
        refine wgh ?_
        refine OpsH.y_ (Yl.loadI (i := i) rfl rfl rfl wmm (by omega)) rfl ?_
        refine wgh ?_
        refine FinH.ret1 rfl rfl fun w' hw' => ?_
        unfold WalkPost
        rw [hst]
        exact MutPost.of (x := ()) trivial hw' rfl (by rw [hS]; exact wmem)
      | false =>
        refine wgh ?_
        refine OpsH.yg rfl (Yl.loadI (i := i) rfl rfl rfl wmm (by omega)) rfl ?_
        by_cases hpos : 0 < ix s.long i
        · have hst := fromR_stop (g := g) (f := f) (i := i) (s := s) (by simp [hpos])
          rw [hop, hrg, Bool.or_false] at hst
          refine wgh ?_
          refine OpsH.y_ (Yl.loadI (i := i) rfl rfl rfl wmm (by omega)) rfl ?_
          refine wgh ?_
          refine FinH.ret1 rfl rfl fun w' hw' => ?_
          unfold WalkPost
          rw [hst]
          exact MutPost.of (x := ()) trivial hw' rfl (by rw [hS]; exact wmem)
        · have hgo := fromR_go (g := g) (f := f) (i := i) (s := s) (by simp [hrg, hop, hpos])
          have hz : ix s.long i = 0 := by omega
          have hset := cnt_set (seen := s.op) (i := i) hio hop
          have hs2 : DOk g { s with op := s.op.set i true } := ⟨hs.ll, by simpa using hs.lo, hs.nn⟩
          have hc0 : (0 : Int) + cnt0 s.long ≤ g.length := by omega
          have hfold := fun j : Nat => foldR_ok (f := f) (fun i s => fromR_ok hgr f i s) ((ix g i).take j) { s with op := s.op.set i true } 0 (fun a ha => hgr i hi a (List.mem_of_mem_take ha)) hs2 (by dsimp only; omega) hc0
          have hms : ∀ (l : List Bool) (b : Bool), (l.map Value.bool).set i (.bool b) = (l.set i b).map Value.bool := fun l b => (List.map_set ..).symm
          refine wgh ?_
          refine OpsH.he0 (HE0.setO (i := i) rfl rfl rfl rfl rfl wup (by rw [List.length_map]; omega)) ?_
          rintro ⟨⟩ _
          rw [hms]
          refine wgh ?_
          refine CdH.loop (σ := Nat) (fun j => [(0, .pointer (some ⟨wb, 0, none⟩)), (1, .int .i64 i), (5, .int .i64 (foldR g f ((ix g i).take j) ({ s with op := s.op.set i true }, 0)).2), (51, .slice pr (ix g i).length cr), (52, .int .i64 (ix g i).length), (53, .int .i64 j)]) (fun j => wkM B wb gl go g.length cl co (.slice (some ⟨bc, oc, none⟩) g.length cc) (foldR g f ((ix g i).take j) ({ s with op := s.op.set i true }, 0)).1) (fun _ => [Chg S0 w, Ext w0]) (fun j => j ≤ (ix g i).length) (fun j => (ix g i).length - j) 0 wsub (sub_blk (by show [_, _, _, Value.bool s.ring] = _; rw [hrg]) wslb) wsr (by omega) ?_
          intro j hj
          have hf1 := (hfold j).1
          have hf2 := (hfold j).2
          have hsn : j < (ix g i).length → foldR g f ((ix g i).take (j + 1)) ({ s with op := s.op.set i true }, 0) = ((fromR g f (ix (ix g i) j).toNat (foldR g f ((ix g i).take j) ({ s with op := s.op.set i true }, 0)).1).1, maxI (foldR g f ((ix g i).take j) ({ s with op := s.op.set i true }, 0)).2 (fromR g f (ix (ix g i) j).toNat (foldR g f ((ix g i).take j) ({ s with op := s.op.set i true }, 0)).1).2) := fun h => by
            rw [take_succ_ix h, foldR_snoc]
          have hcop : cnt (foldR g f ((ix g i).take j) ({ s with op := s.op.set i true }, 0)).1.op < f := by rw [hf1.op]; dsimp only; omega
          by_cases hjl : j < (ix g i).length
          · obtain ⟨br, orr, rfl, -, hcell⟩ := hrow.at hjl
            have c9 := hcell j hjl
            have hk := hgr i hi (ix (ix g i) j) (by rw [ix_eq hjl]; exact List.getElem_mem hjl)
            have ek : ((ix (ix g i) j).toNat : Int) = ix (ix g i) j := Int.toNat_of_nonneg hk.1
            have hsn' := hsn hjl
            generalize foldR g f ((ix g i).take j) ({ s with op := s.op.set i true }, 0) = st at *
            refine wgh ?_
            refine OpsH.he (HE.callM0 rfl rfl (fun w' hw' => by
              have := ih (ix (ix g i) j).toNat st.1 w' hcop hf1.ok (by omega) (hw'.sub (List.Sublist.refl _) wsr)
              rw [ek] at this
              exact this)) rfl ?_
            rintro ⟨⟩ _
            refine OpsH.he (HE.maxV rfl rfl) rfl ?_
            rintro ⟨⟩ _
            refine wgh ?_
            exact FinH.next (j + 1) (by rw [hsn']; exact wsub) (by rw [hsn']; exact wsl) wsr (by omega) (by omega)
          · obtain rfl : j = (ix g i).length := by omega
            rw [List.take_length] at *
            generalize foldR g f (ix g i) ({ s with op := s.op.set i true }, 0) = st at *
            have h1 := hf1.ok.ll
            have h2 := hf1.ok.lo
            have h3 := hf2.bd
            have h4 := hf2.nn
            unfold wkM
            refine wgh ?_
            refine OpsH.he0 (HE0.setO (i := i) rfl rfl rfl rfl rfl wup (by rw [List.length_map]; omega)) ?_
            rintro ⟨⟩ _
            rw [hms]
            refine wgh ?_
            refine OpsH.he0 (HE0.setI (i := i) rfl rfl rfl rfl (show i < st.1.long.length by omega) wup) ?_
            rintro ⟨⟩ _
            refine wgh ?_
            refine OpsH.y_ (Yl.loadI (i := i) rfl rfl rfl wmm (by rw [List.length_set]; omega)) rfl ?_
            rw [show ix (st.1.long.set i (st.2 + 1)) i = st.2 + 1 by rw [ix_set (by omega), if_pos rfl]]
            refine wgh ?_
            refine FinH.ret1 rfl rfl fun w' hw' => ?_
            unfold WalkPost
            rw [hgo]
            exact MutPost.of (x := ()) trivial hw' rfl (by rw [hS]; exact wmem)
end Go.Proofs.YtmkgfccfnpmcjaaDoor
/- census.Deep. -/
namespace Go.Proofs.YtmkgfccfnpmcjaaDoor
open Go.RowKit
set_option maxRecDepth 100000
section
variable {ops : Array Oper} {Q : Exit → Act → World → Prop} {n : Nat} {E : Env} {M M' : List Res} {R R' : List (World → Prop)} {rest l : List Oper} {op : Op} {d : Nat} {ty : TypeId} {pos : String} {aft : Array Edge} {v : Value} {x y z : Operand} {t : TypeId}
theorem CdH.anchor {c : Code} (h : ∀ w1, Ok [] R w1 → CdH Q n c E [] (Ext w1 :: R)) : CdH Q n c E [] R := ⟨fun w hw => (h w hw).h w (hw.add fun w' hc => hc.mono fun k _ ⟨q, hq, _⟩ => absurd hq (by simp))⟩
theorem FinH.perm {e : Exit} (hp : M.Perm M') (h : FinH Q n e E M' R) : FinH Q n e E M R := ⟨fun w hw => h.h w (hw.perm hp)⟩
theorem FinH.sub {e : Exit} {E' : Env} (hE : Sub E E') (hM : M'.Sublist M) (hR : ∀ p, p ∈ R' → p ∈ R) (h : FinH Q n e E' M' R') : FinH Q n e E M R := ⟨fun w hw => Fin.sub hE (h.h w (hw.sub hM hR))⟩
/-- a region that draws its order, where two effects may come in either order -/
structure OpsF (ops : Array Oper) (Q : Exit → Act → World → Prop) (Mc : List Res) (Rc : List (World → Prop)) (n : Nat) (l : List Oper) (E : Env) (M : List Res) (R : List (World → Prop)) : Prop where
  h : ∀ w, Ok M R w → Ops G ops (.mix false Q (Ok Mc Rc) w) n l E
theorem CdH.regionB {id : Nat} {l : List Oper} (pre : List Nat) (i : Nat) (r1 : List Nat) (j : Nat) (r2 : List Nat) (Mc : List Res) (Rc : List (World → Prop)) (hB : br2B l pre i r1 j r2 = true) (hM : Mc.Sublist M) (hR : ∀ p, p ∈ Rc → p ∈ R)
    (h : OpsF l.toArray (fun _ a w => wpMix G.P l.toArray (Ok Mc Rc) false (Q .normal) (pick l (i :: r1)) a w ∧ wpMix G.P l.toArray (Ok Mc Rc) false (Q .normal) (pick l (j :: r2)) a w) Mc Rc n (pick l pre) E M R) : CdH Q n (.region id l.toArray true) E M R :=
  ⟨fun w hw => Cd.regionB pre i r1 j r2 (Ok Mc Rc) hB (hw.drew.sub hM hR) (h.h w.drew hw.drew)⟩
theorem FinH.both {Mc : List Res} {Rc : List (World → Prop)} {l1 l2 : List Oper} {e : Exit} (h1 : OpsF ops Q Mc Rc n l1 E M R) (h2 : OpsF ops Q Mc Rc n l2 E M R) :
    FinH (fun _ a w => wpMix G.P ops (Ok Mc Rc) false (Q .normal) l1 a w ∧ wpMix G.P ops (Ok Mc Rc) false (Q .normal) l2 a w) n e E M R := ⟨fun w hw => Fin.both (h1.h w hw) (h2.h w hw)⟩
section
variable {Mc : List Res} {Rc : List (World → Prop)} {β : Type} {φ : β → Prop} {vf : β → Value} {Mf : β → List Res} {Rf : β → List (World → Prop)}
theorem OpsF.y_ (hy : Yl G n op E (Ok Mc Rc) v) (hd : (isQ op && Nat.blt d n) = true) (h : OpsF ops Q Mc Rc n rest ((d, v) :: E) M R) : OpsF ops Q Mc Rc n (⟨some d, op, ty, pos, aft, none⟩ :: rest) E M R :=
  ⟨fun w hw => Ops.y (M := .mix false Q (Ok Mc Rc) w) hy hd (h.h w hw)⟩
theorem OpsF.he (he : HE n op E M R φ vf Mf Rf) (hd : (!isQ op && Nat.blt d n) = true) (hM : ∀ x, Mc.Sublist (Mf x)) (hR : ∀ x p, p ∈ Rc → p ∈ Rf x) (h : ∀ x, φ x → OpsF ops Q Mc Rc n rest ((d, vf x) :: E) (Mf x) (Rf x)) : OpsF ops Q Mc Rc n (⟨some d, op, ty, pos, aft, none⟩ :: rest) E M R :=
  ⟨fun w hw => Ops.m (he.h w hw) hd fun v w' ⟨x, h1, h2, h3⟩ => by subst h2; exact ⟨h3.sub (hM x) (hR x), (h x h1).h w' h3⟩⟩
theorem OpsF.nil (h : FinH Q n .normal E M R) : OpsF ops Q Mc Rc n [] E M R := ⟨fun w hw => Ops.nilM (h.h w hw)⟩
end
theorem HE.make1 {ti te : TI} {e len B : Nat} (u : Value) (ht : G.ty t = some ti) (he : ti.elem = some e) (hte : G.ty e = some te) (hz : te.zero.cells = #[u]) (hs : te.size = 1) (hx : ev E x = some (.int .i64 (len : Int))) (hby : te.bytes * len ≤ 140737488355328) (hml : len ≤ 9223372036854775807) (hB : ∀ w, Ok M R w → B ≤ w.heap.size) :
    HE n (.makeSlice t x x) E M R (fun _ : Nat => True) (fun g => .slice (some ⟨g, 0, none⟩) len len) (fun g => .own B e 1 (.slice (some ⟨g, 0, none⟩) len len) len (List.replicate len u) :: M) (fun _ => R) :=
  ⟨fun w hw => (Eff.make ht he hte hx hby (by unfold maxLen; omega) (hB w hw)).mono fun v w' ⟨h1, h2, h3, h4⟩ => by
    subst h1
    rw [hz, hs, Nat.mul_one, toList_madeCells_one] at h2
    refine ⟨w.heap.size, trivial, rfl, hw.push h3 h2 (fun k hk => ?_)⟩
    have hk' : some w.heap.size = some k := hk
    cases hk'; exact ⟨Nat.le_refl _, h4⟩⟩
theorem ok_own_I {w : World} {B len : Nat} {v : Value} (h : w.ownsRow B 3 1 v len (List.replicate len (.int .i64 0))) : OwnI B w v (List.replicate len 0) := by
  unfold OwnI; rw [List.length_replicate, List.map_replicate]; exact h
theorem HE.makeI {len B : Nat} {t : TypeId} (h0 : t = 51) (hx : ev E x = some (.int .i64 (len : Int))) (hl : len ≤ 1000000) (hB : ∀ w, Ok M R w → B ≤ w.heap.size) :
    HE n (.makeSlice t x x) E M R (fun _ : Nat => True) (fun g => .slice (some ⟨g, 0, none⟩) len len) (fun g => .ownI B (.slice (some ⟨g, 0, none⟩) len len) (List.replicate len 0) :: M) (fun _ => R) := by
  subst h0
  refine ⟨fun w hw => ((HE.make1 (.int .i64 0) rfl rfl rfl rfl rfl hx (by show 8 * len ≤ _; omega) (by omega) hB).h w hw).mono fun v w' ⟨g, h1, h2, h3⟩ => ⟨g, h1, h2, ?_⟩⟩
  refine ⟨fun q hq => ?_, ?_, fun p hp w2 h4 => h3.r p hp w2 (h4.mono fun k _ ⟨q, hq, hk⟩ => ?_)⟩
  · rcases List.mem_cons.1 hq with rfl | hq
    · have := h3.m (.own B 3 1 (.slice (some ⟨g, 0, none⟩) len len) len (List.replicate len (.int .i64 0))) (by simp)
      exact ⟨ok_own_I this.1, this.2⟩
    · exact h3.m q (by simp [hq])
  · have := h3.d
    rw [List.pairwise_cons] at this ⊢
    exact ⟨fun a ha k hk => this.1 a ha k hk, this.2⟩
  · rcases List.mem_cons.1 hq with rfl | hq
    · exact ⟨_, List.mem_cons_self, hk⟩
    · exact ⟨q, by simp [hq], hk⟩
end
theorem rows_fresh (g : List (List Int)) : Fresh (fun lo w v => RowsR (fun k => lo ≤ k) w v g) := fun h hc hS => h.chg hc hS
theorem callsM_in (m : ApiModule) : ∀ i, i < (callsM m).length → ∀ a ∈ ix (callsM m) i, 0 ≤ a ∧ a < (callsM m).length := by
  intro i hi a ha
  have hl : (callsM m).length = m.funcs.length := by simp [callsM]
  rw [hl] at hi ⊢
  rw [callsM_ix hi, mem_callsB] at ha
  obtain ⟨k, rfl, hk, _⟩ := ha
  omega
theorem places_ix {n i : Nat} (h : i < n) : ix (places n) i = i := by simp [ix, places, h]
noncomputable def stD (g : List (List Int)) (i : Nat) : DSt × Int := foldR g (g.length + 1) ((places g.length).take i) (start0 g.length, 0)
theorem stD_ok {g : List (List Int)} (hg : ∀ i, i < g.length → ∀ a ∈ ix g i, 0 ≤ a ∧ a < g.length) (i : Nat) : DOk g (stD g i).1 ∧ cnt (stD g i).1.op < g.length + 1 := by
  have h := (foldR_ok (f := g.length + 1) (fun i s => fromR_ok hg _ i s) ((places g.length).take i) (start0 g.length) 0 (fun a ha => by
    obtain ⟨k, hk, rfl⟩ := List.mem_map.1 (List.mem_of_mem_take ha)
    have := List.mem_range.1 hk; omega) (start0_ok g) (by have : cnt (start0 g.length).op = g.length := cnt_replicate _; omega) (by have : cnt0 (start0 g.length).long = g.length := cnt0_replicate _; omega)).1
  refine ⟨h.ok, ?_⟩
  show cnt (foldR g (g.length + 1) ((places g.length).take i) (start0 g.length, 0)).1.op < _
  rw [h.op]
  have : cnt (start0 g.length).op = g.length := cnt_replicate _
  omega
theorem stD_succ {g : List (List Int)} {i : Nat} (h : i < g.length) : stD g (i + 1) = ((fromR g (g.length + 1) i (stD g i).1).1, maxI (stD g i).2 (fromR g (g.length + 1) i (stD g i).1).2) := by
  unfold stD
  rw [take_succ_ix (by simp [places]; exact h), foldR_snoc, places_ix h, Int.toNat_natCast]
theorem stD_all (g : List (List Int)) : stD g g.length = allR g := by
  unfold stD allR; rw [List.take_of_length_le (by simp [places])]

set_option maxHeartbeats 32000000 in
theorem census_Deep (F : Nat → Prop) (m : ApiModule) (cs : List Value) (w : World) (hm : ApiModuleV F w cs m) (hL : LensP m) (hs : SmallM m) : Calls G.P 6 #[.agg cs.toArray] w fun e w' => e = .returned (.int .i64 (deepG (callsM m))) ∧ Ext w w' := by
  have hm0 := hm
  have hlen := hm0.len
  obtain ⟨c0, c1, c2, c3, c4, c5, c6, c7, c8, c9, c10, c11, rfl⟩ := len12_ hlen
  have hL0 := hL
  obtain ⟨-, -, L2, -⟩ := hL
  have hgl : (callsM m).length = m.funcs.length := by simp [callsM]
  refine enterH (l := [.agg ([c0, c1, c2, c3, c4, c5, c6, c7, c8, c9, c10, c11] : List Value).toArray]) Tryd.func6 rfl Tryd.ntmps6 rfl (Ok.start w) ?_
  refine wgh ?_
  refine OpsH.box ([c0, c1, c2, c3, c4, c5, c6, c7, c8, c9, c10, c11] : List Value) rfl rfl rfl fun b => ?_
  refine wgh ?_
  refine OpsH.he (HE.callF (V := fun lo w v => RowsR (fun k => lo ≤ k) w v (callsM m)) (fun v => v) (rows_fresh _) rfl rfl (fun w' hw' => census_Calls F m _ w' (hm0.chg (show Ext w w' from hw'.at) (fun _ _ _ h => h)) hL0 hs)) rfl ?_
  rintro ⟨lo, vC⟩ -
  dsimp only
  refine wgh ?_
  refine CdH.sub (E' := [(3, vC)]) wsub (M' := []) (R' := [fun w => RowsR (fun k => lo ≤ k) w vC (callsM m), Ext w]) wsl wsr ?_
  refine CdH.anchor fun w1 hw1 => ?_
  have hrows : RowsR (fun k => lo ≤ k) w1 vC (callsM m) := hw1.at
  obtain ⟨pc, cc, rfl, hlc⟩ := hrows.slice
  have hin := callsM_in m
  generalize hg : callsM m = g at *
  refine CdH.sub (E' := [(3, .slice pc g.length cc)]) wsub (M' := []) (R' := [Ext w1, Ext w]) wsl wsr ?_
  refine wgh ?_
  refine CdH.regionB [0, 1, 2, 4, 5] 3 [6, 7, 8, 9] 6 [3, 7, 8, 9] [] [] (by kernel_rfl) (List.nil_sublist _) (fun p hp => absurd hp (by simp)) ?_
  refine OpsF.y_ (Yl.move rfl) rfl ?_
  refine OpsF.y_ (Yl.move rfl) rfl ?_
  refine OpsF.y_ (Yl.len rfl rfl rfl) rfl ?_
  refine OpsF.y_ (Yl.move rfl) rfl ?_
  refine OpsF.y_ (Yl.len rfl rfl rfl) rfl ?_
  refine OpsF.nil ?_
  refine FinH.both ?_ ?_
  · refine OpsF.he (HE.makeI (B := w1.heap.size) rfl rfl (by omega) szR) rfl (fun _ => List.nil_sublist _) (fun _ p hp => absurd hp (by simp)) ?_
    intro gl _
    refine OpsF.he (HE.make1 (B := w1.heap.size) (.bool false) rfl rfl rfl rfl rfl rfl (by show 1 * g.length ≤ _; omega) (by omega) szR) rfl (fun _ => List.nil_sublist _) (fun _ p hp => absurd hp (by simp)) ?_
    intro go _
    refine OpsF.y_ (Yl.buildF rfl rfl rfl (by repeat (first | exact fill0 | (apply fill1; rfl; rfl; rfl; (repeat (first | exact SetL.zero | apply SetL.succ)))))) rfl ?_
    refine OpsF.he (HE.box [.slice pc g.length cc, .slice (some ⟨gl, 0, none⟩) g.length g.length, .slice (some ⟨go, 0, none⟩) g.length g.length, .bool false] rfl rfl) rfl (fun _ => List.nil_sublist _) (fun _ p hp => absurd hp (by simp)) ?_
    intro wb _
    refine OpsF.y_ (Yl.assign rfl) rfl ?_
    refine OpsF.nil ?_
    refine FinH.perm (M' := [.blk wb [.slice pc g.length cc, .slice (some ⟨gl, 0, none⟩) g.length g.length, .slice (some ⟨go, 0, none⟩) g.length g.length, .bool false] TWk, .ownI w1.heap.size (.slice (some ⟨gl, 0, none⟩) g.length g.length) (List.replicate g.length 0), .own w1.heap.size TBool 1 (.slice (some ⟨go, 0, none⟩) g.length g.length) g.length (List.replicate g.length (.bool false))]) ((List.Perm.swap _ _ _).cons _) ?_
    refine FinH.sub (E' := [(3, .slice pc g.length cc), (4, .pointer (some ⟨wb, 0, none⟩))]) wsub (M' := wkM w1.heap.size wb gl go g.length g.length g.length (.slice pc g.length cc) (start0 g.length)) (R' := [Ext w1, Ext w]) (by unfold wkM start0; dsimp only; rw [List.map_replicate]; exact List.Sublist.refl _) wsr ?_
    refine wgh ?_
    refine CdH.loop (σ := Nat) (fun i => [(3, .slice pc g.length cc), (4, .pointer (some ⟨wb, 0, none⟩)), (5, .int .i64 (stD g i).2), (19, .int .i64 g.length), (20, .int .i64 i)]) (fun i => wkM w1.heap.size wb gl go g.length g.length g.length (.slice pc g.length cc) (stD g i).1) (fun _ => [Ext w1, Ext w]) (fun i => i ≤ g.length) (fun i => g.length - i) 0 wsub (by show (wkM _ _ _ _ _ _ _ _ (start0 g.length)).Sublist _; exact List.Sublist.refl _) wsr (by omega) ?_
    intro i hi
    obtain ⟨d1, d2⟩ := stD_ok hin i
    by_cases hlt : i < g.length
    · have hsn := stD_succ hlt
      refine wgh ?_
      refine OpsH.he (HE.callM0 rfl rfl (fun w' hw' => walk_from (fun k => lo ≤ k) w1.heap.size wb gl go g.length g.length _ g w1 hrows hin (by omega) (g.length + 1) i (stD g i).1 w' d2 d1 hlt (hw'.sub (List.Sublist.refl _) wsr))) rfl ?_
      rintro ⟨⟩ _
      refine OpsH.he (HE.maxV rfl rfl) rfl ?_
      rintro ⟨⟩ _
      refine wgh ?_
      exact FinH.next (i + 1) (by rw [hsn]; exact wsub) (by rw [hsn]; exact wsl) wsr (by omega) (by omega)
    · obtain rfl : i = g.length := by omega
      have hdp := allR_deep hin
      rw [← stD_all] at hdp
      generalize stD g g.length = st at *
      unfold wkM
      cases hr : st.1.ring with
      | true =>
        rw [hr, if_pos rfl] at hdp
        refine wgh ?_
        exact FinH.ret1 rfl rfl fun w' hw' => ⟨by rw [← hdp], hw'.at⟩
      | false =>
        rw [hr, if_neg (by simp)] at hdp
        refine wgh ?_
        exact FinH.ret1 rfl rfl fun w' hw' => ⟨by rw [← hdp], hw'.at⟩
  · refine OpsF.he (HE.make1 (B := w1.heap.size) (.bool false) rfl rfl rfl rfl rfl rfl (by show 1 * g.length ≤ _; omega) (by omega) szR) rfl (fun _ => List.nil_sublist _) (fun _ p hp => absurd hp (by simp)) ?_
    intro go _
    refine OpsF.he (HE.makeI (B := w1.heap.size) rfl rfl (by omega) szR) rfl (fun _ => List.nil_sublist _) (fun _ p hp => absurd hp (by simp)) ?_
    intro gl _
    refine OpsF.y_ (Yl.buildF rfl rfl rfl (by repeat (first | exact fill0 | (apply fill1; rfl; rfl; rfl; (repeat (first | exact SetL.zero | apply SetL.succ)))))) rfl ?_
    refine OpsF.he (HE.box [.slice pc g.length cc, .slice (some ⟨gl, 0, none⟩) g.length g.length, .slice (some ⟨go, 0, none⟩) g.length g.length, .bool false] rfl rfl) rfl (fun _ => List.nil_sublist _) (fun _ p hp => absurd hp (by simp)) ?_
    intro wb _
    refine OpsF.y_ (Yl.assign rfl) rfl ?_
    refine OpsF.nil ?_
    refine FinH.sub (E' := [(3, .slice pc g.length cc), (4, .pointer (some ⟨wb, 0, none⟩))]) wsub (M' := wkM w1.heap.size wb gl go g.length g.length g.length (.slice pc g.length cc) (start0 g.length)) (R' := [Ext w1, Ext w]) (by unfold wkM start0; dsimp only; rw [List.map_replicate]; exact List.Sublist.refl _) wsr ?_
    refine wgh ?_
    refine CdH.loop (σ := Nat) (fun i => [(3, .slice pc g.length cc), (4, .pointer (some ⟨wb, 0, none⟩)), (5, .int .i64 (stD g i).2), (19, .int .i64 g.length), (20, .int .i64 i)]) (fun i => wkM w1.heap.size wb gl go g.length g.length g.length (.slice pc g.length cc) (stD g i).1) (fun _ => [Ext w1, Ext w]) (fun i => i ≤ g.length) (fun i => g.length - i) 0 wsub (by show (wkM _ _ _ _ _ _ _ _ (start0 g.length)).Sublist _; exact List.Sublist.refl _) wsr (by omega) ?_
    intro i hi
    obtain ⟨d1, d2⟩ := stD_ok hin i
    by_cases hlt : i < g.length
    · have hsn := stD_succ hlt
      refine wgh ?_
      refine OpsH.he (HE.callM0 rfl rfl (fun w' hw' => walk_from (fun k => lo ≤ k) w1.heap.size wb gl go g.length g.length _ g w1 hrows hin (by omega) (g.length + 1) i (stD g i).1 w' d2 d1 hlt (hw'.sub (List.Sublist.refl _) wsr))) rfl ?_
      rintro ⟨⟩ _
      refine OpsH.he (HE.maxV rfl rfl) rfl ?_
      rintro ⟨⟩ _
      refine wgh ?_
      exact FinH.next (i + 1) (by rw [hsn]; exact wsub) (by rw [hsn]; exact wsl) wsr (by omega) (by omega)
    · obtain rfl : i = g.length := by omega
      have hdp := allR_deep hin
      rw [← stD_all] at hdp
      generalize stD g g.length = st at *
      unfold wkM
      cases hr : st.1.ring with
      | true =>
        rw [hr, if_pos rfl] at hdp
        refine wgh ?_
        exact FinH.ret1 rfl rfl fun w' hw' => ⟨by rw [← hdp], hw'.at⟩
      | false =>
        rw [hr, if_neg (by simp)] at hdp
        refine wgh ?_
        exact FinH.ret1 rfl rfl fun w' hw' => ⟨by rw [← hdp], hw'.at⟩
end Go.Proofs.YtmkgfccfnpmcjaaDoor
