/- The symbolic heap: what is mutable (M: each thing with its blocks) and what holds from now on (R), with the world itself out of sight. -/
import Derived.Test.YtgbgnipidakdhaaGreatDoorJE
import Derived.Test.YtgbgnipidakdhaaGreatDoorJR8
namespace Go.Proofs.YtgbgnipidakdhaaGreatDoor
open Go.RowKit
structure Res where
  F : Nat → Prop
  P : World → Prop
  st : ∀ {S : Nat → Prop} {w w' : World}, P w → Chg S w w' → (∀ k, k < w.heap.size → F k → ¬ S k) → P w'
def Mb (M : List Res) (k : Nat) : Prop := ∃ q, q ∈ M ∧ q.F k
structure Ok (M : List Res) (R : List (World → Prop)) (w : World) : Prop where
  m : ∀ q, q ∈ M → q.P w ∧ ∀ k, q.F k → k < w.heap.size
  d : M.Pairwise fun a b => ∀ k, a.F k → ¬ b.F k
  r : ∀ p, p ∈ R → ∀ w', Chg (Mb M) w w' → p w'
section
variable {M M' : List Res} {R R' : List (World → Prop)} {w w' : World} {q q' : Res} {p : World → Prop}
theorem Ok.step (h : Ok M R w) (hc : Chg (Mb M) w w') (hm : ∀ q, q ∈ M' → q.P w' ∧ ∀ k, q.F k → k < w'.heap.size) (hd : M'.Pairwise fun a b => ∀ k, a.F k → ¬ b.F k) (hs : ∀ k, Mb M' k → k < w.heap.size → Mb M k) : Ok M' R w' :=
  ⟨hm, hd, fun p hp w2 h2 => h.r p hp w2 (hc.trans' h2 fun i hi hm => hs i hm hi)⟩
theorem Ok.ext (h : Ok M R w) (hx : Ext w w') : Ok M R w' :=
  h.step hx.any (fun q hq => ⟨q.st (h.m q hq).1 hx (fun _ _ _ e => e), fun k hk => Nat.lt_of_lt_of_le ((h.m q hq).2 k hk) hx.size⟩) h.d (fun _ hk _ => hk)
theorem Ok.drew (h : Ok M R w) : Ok M R w.drew := h.ext ((Chg.refl _ w).drew)
theorem Ok.drewN (h : Ok M R w) (k : Nat) : Ok M R (w.drewN k) := h.ext (Ext.drewN w k)
theorem Ok.get (h : Ok M R w) (hp : p ∈ R) : p w := h.r p hp w (Chg.refl _ _)
theorem Ok.add (h : Ok M R w) (hp : ∀ w', Chg (Mb M) w w' → p w') : Ok M (p :: R) w :=
  ⟨h.m, h.d, fun x hx => by exact (List.mem_cons.1 hx).elim (fun e => e ▸ hp) (h.r x)⟩
theorem Ok.der (h : Ok M R w) (hp : ∀ w', (∀ r, r ∈ R → r w') → p w') : Ok M (p :: R) w := h.add fun w' hc => hp w' fun r hr => h.r r hr w' hc
theorem Ok.push (h : Ok M R w) (hx : Ext w w') (hq : q.P w') (hl : ∀ k, q.F k → w.heap.size ≤ k ∧ k < w'.heap.size) : Ok (q :: M) R w' := by
  refine h.step hx.any (fun x hx' => ?_) (List.pairwise_cons.2 ⟨fun x hx' k hk hk' => ?_, h.d⟩) (fun k hk hlt => ?_)
  · rcases List.mem_cons.1 hx' with rfl | hx'
    · exact ⟨hq, fun k hk => (hl k hk).2⟩
    · exact ⟨x.st (h.m x hx').1 hx (fun _ _ _ e => e), fun k hk => Nat.lt_of_lt_of_le ((h.m x hx').2 k hk) hx.size⟩
  · have := (h.m x hx').2 k hk'; have := (hl k hk).1; omega
  · obtain ⟨x, hx', hk⟩ := hk
    rcases List.mem_cons.1 hx' with rfl | hx'
    · have := (hl k hk).1; omega
    · exact ⟨x, hx', hk⟩
theorem Ok.sub (h : Ok M R w) (hM : M'.Sublist M) (hR : ∀ p, p ∈ R' → p ∈ R) : Ok M' R' w := by
  have h1 : Ok M' R w := h.step (Chg.refl _ w) (fun q hq => h.m q (hM.subset hq)) (h.d.sublist hM) (fun k ⟨q, hq, hk⟩ _ => ⟨q, hM.subset hq, hk⟩)
  exact ⟨h1.m, h1.d, fun p hp => h1.r p (hR p hp)⟩
end
inductive Up (q q' : Res) : List Res → List Res → Prop
  | head {l : List Res} : Up q q' (q :: l) (q' :: l)
  | tail {a : Res} {l l' : List Res} : Up q q' l l' → Up q q' (a :: l) (a :: l')
inductive Rm (q : Res) : List Res → List Res → Prop
  | head {l : List Res} : Rm q (q :: l) l
  | tail {a : Res} {l l' : List Res} : Rm q l l' → Rm q (a :: l) (a :: l')
section
variable {M M' : List Res} {R R' : List (World → Prop)} {w w' : World} {q q' : Res} {p : World → Prop}
theorem Up.mem (h : Up q q' M M') : q ∈ M := by induction h with | head => simp | tail _ ih => simp [ih]
theorem Ok.upd (h : Ok M R w) (hu : Up q q' M M') (hc : Chg q.F w w') (hq : q'.P w') (hl : ∀ k, q'.F k → k < w'.heap.size ∧ (k < w.heap.size → q.F k)) : Ok M' R w' := by
  have hqm := h.m q hu.mem
  -- footprint kept within the old one or new
  have key : ∀ x : Res, (∀ k, x.F k → k < w.heap.size) → (∀ k, q.F k → ¬ x.F k) → ∀ k, q'.F k → ¬ x.F k := fun x hx hd k hk hk' => hd k ((hl k hk).2 (hx k hk')) hk'
  have hd2 : M.Pairwise fun a b => ((∀ k, a.F k → k < w.heap.size) ∨ a = q') ∧ True := by
    exact List.pairwise_of_forall_mem_list (fun a ha b hb => ⟨.inl (h.m a ha).2, trivial⟩)
  have hpw : M'.Pairwise (fun a b => ∀ k, a.F k → ¬ b.F k) ∧ ∀ x, x ∈ M' → x = q' ∨ (x ∈ M ∧ ∀ k, q.F k → ¬ x.F k) := by
    have := hu
    clear hd2
    have hm := h.m
    have hd := h.d
    clear h hqm
    induction hu with
    | head =>
      rw [List.pairwise_cons] at hd ⊢
      refine ⟨⟨fun x hx => key x (hm x (by simp [hx])).2 (hd.1 x hx), hd.2⟩, fun x hx => ?_⟩
      rcases List.mem_cons.1 hx with rfl | hx
      · exact .inl rfl
      · exact .inr ⟨by simp [hx], hd.1 x hx⟩
    | @tail a l l' hu ih =>
      rw [List.pairwise_cons] at hd ⊢
      obtain ⟨h1, h2⟩ := ih hu (fun q hq => hm q (by simp [hq])) hd.2
      have haq : ∀ k, q.F k → ¬ a.F k := fun k h1 h2 => hd.1 q hu.mem k h2 h1
      refine ⟨⟨fun x hx => ?_, h1⟩, fun x hx => ?_⟩
      · rcases h2 x hx with rfl | ⟨hx, _⟩
        · exact fun k h1 h2 => key a (hm a (by simp)).2 haq k h2 h1
        · exact hd.1 x hx
      · rcases List.mem_cons.1 hx with rfl | hx
        · exact .inr ⟨by simp, haq⟩
        · rcases h2 x hx with rfl | ⟨hx, hr⟩
          · exact .inl rfl
          · exact .inr ⟨by simp [hx], hr⟩
  refine h.step (hc.mono fun k _ hk => ⟨q, hu.mem, hk⟩) (fun x hx => ?_) hpw.1 (fun k ⟨x, hx, hk⟩ hlt => ?_)
  · rcases hpw.2 x hx with rfl | ⟨hx, hd⟩
    · exact ⟨hq, fun k hk => (hl k hk).1⟩
    · exact ⟨x.st (h.m x hx).1 hc (fun k _ h1 h2 => hd k h2 h1), fun k hk => Nat.lt_of_lt_of_le ((h.m x hx).2 k hk) hc.size⟩
  · rcases hpw.2 x hx with rfl | ⟨hx, _⟩
    · exact ⟨q, hu.mem, (hl k hk).2 hlt⟩
    · exact ⟨x, hx, hk⟩
theorem Rm.sub (h : Rm q M M') : M'.Sublist M := by
  induction h with
  | head => exact List.sublist_cons_self _ _
  | tail _ ih => exact ih.cons_cons _
theorem Rm.mem (h : Rm q M M') : q ∈ M := by induction h with | head => simp | tail _ ih => simp [ih]
theorem Rm.dis (h : Rm q M M') (hd : M.Pairwise fun a b => ∀ k, a.F k → ¬ b.F k) : ∀ x, x ∈ M' → ∀ k, q.F k → ¬ x.F k := by
  induction h with
  | head => exact (List.pairwise_cons.1 hd).1
  | tail hr ih =>
    rw [List.pairwise_cons] at hd
    intro x hx k h1 h2
    rcases List.mem_cons.1 hx with rfl | hx
    · exact hd.1 q hr.mem k h2 h1
    · exact ih hd.2 x hx k h1 h2
theorem Ok.freeze (h : Ok M R w) (hr : Rm q M M') (hp : ∀ w', q.P w' → p w') : Ok M' (p :: R) w := by
  have h1 := h.sub hr.sub (fun p hp => hp)
  refine h1.add fun w' hc => hp w' (q.st (h.m q hr.mem).1 hc fun k _ hk ⟨x, hx, hk'⟩ => hr.dis h.d x hx k hk hk')
theorem Ok.freeze' (h : Ok M R w) (hr : Rm q M M') (hp : ∀ w', q.P w' → (∀ r, r ∈ R → r w') → p w') : Ok M' (p :: R) w := by
  have h1 := h.freeze hr (p := q.P) (fun _ h => h)
  have h2 := h1.der (p := p) (fun w' hw => hp w' (hw _ (by simp)) (fun r hr => hw r (by simp [hr])))
  exact h2.sub (List.Sublist.refl _) (fun x hx => by rcases List.mem_cons.1 hx with rfl | hx <;> simp [*])
end
def Res.blk (b : Nat) (cs : List Value) (T : TypeId) : Res := ⟨fun k => k = b, fun w => Blk w b cs T, fun h hc hd => h.chg hc (hd b h.lt rfl)⟩
def Res.own (B T s : Nat) (v : Value) (n : Nat) (cs : List Value) : Res := ⟨fun k => v.ownBlock = some k, fun w => w.ownsRow B T s v n cs, fun h hc hd => own_chg h hc (fun k hk => hd k (h.lt k hk).2 hk)⟩
def Res.ownI (B : Nat) (v : Value) (xs : List Int) : Res := ⟨fun k => v.ownBlock = some k, fun w => OwnI B w v xs, fun h hc hd => own_chg h hc (fun k hk => hd k (h.lt k hk).2 hk)⟩
def cl (b o : Nat) (v : Value) : World → Prop := fun w => w.cell? ⟨b, o, none⟩ = some v
def Cs (b o : Nat) (cs : List Value) : World → Prop := fun w => ∀ j, j < cs.length → w.cell? ⟨b, o + j, none⟩ = cs[j]?
inductive Ld (w : World) (b o : Nat) (v : Value) : List Res → List (World → Prop) → Prop
  | blk {cs : List Value} {T : TypeId} {M : List Res} {R : List (World → Prop)} (h : cs[o]? = some v) : Ld w b o v (.blk b cs T :: M) R
  | tailM {a : Res} {M : List Res} {R : List (World → Prop)} : Ld w b o v M R → Ld w b o v (a :: M) R
  | cl {R : List (World → Prop)} : Ld w b o v [] (cl b o v :: R)
  | cs {o' : Nat} {cs : List Value} {R : List (World → Prop)} (j : Nat) (e : o' + j = o) (h : cs[j]? = some v) : Ld w b o v [] (Cs b o' cs :: R)
  | ent {w0 : World} {R : List (World → Prop)} (h : w0.cell? ⟨b, o, none⟩ = some v) : Ld w b o v [] (Ext w0 :: R)
  | tailR {p : World → Prop} {R : List (World → Prop)} : Ld w b o v [] R → Ld w b o v [] (p :: R)
theorem Ld.ok {w : World} {b o : Nat} {v : Value} {M : List Res} {R : List (World → Prop)} (h : Ld w b o v M R) (hM : ∀ q, q ∈ M → q.P w) (hR : ∀ p, p ∈ R → p w) : w.cell? ⟨b, o, none⟩ = some v := by
  induction h with
  | @blk cs T M R h => exact Blk.cell (hM (.blk b cs T) (by simp)) h
  | tailM _ ih => exact ih (fun q hq => hM q (by simp [hq])) hR
  | cl => exact hR (Go.Proofs.YtgbgnipidakdhaaGreatDoor.cl b o v) (by simp)
  | @cs o' cs R j e h =>
    have := hR (Cs b o' cs) (by simp)
    rw [← e, ← h]; exact this j (List.getElem?_eq_some_iff.1 h).1
  | @ent w0 _ h => exact (show Ext w0 w from hR (Ext w0) (by simp)).cell h
  | tailR _ ih => exact ih hM (fun q hq => hR q (by simp [hq]))
inductive SetL (v : Value) : List Value → Nat → List Value → Prop
  | zero {a : Value} {l : List Value} : SetL v (a :: l) 0 (v :: l)
  | succ {a : Value} {l l' : List Value} {j : Nat} : SetL v l j l' → SetL v (a :: l) (j + 1) (a :: l')
theorem SetL.eq {v : Value} {l l' : List Value} {j : Nat} (h : SetL v l j l') : l.set j v = l' ∧ j < l.length := by
  induction h with
  | zero => simp
  | succ _ ih => simp [ih.1, ih.2]
structure OpsH (ops : Array Oper) (Q : Exit → Act → World → Prop) (n : Nat) (l : List Oper) (E : Env) (M : List Res) (R : List (World → Prop)) : Prop where
  h : ∀ w, Ok M R w → Ops G ops (.list Q w) n l E
structure CdH (Q : Exit → Act → World → Prop) (n : Nat) (c : Code) (E : Env) (M : List Res) (R : List (World → Prop)) : Prop where
  h : ∀ w, Ok M R w → Cd G Q n c E w
structure FinH (Q : Exit → Act → World → Prop) (n : Nat) (e : Exit) (E : Env) (M : List Res) (R : List (World → Prop)) : Prop where
  h : ∀ w, Ok M R w → Fin Q n e E w
theorem Yl.mono {n : Nat} {op : Op} {E : Env} {C C' : World → Prop} {v : Value} (h : Yl G n op E C v) (hc : ∀ w, C' w → C w) : Yl G n op E C' v := ⟨fun w hw => h.h w (hc w hw)⟩
section
variable {ops : Array Oper} {Q : Exit → Act → World → Prop} {n : Nat} {E : Env} {M M' : List Res} {R R' : List (World → Prop)} {rest l : List Oper} {op : Op} {d : Nat} {ty : TypeId} {pos : String} {aft : Array Edge} {v : Value} {x y z : Operand} {t : TypeId}
theorem CdH.seq {x y : Code} (h : CdH (Exit.then (y.wp G.P Q) Q) n x E M R) : CdH Q n (.seq x y) E M R := ⟨fun w hw => Cd.seq (h.h w hw)⟩
theorem CdH.block {id : Nat} {c : Code} (h : CdH (Exit.inBlock id Q) n c E M R) : CdH Q n (.block id c) E M R := ⟨fun w hw => Cd.block (h.h w hw)⟩
theorem CdH.scope {c : Code} (h : CdH (Exit.noGoto Q) n c E M R) : CdH Q n (.scope c) E M R := ⟨fun w hw => Cd.scope (h.h w hw)⟩
theorem CdH.skip (h : FinH Q n .normal E M R) : CdH Q n .skip E M R := ⟨fun w hw => Cd.skip (h.h w hw)⟩
theorem CdH.label {l : Nat} (h : FinH Q n .normal E M R) : CdH Q n (.label l) E M R := ⟨fun w hw => Cd.label (h.h w hw)⟩
theorem CdH.exit {id : Nat} (h : FinH Q n (.exit id) E M R) : CdH Q n (.exit id) E M R := ⟨fun w hw => Cd.exit (h.h w hw)⟩
theorem CdH.ret (h : FinH Q n .ret E M R) : CdH Q n .ret E M R := ⟨fun w hw => Cd.ret (h.h w hw)⟩
theorem CdH.region {id : Nat} {l : List Oper} (h : OpsH l.toArray Q n l E M R) : CdH Q n (.region id l.toArray false) E M R := ⟨fun w hw => Cd.region (h.h w hw)⟩
theorem CdH.condT {c : Operand} {x y : Code} (hc : ev E c = some (.bool true)) (h : CdH Q n x E M R) : CdH Q n (.cond c x y) E M R := ⟨fun w hw => Cd.condT hc (h.h w hw)⟩
theorem CdH.condF {c : Operand} {x y : Code} (hc : ev E c = some (.bool false)) (h : CdH Q n y E M R) : CdH Q n (.cond c x y) E M R := ⟨fun w hw => Cd.condF hc (h.h w hw)⟩
theorem CdH.condB {b : Bool} {c : Operand} {x y : Code} (hc : ev E c = some (.bool b)) (hx : b = true → CdH Q n x E M R) (hy : b = false → CdH Q n y E M R) : CdH Q n (.cond c x y) E M R := by
  cases b with
  | true => exact CdH.condT hc (hx rfl)
  | false => exact CdH.condF hc (hy rfl)
theorem FinH.thenN {y : Code} (h : CdH Q n y E M R) : FinH (Exit.then (y.wp G.P Q) Q) n .normal E M R := ⟨fun w hw => Fin.thenN (h.h w hw)⟩
theorem FinH.thenR {K : Act → World → Prop} (h : FinH Q n .ret E M R) : FinH (Exit.then K Q) n .ret E M R := ⟨fun w hw => Fin.thenR (h.h w hw)⟩
theorem FinH.thenX {K : Act → World → Prop} {id : Nat} (h : FinH Q n (.exit id) E M R) : FinH (Exit.then K Q) n (.exit id) E M R := ⟨fun w hw => Fin.thenX (h.h w hw)⟩
theorem FinH.blkN {id : Nat} (h : FinH Q n .normal E M R) : FinH (Exit.inBlock id Q) n .normal E M R := ⟨fun w hw => Fin.blkN (h.h w hw)⟩
theorem FinH.blkR {id : Nat} (h : FinH Q n .ret E M R) : FinH (Exit.inBlock id Q) n .ret E M R := ⟨fun w hw => Fin.blkR (h.h w hw)⟩
theorem FinH.blkX {id : Nat} (h : FinH Q n .normal E M R) : FinH (Exit.inBlock id Q) n (.exit id) E M R := ⟨fun w hw => Fin.blkX (h.h w hw)⟩
theorem FinH.blkY {id id' : Nat} (hne : Nat.beq id' id = false) (h : FinH Q n (.exit id') E M R) : FinH (Exit.inBlock id Q) n (.exit id') E M R := ⟨fun w hw => Fin.blkY hne (h.h w hw)⟩
theorem FinH.ngN (h : FinH Q n .normal E M R) : FinH (Exit.noGoto Q) n .normal E M R := ⟨fun w hw => Fin.ngN (h.h w hw)⟩
theorem FinH.ngR (h : FinH Q n .ret E M R) : FinH (Exit.noGoto Q) n .ret E M R := ⟨fun w hw => Fin.ngR (h.h w hw)⟩
theorem FinH.ngX {id : Nat} (h : FinH Q n (.exit id) E M R) : FinH (Exit.noGoto Q) n (.exit id) E M R := ⟨fun w hw => Fin.ngX (h.h w hw)⟩
theorem OpsH.nil (h : FinH Q n .normal E M R) : OpsH ops Q n [] E M R := ⟨fun w hw => Ops.nil (h.h w hw)⟩
theorem OpsH.y_ (hy : Yl G n op E (Ok M R) v) (hd : (isQ op && Nat.blt d n) = true) (h : OpsH ops Q n rest ((d, v) :: E) M R) : OpsH ops Q n (⟨some d, op, ty, pos, aft, none⟩ :: rest) E M R :=
  ⟨fun w hw => Ops.y (M := .list Q w) (hy.mono (by rintro _ rfl; exact hw)) hd (h.h w hw)⟩
theorem OpsH.yg {j : Nat} {b : Bool} (hg : gdv ops E j = some b) (hy : Yl G n op E (Ok M R) v) (hd : (isQ op && Nat.blt d n) = true) (h : OpsH ops Q n rest ((d, v) :: E) M R) : OpsH ops Q n (⟨some d, op, ty, pos, aft, some (j, b)⟩ :: rest) E M R :=
  ⟨fun w hw => Ops.yg (M := .list Q w) hg (hy.mono (by rintro _ rfl; exact hw)) hd (h.h w hw)⟩
theorem OpsH.gs {j : Nat} {b b' : Bool} (hg : gdv ops E j = some b') (hb : b' = !b) (hd : Nat.blt d n = true) (h : OpsH ops Q n rest ((d, undef) :: E) M R) : OpsH ops Q n (⟨some d, op, ty, pos, aft, some (j, b)⟩ :: rest) E M R := ⟨fun w hw => Ops.gs hg hb hd (h.h w hw)⟩
theorem OpsH.gu {j : Nat} {b : Bool} (hg : gdu ops E j = true) (hd : Nat.blt d n = true) (h : OpsH ops Q n rest ((d, undef) :: E) M R) : OpsH ops Q n (⟨some d, op, ty, pos, aft, some (j, b)⟩ :: rest) E M R := ⟨fun w hw => Ops.gu hg hd (h.h w hw)⟩
theorem OpsH.e {K : World → Value → World → Prop} (he : ∀ w, Ok M R w → Eff G n op E w (K w)) (hd : Nat.blt d n = true) (h : ∀ w v w', Ok M R w → K w v w' → Ops G ops (.list Q w') n rest ((d, v) :: E)) : OpsH ops Q n (⟨some d, op, ty, pos, aft, none⟩ :: rest) E M R := ⟨fun w hw => Ops.e (he w hw) hd fun v w' hk => h w v w' hw hk⟩
theorem OpsH.e0 {K : World → Value → World → Prop} (he : ∀ w, Ok M R w → Eff G n op E w (K w)) (h : ∀ w v w', Ok M R w → K w v w' → Ops G ops (.list Q w') n rest E) : OpsH ops Q n (⟨none, op, ty, pos, aft, none⟩ :: rest) E M R := ⟨fun w hw => Ops.e0 (he w hw) fun v w' hk => h w v w' hw hk⟩
theorem OpsH.der (p : World → Prop) (hp : ∀ w', (∀ r, r ∈ R → r w') → p w') (h : OpsH ops Q n l E M (p :: R)) : OpsH ops Q n l E M R := ⟨fun w hw => h.h w (hw.der hp)⟩
theorem CdH.der {c : Code} (p : World → Prop) (hp : ∀ w', (∀ r, r ∈ R → r w') → p w') (h : CdH Q n c E M (p :: R)) : CdH Q n c E M R := ⟨fun w hw => h.h w (hw.der hp)⟩
theorem OpsH.sub {E' : Env} (hE : Sub E E') (hM : M'.Sublist M) (hR : ∀ p, p ∈ R' → p ∈ R) (h : OpsH ops Q n l E' M' R') : OpsH ops Q n l E M R := ⟨fun w hw => Ops.sub hE (h.h w (hw.sub hM hR))⟩
theorem CdH.sub {c : Code} {E' : Env} (hE : Sub E E') (hM : M'.Sublist M) (hR : ∀ p, p ∈ R' → p ∈ R) (h : CdH Q n c E' M' R') : CdH Q n c E M R := ⟨fun w hw => Cd.sub hE (h.h w (hw.sub hM hR))⟩
structure HE {β : Type} (n : Nat) (op : Op) (E : Env) (M : List Res) (R : List (World → Prop)) (φ : β → Prop) (vf : β → Value) (Mf : β → List Res) (Rf : β → List (World → Prop)) : Prop where
  h : ∀ w, Ok M R w → Eff G n op E w (fun v w' => ∃ x, φ x ∧ v = vf x ∧ Ok (Mf x) (Rf x) w')
structure HE0 {β : Type} (n : Nat) (op : Op) (E : Env) (M : List Res) (R : List (World → Prop)) (φ : β → Prop) (Mf : β → List Res) (Rf : β → List (World → Prop)) : Prop where
  h : ∀ w, Ok M R w → Eff G n op E w (fun _ w' => ∃ x, φ x ∧ Ok (Mf x) (Rf x) w')
section
variable {β : Type} {φ : β → Prop} {vf : β → Value} {Mf : β → List Res} {Rf : β → List (World → Prop)}
theorem OpsH.he (he : HE n op E M R φ vf Mf Rf) (hd : Nat.blt d n = true) (h : ∀ x, φ x → OpsH ops Q n rest ((d, vf x) :: E) (Mf x) (Rf x)) : OpsH ops Q n (⟨some d, op, ty, pos, aft, none⟩ :: rest) E M R :=
  OpsH.e (fun w hw => he.h w hw) hd fun w v w' hw ⟨x, h1, h2, h3⟩ => by subst h2; exact (h x h1).h w' h3
theorem OpsH.he0 (he : HE0 n op E M R φ Mf Rf) (h : ∀ x, φ x → OpsH ops Q n rest E (Mf x) (Rf x)) : OpsH ops Q n (⟨none, op, ty, pos, aft, none⟩ :: rest) E M R :=
  OpsH.e0 (fun w hw => he.h w hw) fun _w _v w' _hw ⟨x, h1, h3⟩ => (h x h1).h w' h3
end
theorem blk_lt {w w' : World} {cs : List Value} {T : TypeId} (hn : New w w' cs T) : ∀ k, (Res.blk w.heap.size cs T).F k → w.heap.size ≤ k ∧ k < w'.heap.size := fun k hk => by
  have : k = w.heap.size := hk
  have := hn.size; omega
theorem HE.alloc {ti : TI} (cs : List Value) (ht : G.ty t = some ti) (hz : ti.zero.cells.toList = cs) : HE n (.alloc t) E M R (fun _ : Nat => True) (fun b => .pointer (some ⟨b, 0, none⟩)) (fun b => .blk b cs t :: M) (fun _ => R) :=
  ⟨fun w hw => (Eff.alloc ht).mono fun v w' ⟨e, hn⟩ => by rw [hz] at hn; exact ⟨w.heap.size, trivial, e, hw.push hn.ext hn.blk (blk_lt hn)⟩⟩
theorem HE.box (cs : List Value) (hx : ev E x = some v) (hcs : v.cells = cs.toArray) : HE n (.box t x) E M R (fun _ : Nat => True) (fun b => .pointer (some ⟨b, 0, none⟩)) (fun b => .blk b cs t :: M) (fun _ => R) :=
  ⟨fun w hw => (Eff.box hx hcs).mono fun _v _w' ⟨e, hn⟩ => ⟨w.heap.size, trivial, e, hw.push hn.ext hn.blk (blk_lt hn)⟩⟩
theorem HE.bslice {e len : Nat} {parts : List (Nat × Operand)} {vs : List Value} (cs : List Value) (hv : evs E (parts.map (·.2)) = some vs)
    (hr : ∀ w, (Instr.buildSlice t len ((parts.map (·.1)).zip vs).toArray).run G.P w = .ok (.slice (some ⟨w.heap.size, 0, none⟩) len len) (w.alloc (.cells cs.toArray e))) :
    HE n (.buildSlice t len parts.toArray) E M R (fun _ : Nat => True) (fun b => .slice (some ⟨b, 0, none⟩) len len) (fun b => .blk b cs e :: M) (fun _ => R) :=
  ⟨fun w hw => (Eff.buildSlice hv (hr w)).mono fun _v _w' ⟨e1, hn⟩ => ⟨w.heap.size, trivial, e1, hw.push hn.ext hn.blk (blk_lt hn)⟩⟩
theorem OpsH.alloc {ti : TI} (cs : List Value) (ht : G.ty t = some ti) (hz : ti.zero.cells.toList = cs) (hd : Nat.blt d n = true) (h : ∀ b, OpsH ops Q n rest ((d, .pointer (some ⟨b, 0, none⟩)) :: E) (.blk b cs t :: M) R) : OpsH ops Q n (⟨some d, .alloc t, ty, pos, aft, none⟩ :: rest) E M R :=
  OpsH.he (HE.alloc cs ht hz) hd fun b _ => h b
theorem OpsH.box (cs : List Value) (hx : ev E x = some v) (hcs : v.cells = cs.toArray) (hd : Nat.blt d n = true) (h : ∀ b, OpsH ops Q n rest ((d, .pointer (some ⟨b, 0, none⟩)) :: E) (.blk b cs t :: M) R) : OpsH ops Q n (⟨some d, .box t x, ty, pos, aft, none⟩ :: rest) E M R :=
  OpsH.he (HE.box cs hx hcs) hd fun b _ => h b
theorem OpsH.bslice {e len : Nat} {parts : List (Nat × Operand)} {vs : List Value} (cs : List Value) (hv : evs E (parts.map (·.2)) = some vs)
    (hr : ∀ w, (Instr.buildSlice t len ((parts.map (·.1)).zip vs).toArray).run G.P w = .ok (.slice (some ⟨w.heap.size, 0, none⟩) len len) (w.alloc (.cells cs.toArray e))) (hd : Nat.blt d n = true) (h : ∀ b, OpsH ops Q n rest ((d, .slice (some ⟨b, 0, none⟩) len len) :: E) (.blk b cs e :: M) R) : OpsH ops Q n (⟨some d, .buildSlice t len parts.toArray, ty, pos, aft, none⟩ :: rest) E M R :=
  OpsH.he (HE.bslice cs hv hr) hd fun b _ => h b
theorem blk_upd {w w' : World} {b T : Nat} {old cs : List Value} (hw : Ok M R w) (hM : Up (.blk b old T) (.blk b cs T) M M') (hb : Blk w' b cs T) (hc : Chg (fun k => k = b) w w') : Ok M' R w' :=
  hw.upd hM hc hb (fun k hk => by
    have : k = b := hk
    have := (hw.m _ hM.mem).2 b rfl
    have := hc.size
    exact ⟨by omega, fun _ => hk⟩)
theorem HE0.storeB {ti : TI} {b T : Nat} {old : List Value} (cs : List Value) (ht : G.ty t = some ti) (hx : ev E x = some (.pointer (some ⟨b, 0, none⟩))) (hy : ev E y = some v) (hcs : v.cells = cs.toArray) (hs : ti.size = cs.length) (hv : (cs.all fun u => u.oneCell') = true)
    (hM : Up (.blk b old T) (.blk b cs T) M M') (hl : Nat.beq old.length cs.length = true) : HE0 n (.store t x y) E M R (fun _ : Unit => True) (fun _ => M') (fun _ => R) :=
  ⟨fun _w hw => (Eff.storeB ht hx hy hcs hs (fun u hu => List.all_eq_true.1 hv u hu) (hw.m _ hM.mem).1 (Nat.eq_of_beq_eq_true hl)).mono fun _ _w' ⟨hb, hc, _⟩ => ⟨(), trivial, blk_upd hw hM hb hc⟩⟩
theorem OpsH.storeB {ti : TI} {b T : Nat} {old : List Value} (cs : List Value) (ht : G.ty t = some ti) (hx : ev E x = some (.pointer (some ⟨b, 0, none⟩))) (hy : ev E y = some v) (hcs : v.cells = cs.toArray) (hs : ti.size = cs.length) (hv : (cs.all fun u => u.oneCell') = true)
    (hM : Up (.blk b old T) (.blk b cs T) M M') (hl : Nat.beq old.length cs.length = true) (h : OpsH ops Q n rest E M' R) : OpsH ops Q n (⟨none, .store t x y, ty, pos, aft, none⟩ :: rest) E M R :=
  OpsH.he0 (HE0.storeB cs ht hx hy hcs hs hv hM hl) fun _ _ => h
theorem HE0.storeL {ti : TI} {b j T : Nat} {old cs : List Value} (ht : G.ty t = some ti) (hs : ti.size = 1) (hx : ev E x = some (.pointer (some ⟨b, j, none⟩))) (hy : ev E y = some v) (hv : v.oneCell' = true)
    (hM : Up (.blk b old T) (.blk b cs T) M M') (hcs : SetL v old j cs) : HE0 n (.store t x y) E M R (fun _ : Unit => True) (fun _ => M') (fun _ => R) :=
  ⟨fun w hw => (Eff.storeW ht hs hx hy hv (hw.m _ hM.mem).1 hcs.eq.2).mono fun _ w' ⟨hb, hc, _⟩ => by
    rw [hcs.eq.1] at hb; exact ⟨(), trivial, blk_upd hw hM hb hc⟩⟩
theorem OpsH.storeL {ti : TI} {b j T : Nat} {old cs : List Value} (ht : G.ty t = some ti) (hs : ti.size = 1) (hx : ev E x = some (.pointer (some ⟨b, j, none⟩))) (hy : ev E y = some v) (hv : v.oneCell' = true)
    (hM : Up (.blk b old T) (.blk b cs T) M M') (hcs : SetL v old j cs) (h : OpsH ops Q n rest E M' R) : OpsH ops Q n (⟨none, .store t x y, ty, pos, aft, none⟩ :: rest) E M R :=
  OpsH.he0 (HE0.storeL ht hs hx hy hv hM hcs) fun _ _ => h
theorem HE.app {Mf : Value → List Res} {ti te : TI} {B T s m bk Tb : Nat} {xs cs : List Value} (hx : ev E x = some v) (hy : ev E y = some (.slice (some ⟨bk, 0, none⟩) 1 1)) (hM : ∀ v', Up (.own B T s v m xs) (.own B T s v' (m + 1) (xs ++ cs)) M (Mf v')) (hb : Up (.blk bk cs Tb) (.blk bk cs Tb) M M')
    (ht : G.ty t = some ti) (he : ti.elem = some T) (hte : G.ty T = some te) (hs : te.size = s) (hzs : Nat.beq te.zero.cells.size te.size = true) (hsz : Nat.blt 0 te.size = true) (hbt : Nat.ble te.bytes 1000 = true) (hcl : Nat.beq cs.length s = true) (h1 : (cs.all fun u => u.oneCell') = true) (hlen : m ≤ 100000000000) (hB : ∀ w, Ok M R w → B ≤ w.heap.size) :
    HE n (.call ⟨.builtin .append, #[x, y], #[t, t]⟩) E M R (fun _ : Value => True) (fun v' => v') Mf (fun _ => R) :=
  ⟨fun w hw => by
    subst hs
    have hm := (hw.m _ (hM undef).mem)
    have hbk : Blk w bk cs Tb := (hw.m _ hb.mem).1
    have hcl' := Nat.eq_of_beq_eq_true hcl
    have hbt' := Nat.le_of_ble_eq_true hbt
    refine (Eff.appendB (G := G) (news := cs) ht he hte (Nat.eq_of_beq_eq_true hzs) (by simpa using hsz) hx hm.1 hy (by rw [hcl']; omega) (fun j u hj => by rw [Nat.zero_add]; exact hbk.cell hj) (fun u hu => List.all_eq_true.1 h1 u hu) (by unfold maxLen; omega) (by have := Nat.mul_le_mul (show m + 1 ≤ 100000000001 by omega) hbt'; omega) (hB w hw)).mono
      fun v' w' ⟨ho, hc, hob⟩ => ⟨v', trivial, rfl, hw.upd (hM v') hc ho fun k hk => ⟨(ho.lt k hk).2, fun hlt => ?_⟩⟩
    rcases hob with e | e
    · show v.ownBlock = some k
      rw [← e]; exact hk
    · have hk' : v'.ownBlock = some k := hk
      rw [e] at hk'; cases hk'; omega⟩
theorem Yl.loadH {ti : TI} {b o : Nat} (ht : G.ty t = some ti) (ha : ti.agg = false) (hx : ev E x = some (.pointer (some ⟨b, o, none⟩))) (h : ∀ w, Ld w b o v M R) : Yl G n (.load t x) E (Ok M R) v :=
  Yl.load ht ha hx fun w hw => (h w).ok (fun q hq => (hw.m q hq).1) (fun _p hp => hw.get hp)
theorem Yl.loadB {ti : TI} {b T : Nat} {cs : List Value} (ht : G.ty t = some ti) (ha : ti.agg = true) (hx : ev E x = some (.pointer (some ⟨b, 0, none⟩))) (hs : Nat.beq cs.length ti.size = true) (hM : Up (.blk b cs T) (.blk b cs T) M M') : Yl G n (.load t x) E (Ok M R) (.agg cs.toArray) :=
  Yl.loadA ht ha rfl hx (Nat.eq_of_beq_eq_true hs) fun w hw j hj => by
    have hb : Blk w b cs T := (hw.m _ hM.mem).1
    have hl : j < cs.length := by rw [Nat.eq_of_beq_eq_true hs]; exact hj
    rw [Nat.zero_add, List.getElem?_eq_getElem hl]
    exact hb.cell (List.getElem?_eq_getElem hl)
theorem Yl.loadC {ti : TI} {b o : Nat} {cs : List Value} (ht : G.ty t = some ti) (ha : ti.agg = true) (hx : ev E x = some (.pointer (some ⟨b, o, none⟩))) (hR : Cs b o cs ∈ R) (hs : Nat.beq cs.length ti.size = true) : Yl G n (.load t x) E (Ok M R) (.agg cs.toArray) :=
  Yl.loadA ht ha rfl hx (Nat.eq_of_beq_eq_true hs) fun w hw j hj => hw.get hR j (by rw [Nat.eq_of_beq_eq_true hs]; exact hj)
theorem Yl.loadE {ti : TI} {b o s : Nat} {cs : List Value} {w0 : World} (ht : G.ty t = some ti) (ha : ti.agg = true) (hx : ev E x = some (.pointer (some ⟨b, o, none⟩))) (hR : Ext w0 ∈ R) (hs : ti.size = s) (hl : cs.length = s) (hc : ∀ j, j < s → w0.cell? ⟨b, o + j, none⟩ = cs[j]?) : Yl G n (.load t x) E (Ok M R) (.agg cs.toArray) :=
  Yl.loadA ht ha hs hx hl fun w hw j hj => by
    have h1 := hc j hj
    rw [List.getElem?_eq_getElem (by omega)] at h1 ⊢
    exact (show Ext w0 w from hw.get hR).cell h1
theorem OpsH.call {f : Nat} {args : List Operand} {tys : Array TypeId} {vs : List Value} (p : Value → World → Prop) (hf : G.fb[f]? = some true) (ha : evs E args = some vs) (hd : Nat.blt d n = true)
    (hc : ∀ w, Ok M R w → Calls G.P f vs.toArray w (fun e w' => ∃ v, e = .returned v ∧ Ext w w' ∧ ∀ w2, Chg (Mb M) w' w2 → p v w2))
    (h : ∀ v, OpsH ops Q n rest ((d, v) :: E) M (p v :: R)) : OpsH ops Q n (⟨some d, .call ⟨.value (.func f), args.toArray, tys⟩, ty, pos, aft, none⟩ :: rest) E M R :=
  ⟨fun w hw => Ops.call hf ha hd (hc w hw) fun _e w' ⟨v, e1, hx, hp⟩ => ⟨v, e1, (h v).h w' ((hw.ext hx).add hp)⟩⟩
theorem OpsH.call1 {f : Nat} {args : List Operand} {tys : Array TypeId} {vs : List Value} (hf : G.fb[f]? = some true) (ha : evs E args = some vs) (hd : Nat.blt d n = true)
    (hc : ∀ w, Ok M R w → Calls G.P f vs.toArray w (fun e w' => e = .returned v ∧ Ext w w'))
    (h : OpsH ops Q n rest ((d, v) :: E) M R) : OpsH ops Q n (⟨some d, .call ⟨.value (.func f), args.toArray, tys⟩, ty, pos, aft, none⟩ :: rest) E M R :=
  ⟨fun w hw => Ops.call hf ha hd (hc w hw) fun _e w' ⟨e1, hx⟩ => ⟨v, e1, h.h w' (hw.ext hx)⟩⟩
theorem OpsH.call1g {f j : Nat} {b : Bool} {args : List Operand} {tys : Array TypeId} {vs : List Value} (hg : gdv ops E j = some b) (hf : G.fb[f]? = some true) (ha : evs E args = some vs) (hd : Nat.blt d n = true)
    (hc : ∀ w, Ok M R w → Calls G.P f vs.toArray w (fun e w' => e = .returned v ∧ Ext w w'))
    (h : OpsH ops Q n rest ((d, v) :: E) M R) : OpsH ops Q n (⟨some d, .call ⟨.value (.func f), args.toArray, tys⟩, ty, pos, aft, some (j, b)⟩ :: rest) E M R :=
  ⟨fun w hw => Ops.callg hg hf ha hd (hc w hw) fun _e w' ⟨e1, hx⟩ => ⟨v, e1, h.h w' (hw.ext hx)⟩⟩
def Fresh {β : Type} (V : Nat → World → β → Prop) : Prop := ∀ {lo : Nat} {x : β} {S : Nat → Prop} {w w' : World}, V lo w x → Chg S w w' → (∀ k, k < w.heap.size → lo ≤ k → ¬ S k) → V lo w' x
theorem HE.callF {β : Type} {V : Nat → World → β → Prop} (tf : β → Value) {f : Nat} {args : List Operand} {tys : Array TypeId} {vs : List Value} (hV : Fresh V) (hf : G.fb[f]? = some true) (ha : evs E args = some vs)
    (hc : ∀ w, Ok M R w → Calls G.P f vs.toArray w (fun e w' => (∃ x, e = .returned (tf x) ∧ V w.heap.size w' x) ∧ Ext w w')) :
    HE n (.call ⟨.value (.func f), args.toArray, tys⟩) E M R (fun x : Nat × β => ∃ w, Ok M R w ∧ x.1 = w.heap.size) (fun x => tf x.2) (fun _ => M) (fun x => (fun w => V x.1 w x.2) :: R) :=
  ⟨fun w hw => (Eff.call hf ha (hc w hw) (fun e w' h => by obtain ⟨⟨x, e1, _⟩, _⟩ := h; exact ⟨_, e1⟩)).mono fun v w' ⟨⟨x, e1, hv⟩, hx⟩ => by
    cases e1
    refine ⟨(w.heap.size, x), ⟨w, hw, rfl⟩, rfl, (hw.ext hx).add fun w2 h2 => hV hv h2 fun k _ hk ⟨q, hq, hk'⟩ => ?_⟩
    have := (hw.m q hq).2 k hk'; omega⟩
theorem HE.call {β : Type} {φ : β → Prop} {Mf : β → List Res} {Rf : β → List (World → Prop)} (tf : β → Value) {f : Nat} {args : List Operand} {tys : Array TypeId} {vs : List Value} (hf : G.fb[f]? = some true) (ha : evs E args = some vs)
    (hc : ∀ w, Ok M R w → Calls G.P f vs.toArray w (fun e w' => ∃ x, e = .returned (tf x) ∧ φ x ∧ Ok (Mf x) (Rf x) w')) : HE n (.call ⟨.value (.func f), args.toArray, tys⟩) E M R φ tf Mf Rf :=
  ⟨fun w hw => (Eff.call hf ha (hc w hw) (fun e w' h => by obtain ⟨x, e1, _⟩ := h; exact ⟨_, e1⟩)).mono fun v w' ⟨x, e1, h1, h2⟩ => by cases e1; exact ⟨x, h1, rfl, h2⟩⟩
theorem OpsH.pure {φ : Prop} (hp : ∀ w, Ok M R w → φ) (h : φ → OpsH ops Q n l E M R) : OpsH ops Q n l E M R := ⟨fun w hw => (h (hp w hw)).h w hw⟩
theorem CdH.pure {φ : Prop} {c : Code} (hp : ∀ w, Ok M R w → φ) (h : φ → CdH Q n c E M R) : CdH Q n c E M R := ⟨fun w hw => (h (hp w hw)).h w hw⟩
theorem FinH.pure {φ : Prop} {e : Exit} (hp : ∀ w, Ok M R w → φ) (h : φ → FinH Q n e E M R) : FinH Q n e E M R := ⟨fun w hw => (h (hp w hw)).h w hw⟩
theorem OpsH.freeze {q : Res} (p : World → Prop) (hr : Rm q M M') (hp : ∀ w', q.P w' → (∀ r, r ∈ R → r w') → p w') (h : OpsH ops Q n l E M' (p :: R)) : OpsH ops Q n l E M R := ⟨fun w hw => h.h w (hw.freeze' hr hp)⟩
theorem CdH.freeze {q : Res} {c : Code} (p : World → Prop) (hr : Rm q M M') (hp : ∀ w', q.P w' → (∀ r, r ∈ R → r w') → p w') (h : CdH Q n c E M' (p :: R)) : CdH Q n c E M R := ⟨fun w hw => h.h w (hw.freeze' hr hp)⟩
/-! a region that draws its order and holds effects, the last one of which waits for all others -/
structure OpsS (ops : Array Oper) (Q : Exit → Act → World → Prop) (Mc : List Res) (Rc : List (World → Prop)) (n : Nat) (l : List Oper) (E : Env) (M : List Res) (R : List (World → Prop)) : Prop where
  h : ∀ w, Ok M R w → Ops G ops (.mix true Q (Ok Mc Rc) w) n l E
theorem CdH.regionS {id : Nat} {l : List Oper} (ord : List Nat) (z : Nat) (Mc : List Res) (Rc : List (World → Prop)) (hB : mixSB l ord z = true) (hM : Mc.Sublist M) (hR : ∀ p, p ∈ Rc → p ∈ R) (h : OpsS l.toArray Q Mc Rc n (pick l (ord ++ [z])) E M R) : CdH Q n (.region id l.toArray true) E M R :=
  ⟨fun w hw => Cd.regionS ord z (Ok Mc Rc) hB (hw.drew.sub hM hR) (h.h w.drew hw.drew)⟩
section
variable {Mc : List Res} {Rc : List (World → Prop)} {β : Type} {φ : β → Prop} {vf : β → Value} {Mf : β → List Res} {Rf : β → List (World → Prop)}
theorem OpsS.y_ (hy : Yl G n op E (Ok Mc Rc) v) (hd : (isQ op && Nat.blt d n) = true) (h : OpsS ops Q Mc Rc n rest ((d, v) :: E) M R) : OpsS ops Q Mc Rc n (⟨some d, op, ty, pos, aft, none⟩ :: rest) E M R :=
  ⟨fun w hw => Ops.y (M := .mix true Q (Ok Mc Rc) w) hy hd (h.h w hw)⟩
theorem OpsS.he (he : HE n op E M R φ vf Mf Rf) (hd : (!isQ op && Nat.blt d n) = true) (hM : ∀ x, Mc.Sublist (Mf x)) (hR : ∀ x p, p ∈ Rc → p ∈ Rf x) (h : ∀ x, φ x → OpsS ops Q Mc Rc n rest ((d, vf x) :: E) (Mf x) (Rf x)) : OpsS ops Q Mc Rc n (⟨some d, op, ty, pos, aft, none⟩ :: rest) E M R :=
  ⟨fun w hw => Ops.m (he.h w hw) hd fun v w' ⟨x, h1, h2, h3⟩ => by subst h2; exact ⟨h3.sub (hM x) (hR x), (h x h1).h w' h3⟩⟩
theorem OpsS.hez0 (he : HE0 n op E M R φ Mf Rf) (hd : isQ op = false) (h : ∀ x, φ x → FinH Q n .normal E (Mf x) (Rf x)) : OpsS ops Q Mc Rc n [⟨none, op, ty, pos, aft, none⟩] E M R :=
  ⟨fun w hw => Ops.mz0 (he.h w hw) hd fun _v w' ⟨x, h1, h3⟩ => Ops.nilM ((h x h1).h w' h3)⟩
theorem OpsS.is (h : OpsS ops Q Mc Rc n l E M R) : OpsS ops Q Mc Rc n l E M R := h
variable {gd : Option (Nat × Bool)} {dd : Option Nat} {t2 : TypeId}
theorem OpsS.isBin {bo : BinOp} (h : OpsS ops Q Mc Rc n (⟨dd, .binOp bo t x y t2, ty, pos, aft, gd⟩ :: rest) E M R) : OpsS ops Q Mc Rc n (⟨dd, .binOp bo t x y t2, ty, pos, aft, gd⟩ :: rest) E M R := h
theorem OpsS.isIdx (h : OpsS ops Q Mc Rc n (⟨dd, .indexAddr t x y, ty, pos, aft, gd⟩ :: rest) E M R) : OpsS ops Q Mc Rc n (⟨dd, .indexAddr t x y, ty, pos, aft, gd⟩ :: rest) E M R := h
theorem OpsS.isField {f : Nat} (h : OpsS ops Q Mc Rc n (⟨dd, .fieldAddr t x f, ty, pos, aft, gd⟩ :: rest) E M R) : OpsS ops Q Mc Rc n (⟨dd, .fieldAddr t x f, ty, pos, aft, gd⟩ :: rest) E M R := h
theorem OpsS.isLoad (h : OpsS ops Q Mc Rc n (⟨dd, .load t x, ty, pos, aft, gd⟩ :: rest) E M R) : OpsS ops Q Mc Rc n (⟨dd, .load t x, ty, pos, aft, gd⟩ :: rest) E M R := h
end
theorem CdH.regionQ {id : Nat} {l : List Oper} (hB : Region.lexB .any l.toArray = true) (h : Ops G l.toArray (.quiet (fun a' => ∀ w', Ok M R w' → Q .normal a' w') (Ok M R)) n l E) : CdH Q n (.region id l.toArray true) E M R :=
  ⟨fun _w hw => Cd.regionC (Ok M R) hB hw.drew h⟩
theorem CdH.regionQq {id : Nat} {l : List Oper} (_ : (l.all fun o => isQ o.op) = true) (hB : Region.lexB .any l.toArray = true) (h : Ops G l.toArray (.quiet (fun a' => ∀ w', Ok M R w' → Q .normal a' w') (Ok M R)) n l E) : CdH Q n (.region id l.toArray true) E M R := CdH.regionQ hB h
theorem Ops.nilH (h : FinH Q n .normal E M R) : Ops G ops (.quiet (fun a' => ∀ w', Ok M R w' → Q .normal a' w') (Ok M R)) n [] E := ⟨fun a ha w' hw => (h.h w' hw).h a ha⟩
theorem Ops.callH {K : Act → Prop} {f : Nat} {args : List Operand} {tys : Array TypeId} {vs : List Value} (hf : G.fb[f]? = some true) (ha : evs E args = some vs) (hd : Nat.blt d n = true) (hc : ∀ w, Ok M R w → Calls G.P f vs.toArray w (fun e w' => e = .returned v ∧ Ext w w'))
    (h : Ops G ops (.quiet K (Ok M R)) n rest ((d, v) :: E)) : Ops G ops (.quiet K (Ok M R)) n (⟨some d, .call ⟨.value (.func f), args.toArray, tys⟩, ty, pos, aft, none⟩ :: rest) E :=
  Ops.callQ hf ha hd (fun w hw => (hc w hw).mono fun _e _w' ⟨e1, hx⟩ => ⟨e1, hw.ext hx⟩) h
theorem Ops.callHg {K : Act → Prop} {f j : Nat} {b : Bool} {args : List Operand} {tys : Array TypeId} {vs : List Value} (hg : gdv ops E j = some b) (hf : G.fb[f]? = some true) (ha : evs E args = some vs) (hd : Nat.blt d n = true) (hc : ∀ w, Ok M R w → Calls G.P f vs.toArray w (fun e w' => e = .returned v ∧ Ext w w'))
    (h : Ops G ops (.quiet K (Ok M R)) n rest ((d, v) :: E)) : Ops G ops (.quiet K (Ok M R)) n (⟨some d, .call ⟨.value (.func f), args.toArray, tys⟩, ty, pos, aft, some (j, b)⟩ :: rest) E :=
  Ops.callQg hg hf ha hd (fun w hw => (hc w hw).mono fun _e _w' ⟨e1, hx⟩ => ⟨e1, hw.ext hx⟩) h
def NextH {σ : Type} (n : Nat) (Ei : σ → Env) (Mi : σ → List Res) (Ri : σ → List (World → Prop)) (I : σ → Prop) (μ : σ → Nat) (s : σ) : Act → World → Prop :=
  LoopNext n Ei (fun s w => I s ∧ Ok (Mi s) (Ri s) w) μ s
theorem CdH.loop {σ : Type} {c : Code} (Ei : σ → Env) (Mi : σ → List Res) (Ri : σ → List (World → Prop)) (I : σ → Prop) (μ : σ → Nat) (s0 : σ) (hE : Sub E (Ei s0)) (hM : (Mi s0).Sublist M) (hR : ∀ p, p ∈ Ri s0 → p ∈ R) (hI : I s0)
    (round : ∀ s, I s → CdH (Exit.then (NextH n Ei Mi Ri I μ s) Q) n c (Ei s) (Mi s) (Ri s)) : CdH Q n (.loop c) E M R :=
  ⟨fun _w hw => Cd.loop Ei (fun s w => I s ∧ Ok (Mi s) (Ri s) w) μ s0 hE ⟨hI, hw.sub hM hR⟩ fun s w ⟨h1, h2⟩ => (round s h1).h w h2⟩
theorem FinH.next {σ : Type} {Ei : σ → Env} {Mi : σ → List Res} {Ri : σ → List (World → Prop)} {I : σ → Prop} {μ : σ → Nat} {s : σ} (s' : σ) (hE : Sub E (Ei s')) (hM : (Mi s').Sublist M) (hR : ∀ p, p ∈ Ri s' → p ∈ R) (hI : I s') (hμ : μ s' < μ s) :
    FinH (Exit.then (NextH n Ei Mi Ri I μ s) Q) n .normal E M R := ⟨fun _w hw => Fin.next s' hE ⟨hI, hw.sub hM hR⟩ hμ⟩
end
section
variable {fn : Func} {Rp : Ending → World → Prop} {n : Nat} {E : Env} {M M' : List Res} {R : List (World → Prop)} {v x : Value} {t u : Nat}
theorem FinH.ret0 (hr : fn.results = #[]) (hR : ∀ w, Ok M R w → Rp (.returned (.tuple #[])) w) : FinH (bodyPost G.P fn Rp) n .ret E M R := ⟨fun w hw => Fin.ret0 hr (hR w hw)⟩
theorem FinH.end0 (hr : fn.results = #[]) (hR : ∀ w, Ok M R w → Rp (.returned (.tuple #[])) w) : FinH (bodyPost G.P fn Rp) n .normal E M R := ⟨fun w hw => Fin.end0 hr (hR w hw)⟩
theorem FinH.ret1 (hr : fn.results = #[.tmp t]) (hv : lk E t = some v) (hR : ∀ w, Ok M R w → Rp (.returned v) w) : FinH (bodyPost G.P fn Rp) n .ret E M R := ⟨fun w hw => Fin.ret1 hr hv (hR w hw)⟩
theorem FinH.ret2 (hr : fn.results = #[.tmp t, .tmp u]) (hv : lk E t = some v) (hx : lk E u = some x) (hR : ∀ w, Ok M R w → Rp (.returned (.tuple #[v, x])) w) : FinH (bodyPost G.P fn Rp) n .ret E M R := ⟨fun w hw => Fin.ret2 hr hv hx (hR w hw)⟩
theorem FinH.ret1c {e : Exit} {a T Tb b s : Nat} {ti : TI} {cs : List Value} (he : e = .ret ∨ e = .normal) (hr : fn.results = #[.cell a T]) (ha : lk E a = some (.pointer (some ⟨b, 0, none⟩))) (hT : G.ty T = some ti) (hag : ti.agg = true) (hsz : ti.size = s) (hM : Up (.blk b cs Tb) (.blk b cs Tb) M M') (hl : cs.length = s) (hR : ∀ w, Ok M R w → Rp (.returned (.agg cs.toArray)) w) : FinH (bodyPost G.P fn Rp) n e E M R :=
  ⟨fun w hw => Fin.ret1c he hr ha hT hag hsz (hw.m _ hM.mem).1 hl (hR w hw)⟩
theorem FinH.ret2c {e : Exit} {a T Tb b s : Nat} {ti : TI} {cs : List Value} (he : e = .ret ∨ e = .normal) (hr : fn.results = #[.cell a T, .tmp t]) (ha : lk E a = some (.pointer (some ⟨b, 0, none⟩))) (hT : G.ty T = some ti) (hag : ti.agg = true) (hsz : ti.size = s) (hM : Up (.blk b cs Tb) (.blk b cs Tb) M M') (hl : cs.length = s) (hv : lk E t = some v) (hR : ∀ w, Ok M R w → Rp (.returned (.tuple #[.agg cs.toArray, v])) w) : FinH (bodyPost G.P fn Rp) n e E M R :=
  ⟨fun w hw => Fin.ret2c he hr ha hT hag hsz (hw.m _ hM.mem).1 hl hv (hR w hw)⟩
end
theorem enterH {f : FuncId} {fn : Func} {c : Code} {n : Nat} {l : List Value} {w : World} {Rp : Ending → World → Prop} {M : List Res} {R : List (World → Prop)} (hf : G.P.funcs[f]? = some fn) (hb : fn.body = some c) (hn : fn.ntmps = n) (hl : Nat.ble l.length n = true) (hw : Ok M R w)
    (h : CdH (bodyPost G.P fn Rp) n c (argE 0 l) M R) : Calls G.P f l.toArray w Rp := enter (G := G) hf hb hn hl (h.h w hw)
theorem subR_nil {R : List (World → Prop)} : ∀ p, p ∈ ([] : List (World → Prop)) → p ∈ R := fun _ h => by cases h
theorem subR_cons {p : World → Prop} {R R' : List (World → Prop)} (h : p ∈ R) (hr : ∀ x, x ∈ R' → x ∈ R) : ∀ x, x ∈ p :: R' → x ∈ R := fun x hx => (List.mem_cons.1 hx).elim (fun e => e ▸ h) (hr x)
section
variable {ops : Array Oper} {Q : Exit → Act → World → Prop} {n : Nat} {E : Env} {M M' : List Res} {R : List (World → Prop)} {rest l : List Oper} {op : Op} {d : Option Nat} {ty : TypeId} {pos : String} {aft : Array Edge} {gd : Option (Nat × Bool)} {v : Value} {x y z : Operand} {t t2 : TypeId} {C : World → Prop}
theorem Yl.fieldZ {ti : TI} {f o bk : Nat} (ht : G.ty t = some ti) (ho : ti.offs[f]? = some o) (hx : ev E x = some (.pointer (some ⟨bk, 0, none⟩))) : Yl G n (.fieldAddr t x f) E C (.pointer (some ⟨bk, o, none⟩)) := by
  have := Yl.field (G := G) (n := n) (E := E) (C := C) ht ho hx
  rwa [Nat.zero_add] at this
theorem OpsH.is (h : OpsH ops Q n l E M R) : OpsH ops Q n l E M R := h
theorem CdH.is {c : Code} (h : CdH Q n c E M R) : CdH Q n c E M R := h
theorem FinH.is {e : Exit} (h : FinH Q n e E M R) : FinH Q n e E M R := h
theorem OpsH.isG {jb : Nat × Bool} (h : OpsH ops Q n (⟨d, op, ty, pos, aft, some jb⟩ :: rest) E M R) : OpsH ops Q n (⟨d, op, ty, pos, aft, some jb⟩ :: rest) E M R := h
theorem OpsH.isBin {bo : BinOp} (h : OpsH ops Q n (⟨d, .binOp bo t x y t2, ty, pos, aft, gd⟩ :: rest) E M R) : OpsH ops Q n (⟨d, .binOp bo t x y t2, ty, pos, aft, gd⟩ :: rest) E M R := h
theorem OpsH.isIdx (h : OpsH ops Q n (⟨d, .indexAddr t x y, ty, pos, aft, gd⟩ :: rest) E M R) : OpsH ops Q n (⟨d, .indexAddr t x y, ty, pos, aft, gd⟩ :: rest) E M R := h
theorem OpsH.isField {f : Nat} (h : OpsH ops Q n (⟨d, .fieldAddr t x f, ty, pos, aft, gd⟩ :: rest) E M R) : OpsH ops Q n (⟨d, .fieldAddr t x f, ty, pos, aft, gd⟩ :: rest) E M R := h
theorem OpsH.isLoad (h : OpsH ops Q n (⟨d, .load t x, ty, pos, aft, gd⟩ :: rest) E M R) : OpsH ops Q n (⟨d, .load t x, ty, pos, aft, gd⟩ :: rest) E M R := h
theorem OpsH.isStore (h : OpsH ops Q n (⟨none, .store t x y, ty, pos, aft, gd⟩ :: rest) E M R) : OpsH ops Q n (⟨none, .store t x y, ty, pos, aft, gd⟩ :: rest) E M R := h
end
theorem Ok.start (w : World) : Ok [] [Ext w] w :=
  ⟨fun q h => absurd h (by simp), List.Pairwise.nil, fun p hp w' hc => by
    rw [List.mem_singleton] at hp; subst hp; exact hc.mono (fun k _ ⟨q, hq, _⟩ => absurd hq (by simp))⟩
end Go.Proofs.YtgbgnipidakdhaaGreatDoor
