/- More rules over the symbolic heap: structs and slices written out whole; rows of the call's own. -/
import Derived.Test.YtgbgnipidakdhaaGreatDoorJHp
namespace Go.Proofs.YtgbgnipidakdhaaGreatDoor
open Go.RowKit
inductive App : List Value → List Value → List Value → Prop
  | nil {b : List Value} : App [] b b
  | cons {x : Value} {a b c : List Value} : App a b c → App (x :: a) b (x :: c)
inductive Cells : List Value → List Value → Prop
  | nil : Cells [] []
  | agg {l vs cs out : List Value} : Cells vs cs → App l cs out → Cells (.agg l.toArray :: vs) out
  | one {v : Value} {vs cs : List Value} : Cells vs cs → Cells (v :: vs) (v :: cs)
def fillS (s : Nat) : List Value → List (Nat × Value) → Option (List Value)
  | cs, [] => some cs
  | cs, (i, v) :: r => bif (Nat.beq v.cells.toList.length s && Nat.ble (i * s + v.cells.toList.length) cs.length) then fillS s (layL cs (i * s) v.cells.toList) r else none
theorem fillS_of {s : Nat} : ∀ {parts : List (Nat × Value)} {cs c : List Value}, fillS s cs parts = some c → Instr.fill (fun i => some (i * s, s)) cs.toArray parts = some c.toArray
  | [], cs, c, h => by simp only [fillS, Option.some.injEq] at h; subst h; rfl
  | (i, v) :: r, cs, c, h => by
    simp only [fillS] at h
    unfold Instr.fill
    dsimp only at h ⊢
    cases hb : (Nat.beq v.cells.toList.length s && Nat.ble (i * s + v.cells.toList.length) cs.length) with
    | false => rw [hb] at h; cases h
    | true =>
      rw [hb] at h
      simp only [Bool.and_eq_true] at hb
      have h1 := Nat.eq_of_beq_eq_true hb.1
      have h2 := Nat.le_of_ble_eq_true hb.2
      have e1 : v.cells.size = s := by simpa using h1
      have e2 : ¬ i * s + v.cells.size > cs.toArray.size := by simpa using h2
      rw [if_neg (by simp [e1]; rw [e1] at e2; simpa using e2)]
      have h3 := fillS_of h
      rw [← h3]
      congr 1
      have := layL_eq v.cells.toList cs (i * s) 0
      rw [Nat.add_zero] at this
      rw [this, ← Array.foldl_toList, Array.toList_zipIdx]
def zrow (len s : Nat) (zs : List Value) : List Value := (List.range (len * s)).map fun i => zs.getD (i % zs.length) default
theorem run_bslice {t e len s : Nat} {ti te : TI} {parts : List (Nat × Value)} {cs : List Value} (w : World) (ht : G.ty t = some ti) (he : ti.elem = some e) (hte : G.ty e = some te) (hs : te.size = s) (hlen : Nat.ble (len * s) 16777216 = true) (hf : fillS s (zrow len s te.zero.cells.toList) parts = some cs) :
    (Instr.buildSlice t len parts.toArray).run G.P w = .ok (.slice (some ⟨w.heap.size, 0, none⟩) len len) (w.alloc (.cells cs.toArray e)) := by
  have h1 := (G.tyOk t ti ht).elem e he
  have h2 := (G.tyOk e te hte).size w
  have h3 := (G.tyOk e te hte).zeroV w
  rw [hs] at h2
  have h4 := fillS_of hf
  have h5 : ¬ len * s > 2 ^ 24 := by have := Nat.le_of_ble_eq_true hlen; omega
  by_cases h0 : len * s = 0
  · have e0 : (zrow len s te.zero.cells.toList).toArray = (Array.range (len * s)).map ((#[] : Array Value)[· % (#[] : Array Value).size]!) := by simp [zrow, h0]
    rw [e0] at h4
    simp [Instr.buildSlice, run_underlying h1, h2, h0, newRow] at h4 ⊢
    simp [h4]
  · have e0 : (zrow len s te.zero.cells.toList).toArray = (Array.range (len * s)).map (te.zero.cells[· % te.zero.cells.size]!) := by
      apply Array.ext'
      simp [zrow, List.getD_eq_getElem?_getD, Array.getElem!_eq_getD]
      skip
    rw [e0] at h4
    simp [Instr.buildSlice, run_underlying h1, h2, h0, h3, newRow, Nat.not_lt.2 (Nat.le_of_ble_eq_true hlen)] at h4 ⊢
    rw [h4]; simp
section
variable {ops : Array Oper} {Q : Exit → Act → World → Prop} {n : Nat} {E : Env} {M M' : List Res} {R : List (World → Prop)} {rest l : List Oper} {op : Op} {d : Nat} {ty : TypeId} {pos : String} {aft : Array Edge} {v : Value} {x y z : Operand} {t : TypeId} {C : World → Prop}
theorem Yl.buildC {s bt : Nat} {el : Option Nat} {os : List Nat} {zs cs : List Value} {ik : Option IntKind} {parts : List (Nat × Operand)} {vs : List Value} (ht : G.ty t = some ⟨s, bt, true, el, os, .agg zs.toArray, ik⟩) (ho : os.isEmpty = false) (hv : evs E (parts.map (·.2)) = some vs) (_hc : Cells vs cs) (hf : fillL (plsOf os s) zs ((parts.map (·.1)).zip vs) = some cs) :
    Yl G n (.build t parts.toArray) E C (.agg cs.toArray) := by
  have := Yl.buildP (n := n) (E := E) (C := C) (parts := parts) ht ho hv (by rw [hf]; rfl)
  rw [hf] at this; exact this
theorem Yl.build0 {s bt : Nat} {el : Option Nat} {os : List Nat} {zs : List Value} {ik : Option IntKind} (ht : G.ty t = some ⟨s, bt, true, el, os, .agg zs.toArray, ik⟩) (ho : os.isEmpty = false) : Yl G n (.build t #[]) E C (.agg zs.toArray) :=
  Yl.buildP (n := n) (E := E) (C := C) (parts := []) (vs := []) ht ho rfl rfl
theorem Yl.mulw {p q : Int} {t2 : TypeId} (hx : ev E x = some (.int .i64 p)) (hy : ev E y = some (.int .i64 q)) : Yl G n (.binOp .mul t x y t2) E C (.int .i64 (IntKind.i64.wrap (p * q))) := Yl.bin hx hy (fun w => by simp only [binOp, Op.intArith, ne_eq, not_true_eq_false, if_false]; rfl)
theorem Yl.gtrD {k : IntKind} {p q : Int} {t2 : TypeId} (hx : ev E x = some (.int k p)) (hy : ev E y = some (.int k q)) : Yl G n (.binOp .gtr t x y t2) E C (.bool (decide (q < p))) := Yl.bin hx hy (fun w => by simp [binOp, Op.intCmp])
theorem Yl.lssD {k : IntKind} {p q : Int} {t2 : TypeId} (hx : ev E x = some (.int k p)) (hy : ev E y = some (.int k q)) : Yl G n (.binOp .lss t x y t2) E C (.bool (decide (p < q))) := Yl.bin hx hy (fun w => by simp [binOp, Op.intCmp])
theorem Yl.leqD {k : IntKind} {p q : Int} {t2 : TypeId} (hx : ev E x = some (.int k p)) (hy : ev E y = some (.int k q)) : Yl G n (.binOp .leq t x y t2) E C (.bool (decide (p ≤ q))) := Yl.bin hx hy (fun w => by simp [binOp, Op.intCmp])
theorem Yl.geqD {k : IntKind} {p q : Int} {t2 : TypeId} (hx : ev E x = some (.int k p)) (hy : ev E y = some (.int k q)) : Yl G n (.binOp .geq t x y t2) E C (.bool (decide (q ≤ p))) := Yl.bin hx hy (fun w => by simp [binOp, Op.intCmp])
inductive SubT : List Value → Nat → List Value → Prop
  | zero {l : List Value} : SubT l 0 []
  | succ {a : Value} {l out : List Value} {s : Nat} : SubT l s out → SubT (a :: l) (s + 1) (a :: out)
inductive SubC : List Value → Nat → Nat → List Value → Prop
  | here {l out : List Value} {s : Nat} : SubT l s out → SubC l 0 s out
  | drop {a : Value} {l out : List Value} {o s : Nat} : SubC l o s out → SubC (a :: l) (o + 1) s out
theorem SubT.get {l out : List Value} {s : Nat} (h : SubT l s out) : out.length = s ∧ ∀ j, j < s → out[j]? = l[j]? ∧ j < l.length := by
  induction h with
  | zero => exact ⟨rfl, fun j hj => by omega⟩
  | succ _ ih =>
    refine ⟨by simp [ih.1], fun j hj => ?_⟩
    cases j with
    | zero => simp
    | succ j => have := ih.2 j (by omega); simpa using this
theorem SubC.get {l out : List Value} {o s : Nat} (h : SubC l o s out) : out.length = s ∧ ∀ j, j < s → out[j]? = l[o + j]? ∧ o + j < l.length := by
  induction h with
  | here h => simpa using h.get
  | drop _ ih =>
    refine ⟨ih.1, fun j hj => ?_⟩
    have := ih.2 j hj
    rw [show ∀ o : Nat, o + 1 + j = o + j + 1 from fun o => by omega]
    simpa using this
theorem Yl.loadP {ti : TI} {b o T s : Nat} {cs out : List Value} (ht : G.ty t = some ti) (ha : ti.agg = true) (hx : ev E x = some (.pointer (some ⟨b, o, none⟩))) (hs : ti.size = s) (hM : Up (.blk b cs T) (.blk b cs T) M M') (hc : SubC cs o s out) : Yl G n (.load t x) E (Ok M R) (.agg out.toArray) :=
  Yl.loadA ht ha hs hx hc.get.1 fun w hw j hj => by
    have hb : Blk w b cs T := (hw.m _ hM.mem).1
    obtain ⟨h1, h2⟩ := hc.get.2 j hj
    rw [h1, List.getElem?_eq_getElem h2]
    exact hb.cell (List.getElem?_eq_getElem h2)
theorem fill0 {pl : List (Nat × Nat)} {cs : List Value} : fillL pl cs [] = some cs := rfl
theorem layL1 {cs : List Value} {o : Nat} {v : Value} : layL cs o [v] = cs.set o v := rfl
theorem fill1 {os : List Nat} {s i o : Nat} {zs cs' out : List Value} {v : Value} {r : List (Nat × Value)} (_h : os[i]? = some o) (hp : (plsOf os s)[i]? = some (o, 1)) (hv : v.cells = #[v]) (hs : SetL v zs o cs') (hr : fillL (plsOf os s) cs' r = some out) : fillL (plsOf os s) zs ((i, v) :: r) = some out := by
  have := hs.eq
  rw [fillL, hp]
  simp only [hv]
  have hb : Nat.ble (o + 1) zs.length = true := Nat.ble_eq_true_of_le this.2
  simp [layL1, this.1, hb, hr]
theorem Yl.buildF {s bt : Nat} {el : Option Nat} {os : List Nat} {zs cs : List Value} {ik : Option IntKind} {parts : List (Nat × Operand)} {vs : List Value} (ht : G.ty t = some ⟨s, bt, true, el, os, .agg zs.toArray, ik⟩) (ho : os.isEmpty = false) (hv : evs E (parts.map (·.2)) = some vs) (hf : fillL (plsOf os s) zs ((parts.map (·.1)).zip vs) = some cs) :
    Yl G n (.build t parts.toArray) E C (.agg cs.toArray) := by
  have := Yl.buildP (n := n) (E := E) (C := C) (parts := parts) ht ho hv (by rw [hf]; rfl)
  rw [hf] at this; exact this
theorem HE.bsl {e len s : Nat} {ti te : TI} {parts : List (Nat × Operand)} {vs cs : List Value} (ht : G.ty t = some ti) (he : ti.elem = some e) (hte : G.ty e = some te) (hs : te.size = s) (hv : evs E (parts.map (·.2)) = some vs) (_hc : Cells vs cs) (hlen : Nat.ble (len * s) 16777216 = true) (hf : fillS s (zrow len s te.zero.cells.toList) ((parts.map (·.1)).zip vs) = some cs) :
    HE n (.buildSlice t len parts.toArray) E M R (fun _ : Nat => True) (fun b => .slice (some ⟨b, 0, none⟩) len len) (fun b => .blk b cs e :: M) (fun _ => R) :=
  HE.bslice cs hv fun w => run_bslice w ht he hte hs hlen hf
theorem HE.callV {f : Nat} {args : List Operand} {tys : Array TypeId} {vs : List Value} (hf : G.fb[f]? = some true) (ha : evs E args = some vs)
    (hc : ∀ w, Ok M R w → Calls G.P f vs.toArray w (fun e w' => e = .returned v ∧ Ext w w')) : HE n (.call ⟨.value (.func f), args.toArray, tys⟩) E M R (fun _ : Unit => True) (fun _ => v) (fun _ => M) (fun _ => R) :=
  HE.call (fun _ => v) hf ha fun w hw => (hc w hw).mono fun _e _w' ⟨e1, hx⟩ => ⟨(), e1, trivial, hw.ext hx⟩
theorem Ok.nilO {w : World} (h : Ok M R w) (B T s : Nat) : Ok (.own B T s (.slice none 0 0) 0 [] :: M) R w :=
  h.push (Chg.refl _ w) (World.ownsRow_nil w B T s) (fun k hk => by cases (show (none : Option Nat) = some k from hk))
theorem OpsH.nilO (B T s : Nat) (h : OpsH ops Q n l E (.own B T s (.slice none 0 0) 0 [] :: M) R) : OpsH ops Q n l E M R := ⟨fun w hw => h.h w (hw.nilO B T s)⟩
theorem CdH.nilO {c : Code} (B T s : Nat) (h : CdH Q n c E (.own B T s (.slice none 0 0) 0 [] :: M) R) : CdH Q n c E M R := ⟨fun w hw => h.h w (hw.nilO B T s)⟩
theorem HE.callO {B T s m f : Nat} {xs : List Value} {args : List Operand} {tys : Array TypeId} {vs : List Value} (hf : G.fb[f]? = some true) (ha : evs E args = some vs) (hB : ∀ w, Ok M R w → B ≤ w.heap.size)
    (hc : ∀ w, Ok M R w → Calls G.P f vs.toArray w (fun e w' => (∃ v, e = .returned v ∧ w'.ownsRow w.heap.size T s v m xs) ∧ Ext w w')) :
    HE n (.call ⟨.value (.func f), args.toArray, tys⟩) E M R (fun _ : Value => True) (fun u => u) (fun u => .own B T s u m xs :: M) (fun _ => R) :=
  ⟨fun w hw => (Eff.call hf ha (hc w hw) (fun e w' h => by obtain ⟨⟨x, e1, _⟩, _⟩ := h; exact ⟨_, e1⟩)).mono fun v w' ⟨⟨x, e1, hv⟩, hx⟩ => by
    cases e1
    exact ⟨_, trivial, rfl, hw.push hx (own_base hv fun k hk => Nat.le_trans (hB w hw) (hv.lt k hk).1) (fun k hk => hv.lt k hk)⟩⟩
theorem own_get {w : World} {B T s m g cap : Nat} {xs : List Value} (h : w.ownsRow B T s (.slice (some ⟨g, 0, none⟩) m cap) m xs) {j : Nat} {u : Value} (hj : xs[j]? = some u) : w.cell? ⟨g, j, none⟩ = some u := by
  have := World.ownsRow.cells h (g := g) rfl j u hj
  have e : (⟨g, 0, none⟩ : Addr).add j = ⟨g, j, none⟩ := by
    unfold Addr.add; split
    · rename_i h0; rw [h0]
    · simp
  rwa [e] at this
theorem HE.appOwn {Mf : Value → List Res} {ti te : TI} {B B2 T s m k : Nat} {xs ys : List Value} {u : Value} (hx : ev E x = some v) (hy : ev E y = some u) (hM : ∀ v', Up (.own B T s v m xs) (.own B T s v' (m + k) (xs ++ ys)) M (Mf v')) (hb : Up (.own B2 T s u k ys) (.own B2 T s u k ys) M M')
    (ht : G.ty t = some ti) (he : ti.elem = some T) (hte : G.ty T = some te) (hs : te.size = s) (hzs : Nat.beq te.zero.cells.size te.size = true) (hsz : Nat.blt 0 te.size = true) (hbt : Nat.ble te.bytes 1000 = true) (h1 : ∀ u ∈ ys, u.oneCell' = true) (hlen : m + k ≤ 100000000000) (hB : ∀ w, Ok M R w → B ≤ w.heap.size) :
    HE n (.call ⟨.builtin .append, #[x, y], #[t, t]⟩) E M R (fun _ : Value => True) (fun v' => v') Mf (fun _ => R) :=
  ⟨fun w hw => by
    subst hs
    have hm := (hw.m _ (hM undef).mem)
    have hu : w.ownsRow B2 T te.size u k ys := (hw.m _ hb.mem).1
    have ho : w.ownsRow B T te.size v m xs := hm.1
    have hbt' := Nat.le_of_ble_eq_true hbt
    have hsz' : 0 < te.size := by simpa using hsz
    obtain ⟨p2, c2, rfl, _, _, hg⟩ := own_slice hu
    have key : ∀ v' w', w'.ownsRow B T te.size v' (m + k) (xs ++ ys) → Chg (fun k => v.ownBlock = some k) w w' → (v'.ownBlock = v.ownBlock ∨ v'.ownBlock = some w.heap.size) → ∃ x : Value, True ∧ v' = x ∧ Ok (Mf x) R w' := fun v' w' ho' hc hob =>
      ⟨v', trivial, rfl, hw.upd (hM v') hc ho' fun i hi => ⟨(ho'.lt i hi).2, fun hlt => by
        rcases hob with e | e
        · show v.ownBlock = some i
          rw [← e]; exact hi
        · have hk' : v'.ownBlock = some i := hi
          rw [e] at hk'; cases hk'; omega⟩⟩
    by_cases h0 : k = 0
    · subst h0
      obtain ⟨po, c, rfl, hc, _⟩ := own_slice ho
      have hy0 : ys = [] := List.eq_nil_of_length_eq_zero (by have := hu.1; simpa using this)
      subst hy0
      refine (Eff.append0 (G := G) ht he hte hx hc hy).mono ?_
      rintro _ _ ⟨rfl, rfl⟩
      exact key _ _ (by rw [List.append_nil]; exact ho) (Chg.refl _ _) (.inl rfl)
    · obtain ⟨g, rfl, _, _⟩ := hg (Nat.pos_of_ne_zero h0)
      have hfull : w.ownsRow B2 T te.size (.slice (some ⟨g, 0, none⟩) k c2) k ys := hu
      refine (Eff.appendB (G := G) (news := ys) ht he hte (Nat.eq_of_beq_eq_true hzs) hsz' hx ho hy hu.1 (fun j u hj => by rw [Nat.zero_add]; exact own_get hfull hj) h1 (by unfold maxLen; omega) (by have := Nat.mul_le_mul hlen hbt'; omega) (hB w hw)).mono fun v' w' ⟨a, b, c⟩ => key v' w' a b c⟩
theorem HE.appR {Mf : Value → List Res} {ti te : TI} {B T s m k c : Nat} {po : Option Addr} {xs : List Value} (ys : List Value) (hx : ev E x = some v) (hy : ev E y = some (.slice po k c)) (hM : ∀ v', Up (.own B T s v m xs) (.own B T s v' (m + k) (xs ++ ys)) M (Mf v'))
    (hrd : k = 0 ∨ ∃ bk o, po = some ⟨bk, o, none⟩ ∧ ∀ w, Ok M R w → ∀ j u, ys[j]? = some u → w.cell? ⟨bk, o + j, none⟩ = some u) (hys : ys.length = k * s)
    (ht : G.ty t = some ti) (he : ti.elem = some T) (hte : G.ty T = some te) (hs : te.size = s) (hzs : Nat.beq te.zero.cells.size te.size = true) (hsz : Nat.blt 0 te.size = true) (hbt : Nat.ble te.bytes 1000 = true) (h1 : ∀ u ∈ ys, u.oneCell' = true) (hlen : m + k ≤ 100000000000) (hB : ∀ w, Ok M R w → B ≤ w.heap.size) :
    HE n (.call ⟨.builtin .append, #[x, y], #[t, t]⟩) E M R (fun _ : Value => True) (fun v' => v') Mf (fun _ => R) :=
  ⟨fun w hw => by
    subst hs
    have hm := (hw.m _ (hM undef).mem)
    have ho : w.ownsRow B T te.size v m xs := hm.1
    have hbt' := Nat.le_of_ble_eq_true hbt
    have hsz' : 0 < te.size := by simpa using hsz
    have key : ∀ v' w', w'.ownsRow B T te.size v' (m + k) (xs ++ ys) → Chg (fun k => v.ownBlock = some k) w w' → (v'.ownBlock = v.ownBlock ∨ v'.ownBlock = some w.heap.size) → ∃ x : Value, True ∧ v' = x ∧ Ok (Mf x) R w' := fun v' w' ho' hc hob =>
      ⟨v', trivial, rfl, hw.upd (hM v') hc ho' fun i hi => ⟨(ho'.lt i hi).2, fun hlt => by
        rcases hob with e | e
        · show v.ownBlock = some i
          rw [← e]; exact hi
        · have hk' : v'.ownBlock = some i := hi
          rw [e] at hk'; cases hk'; omega⟩⟩
    by_cases h0 : k = 0
    · subst h0
      obtain ⟨po, c, rfl, hc, _⟩ := own_slice ho
      have hy0 : ys = [] := List.eq_nil_of_length_eq_zero (by simpa using hys)
      subst hy0
      refine (Eff.append0 (G := G) ht he hte hx hc hy).mono ?_
      rintro _ _ ⟨rfl, rfl⟩
      exact key _ _ (by rw [List.append_nil]; exact ho) (Chg.refl _ _) (.inl rfl)
    · obtain ⟨bk, o, rfl, hr⟩ := hrd.resolve_left h0
      refine (Eff.appendB (G := G) (news := ys) ht he hte (Nat.eq_of_beq_eq_true hzs) hsz' hx ho hy hys (fun j u hj => hr w hw j u hj) h1 (by unfold maxLen; omega) (by have := Nat.mul_le_mul hlen hbt'; omega) (hB w hw)).mono fun v' w' ⟨a, b, c⟩ => key v' w' a b c⟩
theorem own_of_blk {w : World} {b _e s len : Nat} {cs : List Value} {T : TypeId} (h : Blk w b cs T) (hs : cs.length = len * s) (hl : len ≤ maxLen) (B : Nat) (hB : B ≤ b) : w.ownsRow B T s (.slice (some ⟨b, 0, none⟩) len len) len cs :=
  ⟨hs, .inr ⟨b, len, cs.toArray, rfl, hB, h, Nat.le_refl _, hl, by simpa using hs, by simp [← hs]⟩⟩
theorem Ok.toOwn {w : World} {b s len : Nat} {cs : List Value} {T : TypeId} (h : Ok M R w) (hM : Up (.blk b cs T) (.own 0 T s (.slice (some ⟨b, 0, none⟩) len len) len cs) M M') (hs : cs.length = len * s) (hl : len ≤ maxLen) : Ok M' R w :=
  h.upd hM (Chg.refl _ w) (own_of_blk (_e := 0) (h.m _ hM.mem).1 hs hl 0 (Nat.zero_le _)) (fun k hk => by
    have hk' : some b = some k := hk
    cases hk'
    exact ⟨(h.m _ hM.mem).2 b rfl, fun _ => rfl⟩)
theorem OpsH.toOwn {b len : Nat} {cs : List Value} {T : TypeId} (s : Nat) (hM : Up (.blk b cs T) (.own 0 T s (.slice (some ⟨b, 0, none⟩) len len) len cs) M M') (hs : cs.length = len * s) (hl : len ≤ maxLen) (h : OpsH ops Q n l E M' R) : OpsH ops Q n l E M R := ⟨fun w hw => h.h w (hw.toOwn hM hs hl)⟩
theorem sub_own {B T s n n' : Nat} {v v' : Value} {xs xs' : List Value} (h1 : v' = v) (h2 : n' = n) (h3 : xs' = xs) (h : M'.Sublist M) : (Res.own B T s v' n' xs' :: M').Sublist (Res.own B T s v n xs :: M) := by subst h1; subst h2; subst h3; exact h.cons_cons _
theorem sub_ownI {B : Nat} {v v' : Value} {xs xs' : List Int} (h1 : v' = v) (h3 : xs' = xs) (h : M'.Sublist M) : (Res.ownI B v' xs' :: M').Sublist (Res.ownI B v xs :: M) := by subst h1; subst h3; exact h.cons_cons _
end
end Go.Proofs.YtgbgnipidakdhaaGreatDoor
