/- space.Of. Printed by gen_sr.py. -/
import Derived.Test.YtgbgnipidakdhaaGreatDoorJSq
namespace Go.Proofs.YtgbgnipidakdhaaGreatDoor
open Go.RowKit
set_option maxRecDepth 100000
section
variable {ops : Array Oper} {Q : Exit → Act → World → Prop} {n : Nat} {E : Env} {M M' : List Res} {R R' : List (World → Prop)} {rest l : List Oper} {op : Op} {d : Nat} {ty : TypeId} {pos : String} {aft : Array Edge} {v : Value} {x y z : Operand} {t : TypeId}
theorem Ok.perm {w : World} (h : Ok M R w) (hp : M.Perm M') : Ok M' R w :=
  h.step (Chg.refl _ w) (fun q hq => h.m q (hp.mem_iff.2 hq)) ((hp.pairwise_iff (fun h k h1 h2 => h k h2 h1)).1 h.d) (fun _k ⟨q, hq, hk⟩ _ => ⟨q, hp.mem_iff.2 hq, hk⟩)
theorem FinH.der {e : Exit} (p : World → Prop) (hp : ∀ w', (∀ r, r ∈ R → r w') → p w') (h : FinH Q n e E M (p :: R)) : FinH Q n e E M R := ⟨fun w hw => h.h w (hw.der hp)⟩
theorem HE.callMV {β : Type} {B : Nat} {M0 Mr : List Res} {tf : β → Value} {φ : β → Prop} {M1 : β → List Res} {f : Nat} {fo : Operand} {cap : List Value} {args : List Operand} {tys : Array TypeId} {vs : List Value} (hfo : ev E fo = some (.func (.func f) #[] cap.toArray)) (hf : G.fb[f]? = some true) (ha : evs E args = some vs) (hM : M.Perm (M0 ++ Mr))
    (hR' : ∀ p, p ∈ R' → p ∈ R) (hc : ∀ w, Ok M0 R' w → B ≤ w.heap.size → Calls G.P f (vs ++ cap).toArray w (MutPost M0 w tf φ M1)) (hB : ∀ w, Ok M R w → B ≤ w.heap.size) : HE n (.call ⟨.value fo, args.toArray, tys⟩) E M R φ tf (fun x => M1 x ++ Mr) (fun _ => R) :=
  ⟨fun w hw0 => by
    have hw := hw0.perm hM
    refine (Eff.callV hfo hf ha (hc w (hw.sub (List.sublist_append_left _ _) hR') (hB w hw0)) (fun e w' h => by obtain ⟨x, e1, _⟩ := h; exact ⟨_, e1⟩)).mono fun v w' ⟨x, e1, h1, h2, h3, h4⟩ => ?_
    cases e1
    exact ⟨x, h1, rfl, hw.frame h2 h3 h4⟩⟩
end
def FnV (f : ApiFunc) (lo : Nat) (w : World) (x : Value × Value) : Prop := IntsR (fun k => lo ≤ k) w x.1 f.params ∧ IntsR (fun k => lo ≤ k) w x.2 f.results
theorem FnV.fresh (f : ApiFunc) : Fresh (FnV f) := fun h hc hS => ⟨h.1.chg hc hS, h.2.chg hc hS⟩
theorem wslb {M M' : List Res} (h : M'.Sublist M := by repeat (first | with_reducible exact List.Sublist.refl _ | exact List.nil_sublist _ | (with_reducible refine List.Sublist.cons_cons _ ?_) | ((with_reducible refine sub_own ?_ ?_ ?_ ?_); rfl; (first | rfl | simp); (first | rfl | simp)) | ((with_reducible refine sub_ownI ?_ ?_ ?_); rfl; (first | rfl | simp)) | ((with_reducible refine sub_blk ?_ ?_); (first | rfl | simp)) | refine List.Sublist.cons _ ?_)) : M'.Sublist M := h
def TyRd (B : Nat) (tc : List Value) (l : List ApiFunc) : World → Prop := fun w => tc.length = l.length * 2 ∧ ∀ i, i < l.length → ∃ p r, tc[i * 2]? = some p ∧ tc[i * 2 + 1]? = some r ∧ IntsR (fun k => B ≤ k) w p (ix l i).params ∧ IntsR (fun k => B ≤ k) w r (ix l i).results
theorem TyRd.app {B : Nat} {tc : List Value} {l : List ApiFunc} {w : World} (h : TyRd B tc l w) {p r : Value} {f : ApiFunc} (hp : IntsR (fun k => B ≤ k) w p f.params) (hr : IntsR (fun k => B ≤ k) w r f.results) : TyRd B (tc ++ [p, r]) (l ++ [f]) w := by
  obtain ⟨h1, h2⟩ := h
  refine ⟨by simp [h1]; omega, fun i hi => ?_⟩
  by_cases hlt : i < l.length
  · obtain ⟨p', r', e1, e2, e3, e4⟩ := h2 i hlt
    rw [ix_app_l hlt]
    exact ⟨p', r', by rw [List.getElem?_append_left (by omega)]; exact e1, by rw [List.getElem?_append_left (by omega)]; exact e2, e3, e4⟩
  · have e : i = l.length := by simp at hi; omega
    subst e
    rw [ix_app_r (Nat.le_refl _), Nat.sub_self]
    exact ⟨p, r, by rw [List.getElem?_append_right (by omega)]; simp [h1], by rw [List.getElem?_append_right (by omega)]; simp [h1, show l.length * 2 + 1 - l.length * 2 = 1 by omega], hp, hr⟩
theorem TyRd.chg {B : Nat} {tc : List Value} {l : List ApiFunc} {S : Nat → Prop} {w w' : World} (h : TyRd B tc l w) (hc : Chg S w w') (hS : ∀ k, B ≤ k → ¬ S k) : TyRd B tc l w' :=
  ⟨h.1, fun i hi => by
    obtain ⟨p, r, e1, e2, e3, e4⟩ := h.2 i hi
    exact ⟨p, r, e1, e2, e3.chg hc (fun k _ hk => hS k hk), e4.chg hc (fun k _ hk => hS k hk)⟩⟩
def brN (l : List ApiImport) (X : SpX) : SpX := l.foldl SpX.bring X
theorem brN_snoc (l : List ApiImport) (X : SpX) (x : ApiImport) : brN (l ++ [x]) X = (brN l X).bring x := by unfold brN; rw [List.foldl_append]; rfl
theorem bring_len (X : SpX) (x : ApiImport) : (X.bring x).funcs.length ≤ X.funcs.length + 1 ∧ (X.bring x).tables.length ≤ X.tables.length + 1 ∧ (X.bring x).mems.length ≤ X.mems.length + 1 ∧ (X.bring x).globals.length ≤ X.globals.length + 1 ∧ (X.bring x).elems.length ≤ X.elems.length ∧ (X.bring x).datas = X.datas := by
  unfold SpX.bring
  split
  · simp
  · split
    · simp
    · split
      · simp
      · split <;> simp
def X0 (m : ApiModule) : SpX := ⟨[], [], [], [], [], m.datas.length⟩
theorem brN_len (m : ApiModule) : ∀ i, i ≤ m.imports.length → (brN (m.imports.take i) (X0 m)).funcs.length ≤ i ∧ (brN (m.imports.take i) (X0 m)).tables.length ≤ i ∧ (brN (m.imports.take i) (X0 m)).mems.length ≤ i ∧ (brN (m.imports.take i) (X0 m)).globals.length ≤ i ∧ (brN (m.imports.take i) (X0 m)).elems.length ≤ 0 ∧ (brN (m.imports.take i) (X0 m)).datas = m.datas.length
  | 0, _ => by simp [brN, X0]
  | i + 1, h => by
    have ih := brN_len m i (by omega)
    rw [take_succ_ix (by omega), brN_snoc]
    have := bring_len (brN (m.imports.take i) (X0 m)) (ix m.imports i)
    omega
def cN (m : ApiModule) (i : Nat) : Int → Int := fun k => impC m.imports k i
theorem cN_succ (m : ApiModule) {i : Nat} (h : i < m.imports.length) : inc (cN m i) (ix m.imports i).kind = cN m (i + 1) := by
  funext b
  unfold inc cN
  rw [impC_succ h]
  by_cases e : b = (ix m.imports i).kind
  · subst e; simp
  · have e' : ¬ (ix m.imports i).kind = b := fun h => e h.symm
    simp [e, e']
def X1 (m : ApiModule) : SpX := brN m.imports (X0 m)
def X2 (m : ApiModule) (i : Nat) : SpX := { X1 m with funcs := (X1 m).funcs ++ (m.funcs.take i).map (·.type_) }
def X3 (m : ApiModule) : SpX := { X2 m m.funcs.length with tables := (X1 m).tables ++ m.tables, mems := (X1 m).mems ++ m.mems }
def X4 (m : ApiModule) (i : Nat) : SpX := { X3 m with globals := (X1 m).globals ++ (m.globals.take i).map (·.type_) }
def X5 (m : ApiModule) (i : Nat) : SpX := { X4 m m.globals.length with elems := (X1 m).elems ++ (m.elems.take i).map (·.type_) }
theorem flatMap_get {α : Type} [Inhabited α] (cf : α → List Value) {s : Nat} (hs : ∀ x, (cf x).length = s) : ∀ (xs : List α) (i j : Nat), i < xs.length → j < s → (xs.flatMap cf)[i * s + j]? = (cf (ix xs i))[j]?
  | [], i, _, h, _ => by simp at h
  | a :: r, 0, j, _, hj => by
    rw [List.flatMap_cons, Nat.zero_mul, Nat.zero_add, List.getElem?_append_left (by rw [hs]; exact hj)]
    simp [ix]
  | a :: r, i + 1, j, h, hj => by
    rw [List.flatMap_cons, List.getElem?_append_right (by rw [hs, Nat.succ_mul]; omega)]
    have e : (i + 1) * s + j - (cf a).length = i * s + j := by rw [hs, Nat.succ_mul]; omega
    rw [e, flatMap_get cf hs r i j (by simpa using h) hj]
    simp [ix]
theorem flatMap_len {α : Type} (cf : α → List Value) {s : Nat} (hs : ∀ x, (cf x).length = s) : ∀ xs : List α, (xs.flatMap cf).length = xs.length * s
  | [] => by simp
  | a :: r => by rw [List.flatMap_cons, List.length_append, hs, flatMap_len cf hs r, List.length_cons, Nat.succ_mul]; omega
theorem flat_rd {α : Type} [Inhabited α] {s N : Nat} {Rd : ElR α} (cf : α → List Value) (hs : ∀ x, (cf x).length = s) (h0 : 0 < s) (hRd : ∀ {F w b o x}, Rd F w b o x → ∀ j, j < s → w.cell? ⟨b, o + j, none⟩ = (cf x)[j]?) {F : Nat → Prop} {w : World} {p : Option Addr} {n c : Nat} {xs : List α} {M : List Res} {R : List (World → Prop)} (h : SlR s N Rd F w (.slice p n c) xs) (hR : Ext w ∈ R) :
    xs.length = 0 ∨ ∃ bk o, p = some ⟨bk, o, none⟩ ∧ ∀ w', Ok M R w' → ∀ j u, (xs.flatMap cf)[j]? = some u → w'.cell? ⟨bk, o + j, none⟩ = some u := by
  obtain ⟨p', c', e, hl, h⟩ := h
  cases e
  rcases h with h | ⟨b, o, rfl, hF, h⟩
  · exact .inl (by rw [h]; rfl)
  · refine .inr ⟨b, o, rfl, fun w' hw' j u hj => ?_⟩
    have hlt : j < xs.length * s := by rw [← flatMap_len cf hs]; exact (List.getElem?_eq_some_iff.1 hj).1
    have hi : j / s < xs.length := Nat.div_lt_of_lt_mul (by rw [Nat.mul_comm]; exact hlt)
    have hr : j % s < s := Nat.mod_lt _ h0
    have ej : j = j / s * s + j % s := by rw [Nat.mul_comm]; exact (Nat.div_add_mod j s).symm
    have h1 := hRd (h (j / s) hi) (j % s) hr
    rw [← flatMap_get cf hs xs _ _ hi hr, ← ej, hj, Nat.add_assoc, ← ej] at h1
    exact (show Ext w w' from hw'.get hR).cell h1
theorem table_rd {F : Nat → Prop} {w : World} {b o : Nat} {x : ApiTable} (h : ApiTableR F w b o x) : ∀ j, j < 4 → w.cell? ⟨b, o + j, none⟩ = (tblC x)[j]? := by
  obtain ⟨cs, hV, hc⟩ := h
  obtain ⟨rfl, -⟩ := hV
  exact hc
theorem limits_rd {F : Nat → Prop} {w : World} {b o : Nat} {x : ApiLimits} (h : ApiLimitsR F w b o x) : ∀ j, j < 3 → w.cell? ⟨b, o + j, none⟩ = (limC x)[j]? := by
  obtain ⟨cs, hV, hc⟩ := h
  obtain ⟨rfl, -⟩ := hV
  exact hc
theorem tblC_one (l : List ApiTable) : ∀ u ∈ l.flatMap tblC, u.oneCell' = true := by
  intro u hu; obtain ⟨a, _, h⟩ := List.mem_flatMap.1 hu
  simp only [tblC, List.mem_cons, List.not_mem_nil, or_false] at h
  rcases h with rfl | rfl | rfl | rfl <;> rfl
theorem limC_one (l : List ApiLimits) : ∀ u ∈ l.flatMap limC, u.oneCell' = true := by
  intro u hu; obtain ⟨a, _, h⟩ := List.mem_flatMap.1 hu
  simp only [limC, List.mem_cons, List.not_mem_nil, or_false] at h
  rcases h with rfl | rfl | rfl <;> rfl
abbrev TGD : Nat := 112
abbrev TEl : Nat := 115
abbrev TExp : Nat := 117
abbrev TSpace : Nat := 60
def d4 (m : ApiModule) (i : Nat) : Int → Bool := fun k => (m.globals.take i).any fun g => named g.init_ k
def d5 (m : ApiModule) (i j : Nat) : Int → Bool := fun k => d4 m m.globals.length k || (m.elems.take i).any (fun e => e.items.any fun l => named l k) || ((ix m.elems i).items.take j).any fun l => named l k
def d6 (m : ApiModule) (i : Nat) : Int → Bool := fun k => d4 m m.globals.length k || m.elems.any (fun e => e.items.any fun l => named l k) || (m.exports.take i).any fun x => decide (x.kind = 0) && decide (x.index = k)
def spX (m : ApiModule) : SpX := X5 m m.elems.length
structure SpaceAt (B bS sp im dm : Nat) (v : SpV) (tc : List Value) (ig dg : Int → Option Value) (m : ApiModule) (w : World) : Prop where
  s : Blk w bS [.pointer (some ⟨sp, 0, none⟩)] TSpace
  x : Blk w sp [v.tv, v.fv, v.bv, v.mv, v.gv, v.ev, .int .i64 (spX m).datas, .map (some im), .map (some dm)] TSp
  fs : w.ownsRow B 3 1 v.fv (spX m).funcs.length ((spX m).funcs.map (Value.int .i64))
  bs : w.ownsRow B TTbl 4 v.bv (spX m).tables.length ((spX m).tables.flatMap tblC)
  ms : w.ownsRow B TLim 3 v.mv (spX m).mems.length ((spX m).mems.flatMap limC)
  gs : w.ownsRow B TGlo 2 v.gv (spX m).globals.length ((spX m).globals.flatMap gloC)
  es : w.ownsRow B TVal 1 v.ev (spX m).elems.length ((spX m).elems.map (Value.int .i64))
  ts : w.ownsRow B TFn 2 v.tv m.types.length tc
  im : IV w im ig
  dm : IV w dm dg
  cnt : Cnt ig (cN m m.imports.length)
  dec : Dec dg (d6 m m.exports.length)
  ty : TyRd B tc m.types w
def SpaceRd (B : Nat) (m : ApiModule) (w : World) (v : Value) : Prop := ∃ bS sp im dm vs tc ig dg, v = .pointer (some ⟨bS, 0, none⟩) ∧ (B ≤ bS ∧ B ≤ sp ∧ B ≤ im ∧ B ≤ dm) ∧ SpaceAt B bS sp im dm vs tc ig dg m w
def LensQ (m : ApiModule) : Prop := m.types.length ≤ 1000 ∧ m.imports.length ≤ 1000 ∧ m.funcs.length ≤ 1000 ∧ m.tables.length ≤ 1000 ∧ m.mems.length ≤ 1000 ∧ m.globals.length ≤ 1000 ∧ m.exports.length ≤ 1000 ∧ m.elems.length ≤ 1000 ∧ m.datas.length ≤ 1000
theorem LensP.q {m : ApiModule} (h : LensP m) : LensQ m := by
  obtain ⟨h1, h2, h3, h4, h5, h6, h7, h8, h9⟩ := h
  exact ⟨by omega, by omega, by omega, by omega, by omega, by omega, by omega, by omega, by omega⟩
def SpacePost (m : ApiModule) (w : World) (e : Ending) (w' : World) : Prop := (∃ v, e = .returned v ∧ SpaceRd w.heap.size m w' v) ∧ Ext w w'
theorem SpaceRd.chg {B : Nat} {m : ApiModule} {S : Nat → Prop} {w w' : World} {v : Value} (h : SpaceRd B m w v) (hc : Chg S w w') (hS : ∀ k, B ≤ k → ¬ S k) : SpaceRd B m w' v := by
  obtain ⟨bS, sp, im, dm, vs, tc, ig, dg, rfl, ⟨g1, g2, g3, g4⟩, h⟩ := h
  exact ⟨bS, sp, im, dm, vs, tc, ig, dg, rfl, ⟨g1, g2, g3, g4⟩, h.s.chg hc (hS _ g1), h.x.chg hc (hS _ g2), own_chg h.fs hc (fun k hk => hS k (h.fs.lt k hk).1), own_chg h.bs hc (fun k hk => hS k (h.bs.lt k hk).1), own_chg h.ms hc (fun k hk => hS k (h.ms.lt k hk).1), own_chg h.gs hc (fun k hk => hS k (h.gs.lt k hk).1), own_chg h.es hc (fun k hk => hS k (h.es.lt k hk).1), own_chg h.ts hc (fun k hk => hS k (h.ts.lt k hk).1), h.im.chg hc (hS _ g3), h.dm.chg hc (hS _ g4), h.cnt, h.dec, h.ty.chg hc hS⟩
set_option maxHeartbeats 32000000 in
theorem space_Of (F : Nat → Prop) (m : ApiModule) (cs : List Value) (w : World) (hm : ApiModuleV F w cs m) (hL : LensQ m) : Calls G.P 12 #[.agg cs.toArray] w (SpacePost m w) := by
  obtain ⟨v0, v1, v2, v3, v4, v5, v6, v7, v8, v9, rfl, r0, r1, r2, r3, r4, r5, r6, r7, r8, r9, g0⟩ := hm
  obtain ⟨L0, L1, L2, L3, L4, L5, L6, L7, L8⟩ := hL
  obtain ⟨p0, c0, rfl, -⟩ := r0.slice
  obtain ⟨p1, c1, rfl, -⟩ := r1.slice
  obtain ⟨p2, c2, rfl, -⟩ := r2.slice
  obtain ⟨p3, c3, rfl, -⟩ := r3.slice
  obtain ⟨p4, c4, rfl, -⟩ := r4.slice
  obtain ⟨p5, c5, rfl, -⟩ := r5.slice
  obtain ⟨p6, c6, rfl, -⟩ := r6.slice
  obtain ⟨p7, c7, rfl, -⟩ := r7.slice
  obtain ⟨p8, c8, rfl, -⟩ := r8.slice
  refine enterH (l := [.agg (([Value.slice p0 m.types.length c0, Value.slice p1 m.imports.length c1, Value.slice p2 m.funcs.length c2, Value.slice p3 m.tables.length c3, Value.slice p4 m.mems.length c4, Value.slice p5 m.globals.length c5, Value.slice p6 m.exports.length c6, Value.bool m.hasStart, Value.int .i64 m.start, Value.slice p7 m.elems.length c7, Value.slice p8 m.datas.length c8, v9] : List Value)).toArray]) Tryz.func12 rfl Tryz.ntmps12 rfl (Ok.start w) ?_
  refine wgh ?_
  refine OpsH.box ([Value.slice p0 m.types.length c0, Value.slice p1 m.imports.length c1, Value.slice p2 m.funcs.length c2, Value.slice p3 m.tables.length c3, Value.slice p4 m.mems.length c4, Value.slice p5 m.globals.length c5, Value.slice p6 m.exports.length c6, Value.bool m.hasStart, Value.int .i64 m.start, Value.slice p7 m.elems.length c7, Value.slice p8 m.datas.length c8, v9] : List Value) rfl rfl rfl fun b => ?_
  refine wgh ?_
  refine OpsH.he HE.makeMap rfl ?_
  intro im _
  refine OpsH.he HE.makeMap rfl ?_
  intro dm _
  refine wgh ?_
  refine OpsH.box [Value.slice none 0 0, Value.slice none 0 0, Value.slice none 0 0, Value.slice none 0 0, Value.slice none 0 0, Value.slice none 0 0, Value.int .i64 m.datas.length, Value.map (some im), Value.map (some dm)] rfl rfl rfl fun sp => ?_
  refine wgh ?_
  refine OpsH.alloc [Value.pointer none] rfl rfl rfl fun bx => ?_
  refine wgh ?_
  refine CdH.nilO w.heap.size TFn 2 ?_
  refine CdH.nilO w.heap.size TVal 1 ?_
  refine CdH.nilO w.heap.size TGlo 2 ?_
  refine CdH.nilO w.heap.size TLim 3 ?_
  refine CdH.nilO w.heap.size TTbl 4 ?_
  refine CdH.nilO w.heap.size 3 1 ?_
  refine CdH.front (q := .own w.heap.size TFn 2 _ _ _) wrm ?_
  refine CdH.front (q := .iv dm _) wrm ?_
  refine CdH.front (q := .iv im _) wrm ?_
  refine CdH.front (q := .own w.heap.size TVal 1 _ _ _) wrm ?_
  refine CdH.front (q := .own w.heap.size TGlo 2 _ _ _) wrm ?_
  refine CdH.front (q := .own w.heap.size TLim 3 _ _ _) wrm ?_
  refine CdH.front (q := .own w.heap.size TTbl 4 _ _ _) wrm ?_
  refine CdH.front (q := .own w.heap.size 3 1 _ _ _) wrm ?_
  refine CdH.front (q := .blk sp _ _) wrm ?_
  refine CdH.front (q := .blk bx _ _) wrm ?_
  refine CdH.der (TyRd w.heap.size [] (m.types.take 0)) (fun w' _ => ⟨rfl, fun i hi => by simp at hi⟩) ?_
  refine CdH.loop (σ := Nat × Value × List Value) (fun s => [(1, .pointer (some ⟨b, 0, none⟩)), (3, .pointer (some ⟨bx, 0, none⟩)), (28, .slice p0 m.types.length c0), (29, .int .i64 m.types.length), (30, .int .i64 s.1)]) (fun s => spM w.heap.size bx sp im dm ⟨s.2.1, .slice none 0 0, .slice none 0 0, .slice none 0 0, .slice none 0 0, .slice none 0 0⟩ s.1 s.2.2 (X0 m) (fun _ => none) (fun _ => none) ++ [.blk b ([Value.slice p0 m.types.length c0, Value.slice p1 m.imports.length c1, Value.slice p2 m.funcs.length c2, Value.slice p3 m.tables.length c3, Value.slice p4 m.mems.length c4, Value.slice p5 m.globals.length c5, Value.slice p6 m.exports.length c6, Value.bool m.hasStart, Value.int .i64 m.start, Value.slice p7 m.elems.length c7, Value.slice p8 m.datas.length c8, v9] : List Value) TMod]) (fun s => [TyRd w.heap.size s.2.2 (m.types.take s.1), Ext w]) (fun s => s.1 ≤ m.types.length) (fun s => m.types.length - s.1) (0, .slice none 0 0, []) wsub (by unfold spM; simp only [List.cons_append, List.nil_append]; exact wslb) (by dsimp only; repeat (first | exact subR_nil | refine subR_cons (by repeat (first | with_reducible exact List.mem_cons_self | apply List.mem_cons_of_mem)) ?_)) (by dsimp only; omega) ?_
  rintro ⟨i, tv, tc⟩ hi
  dsimp only at hi ⊢
  unfold spM
  simp only [List.cons_append, List.nil_append]
  by_cases hlt : i < m.types.length
  · obtain ⟨b1, o1, rfl, hF, cs5, ⟨u0, u1, rfl, q0, q1⟩, hc5⟩ := r0.el hlt
    obtain ⟨x0, y0, rfl, -⟩ := q0.slice
    obtain ⟨x1, y1, rfl, -⟩ := q1.slice
    refine wgh ?_
    refine OpsH.y_ (Yl.loadE rfl rfl rfl wmem (by rfl) (by rfl) hc5) rfl ?_
    refine OpsH.alloc [Value.slice none 0 0, Value.slice none 0 0] rfl rfl rfl fun b5 => ?_
    refine wgh ?_
    refine CdH.regionS [0, 1, 2, 3, 4, 5, 6, 7, 8, 9, 10] 11 [.blk b5 _ TFn, .blk bx [.pointer (some ⟨sp, 0, none⟩)] TSpP, .blk sp [tv, .slice none 0 0, .slice none 0 0, .slice none 0 0, .slice none 0 0, .slice none 0 0, .int .i64 (X0 m).datas, .map (some im), .map (some dm)] TSp] [] (by kernel_rfl) wsl wsr ?_
    refine wgs ?_
    refine OpsS.he (HE.callF (V := FnV (ix m.types i)) (fun x => .agg #[x.1, x.2]) (FnV.fresh _) rfl rfl (fun w' hw' => space_copied F (ix m.types i) _ _ w' (q0.chg (show Ext w w' from hw'.at) (fun _ _ _ h => h)) (q1.chg (show Ext w w' from hw'.at) (fun _ _ _ h => h)))) rfl (fun _ => wsl) (fun _ => wsr) ?_
    rintro ⟨lo, z1, z2⟩ ⟨wx, hwx, hlo⟩
    have hlo' : w.heap.size ≤ lo := by have h := szR (w := w) wmem wx hwx; have : lo = wx.heap.size := hlo; omega
    dsimp only
    refine OpsS.pure (φ := (∃ p c, z1 = .slice p (ix m.types i).params.length c) ∧ ∃ p c, z2 = .slice p (ix m.types i).results.length c) (fun w' hw' => ?_) ?_
    · have hv : FnV (ix m.types i) lo w' (z1, z2) := hw'.at
      obtain ⟨p, c, e, _⟩ := hv.1.slice
      obtain ⟨p', c', e', _⟩ := hv.2.slice
      exact ⟨⟨p, c, e⟩, ⟨p', c', e'⟩⟩
    rintro ⟨⟨e1, f1, rfl⟩, ⟨e2, f2, rfl⟩⟩
    refine OpsS.he (HE.bsl rfl rfl rfl rfl rfl wcel (by rfl) (by rfl)) rfl (fun _ => wsl) (fun _ => wsr) ?_
    intro b3 _
    refine OpsS.he (HE.app rfl rfl (fun _ => wup) wup rfl rfl rfl (by rfl) (by rfl) (by rfl) (by rfl) (by rfl) (by rfl) (by omega) szR) rfl (fun _ => wsl) (fun _ => wsr) ?_
    intro v2 _
    refine wgs ?_
    refine OpsS.pure (φ := v2.oneCell' = true) (fun w' hw' => own_one (hw'.own (v := v2))) fun hone => ?_
    refine OpsS.hez0 (HE0.storeL rfl rfl rfl rfl hone wup wset) rfl ?_
    rintro ⟨⟩ _
    refine wgh ?_
    refine FinH.der (TyRd w.heap.size (tc ++ [.slice e1 (ix m.types i).params.length f1, .slice e2 (ix m.types i).results.length f2]) (m.types.take (i + 1))) (fun w' hw' => ?_) ?_
    · rw [take_succ_ix hlt]
      have hv : FnV (ix m.types i) lo w' (.slice e1 (ix m.types i).params.length f1, .slice e2 (ix m.types i).results.length f2) := all_at hw'
      exact TyRd.app (all_at hw') (hv.1.mono (fun k _ hk => Nat.le_trans hlo' hk)) (hv.2.mono (fun k _ hk => Nat.le_trans hlo' hk))
    exact FinH.next (i + 1, v2, tc ++ [.slice e1 (ix m.types i).params.length f1, .slice e2 (ix m.types i).results.length f2]) wsub (by dsimp only; exact wslb) (by dsimp only; repeat (first | exact subR_nil | refine subR_cons (by repeat (first | with_reducible exact List.mem_cons_self | apply List.mem_cons_of_mem)) ?_)) (by dsimp only; omega) (by dsimp only; omega)
  · obtain rfl : i = m.types.length := by omega
    refine wgh ?_
    refine CdH.loop (σ := Nat × SpV × (Int → Option Value)) (fun s => [(1, .pointer (some ⟨b, 0, none⟩)), (3, .pointer (some ⟨bx, 0, none⟩)), (6, .func (.func 38) #[] #[.pointer (some ⟨bx, 0, none⟩)]), (48, .slice p1 m.imports.length c1), (49, .int .i64 m.imports.length), (50, .int .i64 s.1)]) (fun s => spM w.heap.size bx sp im dm s.2.1 m.types.length tc (brN (m.imports.take s.1) (X0 m)) s.2.2 (fun _ => none) ++ [.blk b ([Value.slice p0 m.types.length c0, Value.slice p1 m.imports.length c1, Value.slice p2 m.funcs.length c2, Value.slice p3 m.tables.length c3, Value.slice p4 m.mems.length c4, Value.slice p5 m.globals.length c5, Value.slice p6 m.exports.length c6, Value.bool m.hasStart, Value.int .i64 m.start, Value.slice p7 m.elems.length c7, Value.slice p8 m.datas.length c8, v9] : List Value) TMod]) (fun s => [TyRd w.heap.size tc (m.types.take m.types.length), Ext w]) (fun s => s.1 ≤ m.imports.length ∧ s.2.1.tv = tv ∧ Cnt s.2.2 (cN m s.1)) (fun s => m.imports.length - s.1) (0, ⟨tv, .slice none 0 0, .slice none 0 0, .slice none 0 0, .slice none 0 0, .slice none 0 0⟩, fun _ => none) wsub (by unfold spM; simp only [List.cons_append, List.nil_append]; exact wslb) wsr ⟨by dsimp only; omega, rfl, fun k => by simp [cN, impC]⟩ ?_
    rintro ⟨i, v, ig⟩ ⟨hi, hvt, hcnt⟩
    dsimp only at hi hvt hcnt ⊢
    have hbl := brN_len m i hi
    by_cases hlt : i < m.imports.length
    · obtain ⟨b1, o1, rfl, hF, he⟩ := r1.el hlt
      have hk9 := he.kind_r
      have hcs := cN_succ m hlt
      have hcl := impC_le m.imports (ix m.imports i).kind i
      obtain ⟨cs9, hV9, hc9⟩ := he
      obtain ⟨rfl, -⟩ := hV9
      refine wgh ?_
      refine OpsH.y_ (Yl.loadE rfl rfl rfl wmem (by rfl) (by rfl) hc9) rfl ?_
      refine OpsH.alloc [Value.string ⟨#[]⟩, Value.string ⟨#[]⟩, Value.int .i64 0, Value.int .i64 0, Value.int .i64 0, Value.int .i64 0, Value.int .i64 0, Value.bool false, Value.int .i64 0, Value.int .i64 0, Value.bool false, Value.int .i64 0, Value.bool false] rfl rfl rfl fun b8 => ?_
      refine wgh ?_
      refine OpsH.he (HE.callMV (B := w.heap.size) (R' := []) rfl rfl rfl List.perm_middle.symm (fun p hp => absurd hp (by simp)) (fun w' hw' hB => space_bring w.heap.size bx sp im dm v m.types.length tc _ ig (fun _ => none) (ix m.imports i) (cN m i) w' hw' hB ⟨by omega, by omega, by omega, by omega, by omega⟩ hcnt hk9 (by unfold cN; omega)) szR) rfl ?_
      rintro ⟨v', ig'⟩ ⟨hc', ht'⟩
      dsimp only at hc' ht' ⊢
      rw [hcs] at hc'
      refine wgh ?_
      refine FinH.next (i + 1, v', ig') wsub ?_ wsr ⟨by dsimp only; omega, by dsimp only; rw [ht', hvt], hc'⟩ (by dsimp only; omega)
      dsimp only
      rw [take_succ_ix hlt, brN_snoc]
      unfold spM; simp only [List.cons_append, List.nil_append]; exact wslb
    · obtain rfl : i = m.imports.length := by omega
      obtain ⟨tv', fv0, bv, mv, gv, ev⟩ := v
      dsimp only at hvt
      subst hvt
      have e1 : brN (m.imports.take m.imports.length) (X0 m) = X1 m := by unfold X1; rw [List.take_length]
      have hlen1 : (X1 m).funcs.length ≤ 1000 ∧ (X1 m).tables.length ≤ 1000 ∧ (X1 m).mems.length ≤ 1000 ∧ (X1 m).globals.length ≤ 1000 ∧ (X1 m).elems.length ≤ 0 := by rw [← e1]; omega
      rw [e1]
      unfold spM
      simp only [List.cons_append, List.nil_append]
      refine wgh ?_
      have e2 : (X2 m 0).funcs = (X1 m).funcs := by simp [X2]
      refine CdH.loop (σ := Nat × Value) (fun s => [(1, .pointer (some ⟨b, 0, none⟩)), (3, .pointer (some ⟨bx, 0, none⟩)), (59, .slice p2 m.funcs.length c2), (60, .int .i64 m.funcs.length), (61, .int .i64 s.1)]) (fun s => spM w.heap.size bx sp im dm ⟨tv', s.2, bv, mv, gv, ev⟩ m.types.length tc (X2 m s.1) ig (fun _ => none) ++ [.blk b ([Value.slice p0 m.types.length c0, Value.slice p1 m.imports.length c1, Value.slice p2 m.funcs.length c2, Value.slice p3 m.tables.length c3, Value.slice p4 m.mems.length c4, Value.slice p5 m.globals.length c5, Value.slice p6 m.exports.length c6, Value.bool m.hasStart, Value.int .i64 m.start, Value.slice p7 m.elems.length c7, Value.slice p8 m.datas.length c8, v9] : List Value) TMod]) (fun s => [TyRd w.heap.size tc (m.types.take m.types.length), Ext w]) (fun s => s.1 ≤ m.funcs.length) (fun s => m.funcs.length - s.1) (0, fv0) wsub (by unfold spM; dsimp only; simp only [List.cons_append, List.nil_append, e2]; exact wslb) wsr (by dsimp only; omega) ?_
      rintro ⟨i, fv⟩ hi
      dsimp only at hi ⊢
      unfold spM
      simp only [List.cons_append, List.nil_append]
      by_cases hlt : i < m.funcs.length
      · obtain ⟨b1, o1, rfl, hF, cs5, ⟨u0, u1, rfl, q0, q1, q2⟩, hc5⟩ := r2.el hlt
        obtain ⟨x2, y2, rfl, z2⟩ := q1.slice
        obtain ⟨x0, y0, rfl, z0⟩ := q0.slice
        have e3 : (X2 m (i + 1)).funcs = (X2 m i).funcs ++ [(ix m.funcs i).type_] := by simp [X2, take_succ_ix hlt]
        have l3 : (X2 m i).funcs.length ≤ 3000 := by simp [X2]; omega
        refine wgh ?_
        refine OpsH.y_ (Yl.loadE rfl rfl rfl wmem (by rfl) (by rfl) hc5) rfl ?_
        refine OpsH.alloc [Value.int .i64 0, Value.slice none 0 0, Value.slice none 0 0] rfl rfl rfl fun b10 => ?_
        refine wgh ?_
        refine CdH.regionS [0, 1, 2, 3, 4, 5, 6, 7, 8, 9, 10] 11 [.blk b10 _ TCode, .blk bx [.pointer (some ⟨sp, 0, none⟩)] TSpP, .blk sp [tv', fv, bv, mv, gv, ev, .int .i64 (X2 m i).datas, .map (some im), .map (some dm)] TSp] [] (by kernel_rfl) wsl wsr ?_
        refine wgs ?_
        refine OpsS.he (HE.bsl rfl rfl rfl rfl rfl wcel (by rfl) (by rfl)) rfl (fun _ => wsl) (fun _ => wsr) ?_
        intro b3 _
        refine OpsS.he (HE.app rfl rfl (fun _ => wup) wup rfl rfl rfl (by rfl) (by rfl) (by rfl) (by rfl) (by rfl) (by rfl) (by omega) szR) rfl (fun _ => wsl) (fun _ => wsr) ?_
        intro v2 _
        refine wgs ?_
        refine OpsS.pure (φ := v2.oneCell' = true) (fun w' hw' => own_one (hw'.own (v := v2))) fun hone => ?_
        refine OpsS.hez0 (HE0.storeL rfl rfl rfl rfl hone wup wset) rfl ?_
        rintro ⟨⟩ _
        refine wgh ?_
        exact FinH.next (i + 1, v2) wsub (by dsimp only; simp only [e3]; exact wslb) wsr (by dsimp only; omega) (by dsimp only; omega)
      · obtain rfl : i = m.funcs.length := by omega
        refine wgh ?_
        refine CdH.regionS [0, 1, 2, 3, 4, 5, 6, 7, 8, 9] 10 [.blk bx [.pointer (some ⟨sp, 0, none⟩)] TSpP, .blk sp [tv', fv, bv, mv, gv, ev, .int .i64 (X2 m m.funcs.length).datas, .map (some im), .map (some dm)] TSp, .blk b ([Value.slice p0 m.types.length c0, Value.slice p1 m.imports.length c1, Value.slice p2 m.funcs.length c2, Value.slice p3 m.tables.length c3, Value.slice p4 m.mems.length c4, Value.slice p5 m.globals.length c5, Value.slice p6 m.exports.length c6, Value.bool m.hasStart, Value.int .i64 m.start, Value.slice p7 m.elems.length c7, Value.slice p8 m.datas.length c8, v9] : List Value) TMod] [Ext w] (by kernel_rfl) wsl wsr ?_
        refine wgs ?_
        refine OpsS.he (HE.appR (m.tables.flatMap tblC) rfl rfl (fun _ => wup) (flat_rd tblC (fun _ => rfl) (by omega) (fun h => table_rd h) r3 wmem) (flatMap_len tblC (fun _ => rfl) _) rfl rfl rfl (by rfl) (by rfl) (by rfl) (by rfl) (tblC_one _) (by have : (X2 m m.funcs.length).tables.length = (X1 m).tables.length := rfl; omega) szR) rfl (fun _ => wsl) (fun _ => wsr) ?_
        intro v2 _
        refine wgs ?_
        refine OpsS.pure (φ := v2.oneCell' = true) (fun w' hw' => own_one (hw'.own (v := v2))) fun hone => ?_
        refine OpsS.hez0 (HE0.storeL rfl rfl rfl rfl hone wup wset) rfl ?_
        rintro ⟨⟩ _
        refine wgh ?_
        refine CdH.regionS [0, 1, 2, 3, 4, 5, 6, 7, 8, 9] 10 [.blk bx [.pointer (some ⟨sp, 0, none⟩)] TSpP, .blk sp [tv', fv, v2, mv, gv, ev, .int .i64 (X2 m m.funcs.length).datas, .map (some im), .map (some dm)] TSp, .blk b ([Value.slice p0 m.types.length c0, Value.slice p1 m.imports.length c1, Value.slice p2 m.funcs.length c2, Value.slice p3 m.tables.length c3, Value.slice p4 m.mems.length c4, Value.slice p5 m.globals.length c5, Value.slice p6 m.exports.length c6, Value.bool m.hasStart, Value.int .i64 m.start, Value.slice p7 m.elems.length c7, Value.slice p8 m.datas.length c8, v9] : List Value) TMod] [Ext w] (by kernel_rfl) wsl wsr ?_
        refine wgs ?_
        refine OpsS.he (HE.appR (m.mems.flatMap limC) rfl rfl (fun _ => wup) (flat_rd limC (fun _ => rfl) (by omega) (fun h => limits_rd h) r4 wmem) (flatMap_len limC (fun _ => rfl) _) rfl rfl rfl (by rfl) (by rfl) (by rfl) (by rfl) (limC_one _) (by have : (X2 m m.funcs.length).mems.length = (X1 m).mems.length := rfl; omega) szR) rfl (fun _ => wsl) (fun _ => wsr) ?_
        intro v3 _
        refine wgs ?_
        refine OpsS.pure (φ := v3.oneCell' = true) (fun w' hw' => own_one (hw'.own (v := v3))) fun hone3 => ?_
        refine OpsS.hez0 (HE0.storeL rfl rfl rfl rfl hone3 wup wset) rfl ?_
        rintro ⟨⟩ _
        refine wgh ?_
        have e4 : (X4 m 0).globals = (X1 m).globals := by simp [X4]
        have e5 : (X4 m 0).tables = (X2 m m.funcs.length).tables ++ m.tables := rfl
        have e6 : (X4 m 0).mems = (X2 m m.funcs.length).mems ++ m.mems := rfl
        refine CdH.loop (σ := Nat × Value × (Int → Option Value)) (fun s => [(1, .pointer (some ⟨b, 0, none⟩)), (3, .pointer (some ⟨bx, 0, none⟩)), (11, .func (.func 39) #[] #[.pointer (some ⟨bx, 0, none⟩)]), (99, .slice p5 m.globals.length c5), (100, .int .i64 m.globals.length), (101, .int .i64 s.1)]) (fun s => spM w.heap.size bx sp im dm ⟨tv', fv, v2, v3, s.2.1, ev⟩ m.types.length tc (X4 m s.1) ig s.2.2 ++ [.blk b ([Value.slice p0 m.types.length c0, Value.slice p1 m.imports.length c1, Value.slice p2 m.funcs.length c2, Value.slice p3 m.tables.length c3, Value.slice p4 m.mems.length c4, Value.slice p5 m.globals.length c5, Value.slice p6 m.exports.length c6, Value.bool m.hasStart, Value.int .i64 m.start, Value.slice p7 m.elems.length c7, Value.slice p8 m.datas.length c8, v9] : List Value) TMod]) (fun s => [TyRd w.heap.size tc (m.types.take m.types.length), Ext w]) (fun s => s.1 ≤ m.globals.length ∧ Dec s.2.2 (d4 m s.1)) (fun s => m.globals.length - s.1) (0, gv, fun _ => none) wsub (by unfold spM; dsimp only; simp only [List.cons_append, List.nil_append, e4, e5, e6]; exact wslb) wsr ⟨by dsimp only; omega, fun k => by simp [d4]⟩ ?_
        rintro ⟨i, gv4, dg⟩ ⟨hi, hdec⟩
        dsimp only at hi hdec ⊢
        unfold spM
        simp only [List.cons_append, List.nil_append]
        by_cases hlt : i < m.globals.length
        · obtain ⟨b1, o1, rfl, hF, cs5, ⟨u0, rfl, q0, q2⟩, hc5⟩ := r5.el hlt
          obtain ⟨x2, y2, rfl, z2⟩ := q0.slice
          have e7 : (X4 m (i + 1)).globals = (X4 m i).globals ++ [(ix m.globals i).type_] := by simp [X4, take_succ_ix hlt]
          have l7 : (X4 m i).globals.length ≤ 3000 := by simp [X4]; omega
          have d7 : decl1 (d4 m i) (ix m.globals i).init_ = d4 m (i + 1) := by
            funext k; unfold decl1 d4; rw [take_succ_ix hlt, List.any_append]; simp
          refine wgh ?_
          refine OpsH.y_ (Yl.loadE rfl rfl rfl wmem (by rfl) (by rfl) hc5) rfl ?_
          refine OpsH.alloc [Value.int .i64 0, Value.bool false, Value.slice none 0 0] rfl rfl rfl fun b13 => ?_
          refine wgh ?_
          refine CdH.regionS [0, 1, 2, 3, 4, 5, 6, 7, 8, 9, 10] 11 [.blk b13 _ TGD, .blk bx [.pointer (some ⟨sp, 0, none⟩)] TSpP, .blk sp [tv', fv, v2, v3, gv4, ev, .int .i64 (X4 m i).datas, .map (some im), .map (some dm)] TSp] [] (by kernel_rfl) wsl wsr ?_
          refine wgs ?_
          refine OpsS.he (HE.bsl rfl rfl rfl rfl rfl wcel (by rfl) (by rfl)) rfl (fun _ => wsl) (fun _ => wsr) ?_
          intro b3 _
          refine OpsS.he (HE.app rfl rfl (fun _ => wup) wup rfl rfl rfl (by rfl) (by rfl) (by rfl) (by rfl) (by rfl) (by rfl) (by omega) szR) rfl (fun _ => wsl) (fun _ => wsr) ?_
          intro v4 _
          refine wgs ?_
          refine OpsS.pure (φ := v4.oneCell' = true) (fun w' hw' => own_one (hw'.own (v := v4))) fun hone => ?_
          refine OpsS.hez0 (HE0.storeL rfl rfl rfl rfl hone wup wset) rfl ?_
          rintro ⟨⟩ _
          refine wgh ?_
          refine OpsH.sub (E' := [(1, .pointer (some ⟨b, 0, none⟩)), (3, .pointer (some ⟨bx, 0, none⟩)), (11, .func (.func 39) #[] #[.pointer (some ⟨bx, 0, none⟩)]), (116, .func (.func 39) #[] #[.pointer (some ⟨bx, 0, none⟩)]), (118, .slice x2 (ix m.globals i).init_.length y2), (99, .slice (some ⟨b1, o1, none⟩) m.globals.length c5), (100, .int .i64 m.globals.length), (101, .int .i64 i)]) wsub (M' := (spM w.heap.size bx sp im dm ⟨tv', fv, v2, v3, v4, ev⟩ m.types.length tc (X4 m (i + 1)) ig dg ++ [.blk b ([Value.slice p0 m.types.length c0, Value.slice p1 m.imports.length c1, Value.slice p2 m.funcs.length c2, Value.slice p3 m.tables.length c3, Value.slice p4 m.mems.length c4, Value.slice (some ⟨b1, o1, none⟩) m.globals.length c5, Value.slice p6 m.exports.length c6, Value.bool m.hasStart, Value.int .i64 m.start, Value.slice p7 m.elems.length c7, Value.slice p8 m.datas.length c8, v9] : List Value) TMod])) (R' := [TyRd w.heap.size tc (m.types.take m.types.length), Ext w]) (by unfold spM; simp only [List.cons_append, List.nil_append, e7]; exact wslb) wsr ?_
          refine OpsH.he (HE.callMV (B := w.heap.size) (R' := [Ext w]) rfl rfl rfl (List.Perm.refl _) wsr (fun w' hw' _ => space_name F w.heap.size bx sp im dm _ m.types.length tc _ ig dg (d4 m i) (ix m.globals i).init_ _ w w' hw' q0 hdec) szR) rfl ?_
          intro dg' hdec'
          rw [d7] at hdec'
          refine wgh ?_
          refine FinH.next (i + 1, v4, dg') wsub ?_ wsr ⟨by dsimp only; omega, hdec'⟩ (by dsimp only; omega)
          unfold spM; simp only [List.cons_append, List.nil_append]; exact wslb
        · obtain rfl : i = m.globals.length := by omega
          refine wgh ?_
          have e8 : (X5 m 0).elems = (X4 m m.globals.length).elems := by simp only [X5, List.take_zero, List.map_nil, List.append_nil]; rfl
          refine CdH.loop (σ := Nat × Value × (Int → Option Value)) (fun s => [(1, .pointer (some ⟨b, 0, none⟩)), (3, .pointer (some ⟨bx, 0, none⟩)), (11, .func (.func 39) #[] #[.pointer (some ⟨bx, 0, none⟩)]), (122, .slice p7 m.elems.length c7), (123, .int .i64 m.elems.length), (124, .int .i64 s.1)]) (fun s => spM w.heap.size bx sp im dm ⟨tv', fv, v2, v3, gv4, s.2.1⟩ m.types.length tc (X5 m s.1) ig s.2.2 ++ [.blk b ([Value.slice p0 m.types.length c0, Value.slice p1 m.imports.length c1, Value.slice p2 m.funcs.length c2, Value.slice p3 m.tables.length c3, Value.slice p4 m.mems.length c4, Value.slice p5 m.globals.length c5, Value.slice p6 m.exports.length c6, Value.bool m.hasStart, Value.int .i64 m.start, Value.slice p7 m.elems.length c7, Value.slice p8 m.datas.length c8, v9] : List Value) TMod]) (fun s => [TyRd w.heap.size tc (m.types.take m.types.length), Ext w]) (fun s => s.1 ≤ m.elems.length ∧ Dec s.2.2 (d5 m s.1 0)) (fun s => m.elems.length - s.1) (0, ev, dg) wsub (by unfold spM; dsimp only; simp only [List.cons_append, List.nil_append, e8]; exact wslb) wsr ⟨by dsimp only; omega, fun k => by rw [hdec k]; simp [d5]⟩ ?_
          rintro ⟨i, ev5, dg⟩ ⟨hi, hdec⟩
          dsimp only at hi hdec ⊢
          unfold spM
          simp only [List.cons_append, List.nil_append]
          by_cases hlt : i < m.elems.length
          · obtain ⟨b1, o1, rfl, hF, cs5, ⟨u0, u1, rfl, q0, q1, q2⟩, hc5⟩ := r7.el hlt
            obtain ⟨x2, y2, rfl, z2⟩ := q0.slice
            obtain ⟨x4, y4, rfl, z4⟩ := q1.slice
            have e9 : (X5 m (i + 1)).elems = (X5 m i).elems ++ [(ix m.elems i).type_] := by simp [X5, take_succ_ix hlt]
            have l9 : (X5 m i).elems.length ≤ 3000 := by simp [X5]; omega
            refine wgh ?_
            refine OpsH.y_ (Yl.loadE rfl rfl rfl wmem (by rfl) (by rfl) hc5) rfl ?_
            refine OpsH.alloc [Value.int .i64 0, Value.int .i64 0, Value.slice none 0 0, Value.int .i64 0, Value.slice none 0 0] rfl rfl rfl fun b15 => ?_
            refine wgh ?_
            refine CdH.regionS [0, 1, 2, 3, 4, 5, 6, 7, 8, 9, 10] 11 [.blk b15 _ TEl, .blk bx [.pointer (some ⟨sp, 0, none⟩)] TSpP, .blk sp [tv', fv, v2, v3, gv4, ev5, .int .i64 (X5 m i).datas, .map (some im), .map (some dm)] TSp] [] (by kernel_rfl) wsl wsr ?_
            refine wgs ?_
            refine OpsS.he (HE.bsl rfl rfl rfl rfl rfl wcel (by rfl) (by rfl)) rfl (fun _ => wsl) (fun _ => wsr) ?_
            intro b3 _
            refine OpsS.he (HE.app rfl rfl (fun _ => wup) wup rfl rfl rfl (by rfl) (by rfl) (by rfl) (by rfl) (by rfl) (by rfl) (by omega) szR) rfl (fun _ => wsl) (fun _ => wsr) ?_
            intro v5 _
            refine wgs ?_
            refine OpsS.pure (φ := v5.oneCell' = true) (fun w' hw' => own_one (hw'.own (v := v5))) fun hone => ?_
            refine OpsS.hez0 (HE0.storeL rfl rfl rfl rfl hone wup wset) rfl ?_
            rintro ⟨⟩ _
            refine wgh ?_
            refine CdH.loop (σ := Nat × (Int → Option Value)) (fun s => [(1, .pointer (some ⟨b, 0, none⟩)), (3, .pointer (some ⟨bx, 0, none⟩)), (11, .func (.func 39) #[] #[.pointer (some ⟨bx, 0, none⟩)]), (122, .slice (some ⟨b1, o1, none⟩) m.elems.length c7), (123, .int .i64 m.elems.length), (124, .int .i64 i), (140, .slice x4 (ix m.elems i).items.length y4), (141, .int .i64 (ix m.elems i).items.length), (142, .int .i64 s.1)]) (fun s => spM w.heap.size bx sp im dm ⟨tv', fv, v2, v3, gv4, v5⟩ m.types.length tc (X5 m (i + 1)) ig s.2 ++ [.blk b ([Value.slice p0 m.types.length c0, Value.slice p1 m.imports.length c1, Value.slice p2 m.funcs.length c2, Value.slice p3 m.tables.length c3, Value.slice p4 m.mems.length c4, Value.slice p5 m.globals.length c5, Value.slice p6 m.exports.length c6, Value.bool m.hasStart, Value.int .i64 m.start, Value.slice (some ⟨b1, o1, none⟩) m.elems.length c7, Value.slice p8 m.datas.length c8, v9] : List Value) TMod]) (fun s => [TyRd w.heap.size tc (m.types.take m.types.length), Ext w]) (fun s => s.1 ≤ (ix m.elems i).items.length ∧ Dec s.2 (d5 m i s.1)) (fun s => (ix m.elems i).items.length - s.1) (0, dg) wsub (by unfold spM; dsimp only; simp only [List.cons_append, List.nil_append, e9]; exact wslb) wsr ⟨by dsimp only; omega, hdec⟩ ?_
            rintro ⟨j, dg6⟩ ⟨hj, hdec6⟩
            dsimp only at hj hdec6 ⊢
            by_cases hjl : j < (ix m.elems i).items.length
            · obtain ⟨b7, o7, rfl, -, u7, c7_, hu7⟩ := q1.el hjl
              rw [Nat.mul_one] at c7_
              obtain ⟨x8, y8, rfl, -⟩ := hu7.slice
              have d8 : decl1 (d5 m i j) (ix (ix m.elems i).items j) = d5 m i (j + 1) := by
                funext k; unfold decl1 d5; rw [take_succ_ix hjl, List.any_append, Bool.or_assoc]; simp
              refine wgh ?_
              refine OpsH.he (HE.callMV (B := w.heap.size) (R' := [Ext w]) rfl rfl rfl (List.Perm.refl _) wsr (fun w' hw' _ => space_name F w.heap.size bx sp im dm _ m.types.length tc _ ig dg6 (d5 m i j) (ix (ix m.elems i).items j) _ w w' hw' hu7 hdec6) szR) rfl ?_
              intro dg' hdec'
              rw [d8] at hdec'
              refine wgh ?_
              exact FinH.next (j + 1, dg') wsub (by unfold spM; simp only [List.cons_append, List.nil_append]; exact wslb) wsr ⟨by dsimp only; omega, hdec'⟩ (by dsimp only; omega)
            · obtain rfl : j = (ix m.elems i).items.length := by omega
              have d9 : d5 m i (ix m.elems i).items.length = d5 m (i + 1) 0 := by
                funext k; unfold d5; rw [List.take_length, take_succ_ix hlt, List.any_append]; simp [Bool.or_assoc]
              rw [d9] at hdec6
              refine wgh ?_
              exact FinH.next (i + 1, v5, dg6) wsub (by unfold spM; dsimp only; simp only [List.cons_append, List.nil_append]; exact wslb) wsr ⟨by dsimp only; omega, hdec6⟩ (by dsimp only; omega)
          · obtain rfl : i = m.elems.length := by omega
            refine wgh ?_
            refine CdH.loop (σ := Nat × (Int → Option Value)) (fun s => [(1, .pointer (some ⟨b, 0, none⟩)), (3, .pointer (some ⟨bx, 0, none⟩)), (11, .func (.func 39) #[] #[.pointer (some ⟨bx, 0, none⟩)]), (152, .slice p6 m.exports.length c6), (153, .int .i64 m.exports.length), (154, .int .i64 s.1)]) (fun s => spM w.heap.size bx sp im dm ⟨tv', fv, v2, v3, gv4, ev5⟩ m.types.length tc (X5 m m.elems.length) ig s.2 ++ [.blk b ([Value.slice p0 m.types.length c0, Value.slice p1 m.imports.length c1, Value.slice p2 m.funcs.length c2, Value.slice p3 m.tables.length c3, Value.slice p4 m.mems.length c4, Value.slice p5 m.globals.length c5, Value.slice p6 m.exports.length c6, Value.bool m.hasStart, Value.int .i64 m.start, Value.slice p7 m.elems.length c7, Value.slice p8 m.datas.length c8, v9] : List Value) TMod]) (fun s => [TyRd w.heap.size tc (m.types.take m.types.length), Ext w]) (fun s => s.1 ≤ m.exports.length ∧ Dec s.2 (d6 m s.1)) (fun s => m.exports.length - s.1) (0, dg) wsub (by unfold spM; dsimp only; simp only [List.cons_append, List.nil_append]; exact wslb) wsr ⟨by dsimp only; omega, fun k => by rw [hdec k]; simp [d5, d6]⟩ ?_
            rintro ⟨i, dg⟩ ⟨hi, hdec⟩
            dsimp only at hi hdec ⊢
            unfold spM
            simp only [List.cons_append, List.nil_append]
            by_cases hlt : i < m.exports.length
            · obtain ⟨b1, o1, rfl, hF, he⟩ := r6.el hlt
              have hri := he.index_r
              obtain ⟨cs9, hV9, hc9⟩ := he
              obtain ⟨rfl, -⟩ := hV9
              have hnx : ∀ k, d6 m (i + 1) k = (d6 m i k || (decide ((ix m.exports i).kind = 0) && decide ((ix m.exports i).index = k))) := fun k => by
                unfold d6; rw [take_succ_ix hlt, List.any_append]; simp [Bool.or_assoc]
              refine wgh ?_
              refine OpsH.y_ (Yl.loadE rfl rfl rfl wmem (by rfl) (by rfl) hc9) rfl ?_
              refine OpsH.alloc [Value.string ⟨#[]⟩, Value.int .i64 0, Value.int .i64 0] rfl rfl rfl fun b19 => ?_
              refine wgh ?_
              by_cases hk0 : (ix m.exports i).kind = 0
              · refine wgh ?_
                refine CdH.regionS [0, 1, 2, 3, 4, 5] 6 [.blk b19 _ TExp, .blk bx [.pointer (some ⟨sp, 0, none⟩)] TSpP, .blk sp [tv', fv, v2, v3, gv4, ev5, .int .i64 (X5 m m.elems.length).datas, .map (some im), .map (some dm)] TSp] [] (by kernel_rfl) wsl wsr ?_
                refine wgs ?_
                refine OpsS.hez0 (HE0.mapUpdate Tryz.underlying93 Tryz.underlying3 rfl rfl rfl hri wup) rfl ?_
                rintro ⟨⟩ _
                refine wgh ?_
                refine FinH.next (i + 1, put dg (ix m.exports i).index (.bool true)) wsub (by dsimp only; exact wslb) wsr ⟨by dsimp only; omega, fun k => ?_⟩ (by dsimp only; omega)
                dsimp only
                rw [hdec.put _ k, hnx k]; simp [hk0]
              · refine wgh ?_
                refine FinH.next (i + 1, dg) wsub (by dsimp only; exact wslb) wsr ⟨by dsimp only; omega, fun k => ?_⟩ (by dsimp only; omega)
                dsimp only
                rw [hdec k, hnx k]; simp [hk0]
            · obtain rfl : i = m.exports.length := by omega
              refine wgh ?_
              refine OpsH.box [Value.pointer (some ⟨sp, 0, none⟩)] rfl rfl rfl fun bS => ?_
              refine wgh ?_
              refine FinH.ret1 rfl rfl fun w' hw' => ?_
              have hbig : ∀ k, Mb _ k → k < w.heap.size → False := hw'.origin (S := fun _ => False) (w0 := w) wmem
              have hx : Ext w w' := hw'.at
              have hty : TyRd w.heap.size tc (m.types.take m.types.length) w' := hw'.at
              rw [List.take_length] at hty
              have o1 := hw'.own (v := fv)
              have o2 := hw'.own (v := v2)
              have o3 := hw'.own (v := v3)
              have o4 := hw'.own (v := gv4)
              have o5 := hw'.own (v := ev5)
              have o6 := hw'.own (v := tv')
              have hge : ∀ q : Res, q ∈ _ → ∀ k, q.F k → w.heap.size ≤ k := fun q hq k hk => by
                rcases Nat.lt_or_ge k w.heap.size with h | h
                · exact (hbig k ⟨q, hq, hk⟩ h).elim
                · exact h
              refine ⟨⟨_, rfl, bS, sp, im, dm, ⟨tv', fv, v2, v3, gv4, ev5⟩, tc, ig, dg, rfl, ⟨hge (.blk bS [.pointer (some ⟨sp, 0, none⟩)] TSpace) wmm bS rfl, hge (.blk sp [tv', fv, v2, v3, gv4, ev5, .int .i64 (X5 m m.elems.length).datas, .map (some im), .map (some dm)] TSp) wmm sp rfl, hge (.iv im ig) wmm im rfl, hge (.iv dm dg) wmm dm rfl⟩, ⟨(hw'.m (.blk bS [.pointer (some ⟨sp, 0, none⟩)] TSpace) wmm).1, (hw'.m (.blk sp [tv', fv, v2, v3, gv4, ev5, .int .i64 (X5 m m.elems.length).datas, .map (some im), .map (some dm)] TSp) wmm).1, o1, o2, o3, o4, o5, o6, (hw'.m (.iv im ig) wmm).1, (hw'.m (.iv dm dg) wmm).1, hcnt, hdec, hty⟩⟩, hx⟩
end Go.Proofs.YtgbgnipidakdhaaGreatDoor
