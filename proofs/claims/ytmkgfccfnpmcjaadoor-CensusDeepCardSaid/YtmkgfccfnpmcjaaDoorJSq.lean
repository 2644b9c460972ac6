/- space.Of: the rest. -/
import Derived.Test.YtmkgfccfnpmcjaaDoorJSp
namespace Go.Proofs.YtmkgfccfnpmcjaaDoor
open Go.RowKit
set_option maxRecDepth 100000
section
variable {ops : Array Oper} {Q : Exit → Act → World → Prop} {n : Nat} {E : Env} {M M' : List Res} {R : List (World → Prop)} {rest l : List Oper} {op : Op} {d : Nat} {ty : TypeId} {pos : String} {aft : Array Edge} {v : Value} {x y z : Operand} {t : TypeId} {C : World → Prop}
/-- append of a slice that is read onto a row of the call's own -/
theorem HE.appRB {Mf : Value → List Res} {ti te : TI} {B T s m k c : Nat} {po : Option Addr} {xs : List Value} (ys : List Value) (hx : ev E x = some v) (hy : ev E y = some (.slice po k c)) (hM : ∀ v', Up (.own B T s v m xs) (.own B T s v' (m + k) (xs ++ ys)) M (Mf v'))
    (hrd : k = 0 ∨ ∃ bk o, po = some ⟨bk, o, none⟩ ∧ ∀ w, Ok M R w → ∀ j u, ys[j]? = some u → w.cell? ⟨bk, o + j, none⟩ = some u) (hys : ys.length = k * s)
    (ht : G.ty t = some ti) (he : ti.elem = some T) (hte : G.ty T = some te) (hs : te.size = s) (hzs : Nat.beq te.zero.cells.size te.size = true) (hsz : Nat.blt 0 te.size = true) (h1 : ∀ u ∈ ys, u.oneCell' = true) (hby : (m + k) * te.bytes ≤ 140737488355328) (hml : m + k ≤ 9223372036854775807) (hB : ∀ w, Ok M R w → B ≤ w.heap.size) :
    HE n (.call ⟨.builtin .append, #[x, y], #[t, t]⟩) E M R (fun _ : Value => True) (fun v' => v') Mf (fun _ => R) :=
  ⟨fun w hw => by
    subst hs
    have hm := (hw.m _ (hM undef).mem)
    have ho : w.ownsRow B T te.size v m xs := hm.1
    have hsz' : 0 < te.size := by simpa using hsz
    have key : ∀ v' w', w'.ownsRow B T te.size v' (m + k) (xs ++ ys) → Chg (fun k => v.ownBlock = some k) w w' → (v'.ownBlock = v.ownBlock ∨ v'.ownBlock = some w.heap.size) → ∃ x : Value, True ∧ v' = x ∧ Ok (Mf x) R w' := fun v' w' ho' hc hob =>
      ⟨v', trivial, rfl, hw.upd (hM v') hc ho' fun i hi => ⟨(ho'.lt i hi).2, fun hlt => by
        rcases hob with e | e
        · show v.ownBlock = some i
          rw [← e]; exact hi
        · have hk' : v'.ownBlock = some i := hi
          rw [e] at hk'; cases hk'; omega⟩⟩
    by_cases h0 : k = 0
    · subst h0
      obtain ⟨po, c, rfl, hc, _⟩ := own_slice ho
      have hy0 : ys = [] := List.eq_nil_of_length_eq_zero (by simpa using hys)
      subst hy0
      refine (Eff.append0 (G := G) ht he hte hx hc hy).mono ?_
      rintro _ _ ⟨rfl, rfl⟩
      exact key _ _ (by rw [List.append_nil]; exact ho) (Chg.refl _ _) (.inl rfl)
    · obtain ⟨bk, o, rfl, hr⟩ := hrd.resolve_left h0
      refine (Eff.appendB (G := G) (news := ys) ht he hte (Nat.eq_of_beq_eq_true hzs) hsz' hx ho hy hys (fun j u hj => hr w hw j u hj) h1 (by unfold maxLen; omega) hby (hB w hw)).mono fun v' w' ⟨a, b, c⟩ => key v' w' a b c⟩
end
/-- what a map of bools tells -/
def Dec (g : Int → Option Value) (d : Int → Bool) : Prop := ∀ k, (g k).getD (.bool false) = .bool (d k)
def named (l : List Ins) (k : Int) : Bool := l.any fun x => decide (x.op = 210) && decide (x.a = k)
def decl1 (d : Int → Bool) (l : List Ins) : Int → Bool := fun k => d k || named l k
theorem named_app (l r : List Ins) (k : Int) : named (l ++ r) k = (named l k || named r k) := by unfold named; rw [List.any_append]
theorem Dec.put {g : Int → Option Value} {d : Int → Bool} (h : Dec g d) (a : Int) : Dec (put g a (.bool true)) (fun k => d k || decide (a = k)) := fun b => by
  unfold Go.Proofs.YtmkgfccfnpmcjaaDoor.put
  by_cases e : b = a
  · subst e; simp
  · have e' : ¬ a = b := fun h => e h.symm
    simp only [if_neg e, e', decide_false, Bool.or_false]; exact h b
abbrev TIns2 : Nat := 53
def NamePost (B bx sp im dm : Nat) (v : SpV) (tn : Nat) (tc : List Value) (X : SpX) (ig dg : Int → Option Value) (d : Int → Bool) (l : List Ins) (w : World) : Ending → World → Prop :=
  MutPost (spM B bx sp im dm v tn tc X ig dg) w (fun _ : (Int → Option Value) => .tuple #[]) (fun g => Dec g (decl1 d l)) (fun g => spM B bx sp im dm v tn tc X ig g)
set_option maxHeartbeats 16000000 in
theorem space_name (F : Nat → Prop) (B bx sp im dm : Nat) (v : SpV) (tn : Nat) (tc : List Value) (X : SpX) (ig dg : Int → Option Value) (d : Int → Bool) (l : List Ins) (lv : Value) (w0 w : World) (hw : Ok (spM B bx sp im dm v tn tc X ig dg) [Ext w0] w) (hl : BodyR F w0 lv l) (hd : Dec dg d) :
    Calls G.P 30 #[lv, .pointer (some ⟨bx, 0, none⟩)] w (NamePost B bx sp im dm v tn tc X ig dg d l w) := by
  obtain ⟨tv, fv, bv, mv, gv, ev⟩ := v
  obtain ⟨p, c, rfl, hll⟩ := hl.slice
  refine enterH (l := [.slice p l.length c, .pointer (some ⟨bx, 0, none⟩)]) Tryd.func30 rfl Tryd.ntmps30 rfl (Ok.startM hw) ?_
  generalize hS : Mb (spM B bx sp im dm ⟨tv, fv, bv, mv, gv, ev⟩ tn tc X ig dg) = S0
  refine wgh ?_
  refine CdH.loop (σ := Nat × (Int → Option Value)) (fun s => [(1, .pointer (some ⟨bx, 0, none⟩)), (5, .slice p l.length c), (6, .int .i64 l.length), (7, .int .i64 s.1)]) (fun s => spM B bx sp im dm ⟨tv, fv, bv, mv, gv, ev⟩ tn tc X ig s.2) (fun _ => [Chg S0 w, Ext w0]) (fun s => s.1 ≤ l.length ∧ Dec s.2 (decl1 d (l.take s.1))) (fun s => l.length - s.1) (0, dg) wsub wsl wsr ⟨by dsimp only; omega, by dsimp only; intro k; rw [hd k]; simp [decl1, named]⟩ ?_
  rintro ⟨i, g⟩ ⟨hi, hg⟩
  dsimp only at hi hg ⊢
  by_cases hlt : i < l.length
  · obtain ⟨b6, o6, rfl, -, hall⟩ := hl.at hlt
    have hra := (hall i hlt).ra
    obtain ⟨tv9, lv9, htv, hlv, hc9⟩ := (hall i hlt).all9
    obtain ⟨xt, yt, rfl, -⟩ := htv.slice
    obtain ⟨xl, yl, rfl, -⟩ := hlv.slice
    have hnx : ∀ k, decl1 d (l.take (i + 1)) k = (decl1 d (l.take i) k || (decide ((ix l i).op = 210) && decide ((ix l i).a = k))) := fun k => by
      unfold decl1; rw [take_succ_ix hlt, named_app, Bool.or_assoc]; simp [named]
    unfold spM
    dsimp only
    refine wgh ?_
    refine OpsH.y_ (Yl.loadE rfl rfl rfl wmem (by rfl) (by rfl) hc9) rfl ?_
    refine OpsH.alloc [Value.int .i64 0, Value.int .i64 0, Value.int .i64 0, Value.int .u64 0, Value.int .i64 0, Value.int .i64 0, Value.int .i64 0, Value.slice none 0 0, Value.slice none 0 0] rfl rfl rfl fun b9 => ?_
    refine wgh ?_
    by_cases h210 : (ix l i).op = 210
    · refine wgh ?_
      refine CdH.regionS [0, 1, 2, 3, 4, 5] 6 [.blk b9 _ TIns2, .blk bx [.pointer (some ⟨sp, 0, none⟩)] TSpP, .blk sp [tv, fv, bv, mv, gv, ev, .int .i64 X.datas, .map (some im), .map (some dm)] TSp] [] (by kernel_rfl) wsl wsr ?_
      refine wgs ?_
      refine OpsS.hez0 (HE0.mapUpdate Tryd.underlying102 Tryd.underlying3 rfl rfl rfl hra wup) rfl ?_
      rintro ⟨⟩ _
      refine wgh ?_
      refine FinH.next (i + 1, put g (ix l i).a (.bool true)) wsub wsl wsr ⟨by dsimp only; omega, ?_⟩ (by dsimp only; omega)
      dsimp only
      intro k
      rw [hg.put _ k, hnx k]; simp [h210]
    · refine wgh ?_
      refine FinH.next (i + 1, g) wsub wsl wsr ⟨by dsimp only; omega, ?_⟩ (by dsimp only; omega)
      dsimp only
      intro k
      rw [hg k, hnx k]; simp [h210]
  · obtain rfl : i = l.length := by omega
    refine wgh ?_
    refine FinH.end0 rfl fun w' hw' => ?_
    unfold NamePost
    rw [List.take_length] at hg
    exact MutPost.of (x := g) hg hw' rfl (by rw [hS]; exact wmem)

theorem ints_rd {F : Nat → Prop} {w : World} {p : Option Addr} {n c : Nat} {xs : List Int} {M : List Res} {R : List (World → Prop)} (h : IntsR F w (.slice p n c) xs) (hR : Ext w ∈ R) : xs.length = 0 ∨ ∃ bk o, p = some ⟨bk, o, none⟩ ∧ ∀ w', Ok M R w' → ∀ j u, (xs.map (Value.int .i64))[j]? = some u → w'.cell? ⟨bk, o + j, none⟩ = some u := by
  obtain ⟨p', c', e, hl, h⟩ := h
  cases e
  rcases h with h | ⟨b, o, rfl, hF, h⟩
  · exact .inl (by rw [h]; rfl)
  · refine .inr ⟨b, o, rfl, fun w' hw' j u hj => ?_⟩
    rw [List.getElem?_map] at hj
    by_cases hlt : j < xs.length
    · rw [ix_some hlt] at hj
      cases hj
      exact (show Ext w w' from hw'.get hR).cell (h j hlt)
    · rw [List.getElem?_eq_none (by omega)] at hj; cases hj
theorem ints_one (xs : List Int) : ∀ u ∈ xs.map (Value.int .i64), u.oneCell' = true := by
  intro u hu; obtain ⟨a, _, rfl⟩ := List.mem_map.1 hu; rfl
theorem own_ints {w : World} {B T : Nat} {v : Value} {xs : List Int} (h : w.ownsRow B T 1 v xs.length (xs.map (Value.int .i64))) (hl : xs.length ≤ 17592186043904) : IntsR (fun k => B ≤ k) w v xs := by
  obtain ⟨p, c, rfl, hn, hc, hg⟩ := own_slice h
  refine ⟨p, c, rfl, hl, ?_⟩
  by_cases hx : xs = []
  · exact .inl hx
  · obtain ⟨g, rfl, h1, h2⟩ := hg (List.length_pos_iff.2 hx)
    exact .inr ⟨g, 0, rfl, h1, fun i hi => by rw [Nat.zero_add]; exact own_get h (by rw [List.getElem?_map, ix_some hi]; rfl)⟩
set_option maxHeartbeats 16000000 in
theorem space_copied (F : Nat → Prop) (f : ApiFunc) (u0 u1 : Value) (w : World) (h0 : IntsR F w u0 f.params) (h1 : IntsR F w u1 f.results) : Calls G.P 28 #[.agg #[u0, u1]] w fun e w' => (∃ x : Value × Value, e = .returned (.agg #[x.1, x.2]) ∧ IntsR (fun k => w.heap.size ≤ k) w' x.1 f.params ∧ IntsR (fun k => w.heap.size ≤ k) w' x.2 f.results) ∧ Ext w w' := by
  obtain ⟨p0, c0, rfl, l0⟩ := h0.slice
  obtain ⟨p1, c1, rfl, l1⟩ := h1.slice
  refine enterH (l := [.agg #[.slice p0 f.params.length c0, .slice p1 f.results.length c1]]) Tryd.func28 rfl Tryd.ntmps28 rfl (Ok.start w) ?_
  refine wgh ?_
  refine OpsH.box [.slice p0 f.params.length c0, .slice p1 f.results.length c1] rfl rfl rfl fun b1 => ?_
  refine wgh ?_
  refine OpsH.alloc [Value.slice none 0 0, Value.slice none 0 0] rfl rfl rfl fun b2 => ?_
  refine wgh ?_
  refine CdH.nilO w.heap.size TVal 1 ?_
  refine CdH.nilO w.heap.size TVal 1 ?_
  refine CdH.regionS [0, 1, 3, 4, 2, 5, 6] 7 [.blk b1 [.slice p0 f.params.length c0, .slice p1 f.results.length c1] TFn] [Ext w] (by kernel_rfl) wsl wsr ?_
  refine wgs ?_
  refine OpsS.he (HE.appRB (f.params.map (Value.int .i64)) rfl rfl (fun _ => wup) (ints_rd h0 wmem) (by simp) rfl rfl rfl (by rfl) (by rfl) (by rfl) (ints_one _) (by show (0 + f.params.length) * 8 ≤ _; omega) (by omega) szR) rfl (fun _ => wsl) (fun _ => wsr) ?_
  intro v1 _
  refine OpsS.he (HE.appRB (f.results.map (Value.int .i64)) rfl rfl (fun _ => wup) (ints_rd h1 wmem) (by simp) rfl rfl rfl (by rfl) (by rfl) (by rfl) (ints_one _) (by show (0 + f.results.length) * 8 ≤ _; omega) (by omega) szR) rfl (fun _ => wsl) (fun _ => wsr) ?_
  intro v2 _
  refine OpsS.pure (φ := (∃ p c, v1 = .slice p (0 + f.params.length) c) ∧ ∃ p c, v2 = .slice p (0 + f.results.length) c) (fun w' hw' => ⟨?_, ?_⟩) ?_
  · obtain ⟨p, c, e, _⟩ := own_slice (hw'.own (v := v1)); exact ⟨p, c, e⟩
  · obtain ⟨p, c, e, _⟩ := own_slice (hw'.own (v := v2)); exact ⟨p, c, e⟩
  rintro ⟨⟨q1, d1, rfl⟩, ⟨q2, d2, rfl⟩⟩
  refine wgs ?_
  refine OpsS.hez0 (HE0.storeB _ rfl rfl rfl rfl rfl rfl wup rfl) rfl ?_
  rintro ⟨⟩ _
  refine wgh ?_
  refine FinH.ret1c (.inl rfl) rfl rfl rfl rfl rfl wup rfl fun w' hw' => ⟨⟨(_, _), rfl, ?_, ?_⟩, hw'.at⟩
  · have := hw'.own (v := .slice q1 (0 + f.params.length) d1)
    rw [Nat.zero_add] at this ⊢
    exact own_ints this l0
  · have := hw'.own (v := .slice q2 (0 + f.results.length) d2)
    have e : 0 + f.results.length = f.results.length := Nat.zero_add _
    rw [e] at this
    show IntsR _ w' (.slice q2 (0 + f.results.length) d2) _
    rw [e]; exact own_ints this l1
end Go.Proofs.YtmkgfccfnpmcjaaDoor
