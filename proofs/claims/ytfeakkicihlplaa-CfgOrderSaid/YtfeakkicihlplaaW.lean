/- The rows of chapter 36: out of the laws' walks. -/
import Derived.Test.YtfeakkicihlplaaRows
import Derived.Test.YtfeakkicihlplaaO
import Derived.ProofKit
import Derived.OpenShut
namespace Go.Proofs.Ytfeakkicihlplaa
open Go.ChangeShapes Go.WideShapes Go.ChangeAt Go.RowKit

theorem own : ownKnob Try.prog.godebug = none := by kernel_rfl
theorem laidOut : laidOutB Try.prog = true := by kernel_rfl

section
variable {H : Type} {enc : TypeId × Value → H} {P : Program}
/-- each of the types can be read and is a row of the table -/
def rowed (P : Program) (ts : List TypeId) : Bool := ts.all fun t => P.readableRec t && decide (t < P.types.size)
theorem trodAll_stays (hl : laidOutB P = true) {W W' : World} (hb : Below W.heap.size W W') {sp : Nat → Bool} : ∀ {ts : List TypeId} {vs : List Value} {ds : List (DataW H)} {ps : List MemPlace}, rowed P ts = true →
    DataW.TrodAll enc P W 0 (fun _ => true) true ts vs ds ps → (∀ x ∈ ps, x.block < W.heap.size) → (∀ x ∈ ps, sp x.block = true) → DataW.TrodAll enc P W' 0 sp true ts vs ds ps
  | [], _, _, _, _, h, _, _ => by
    obtain ⟨rfl, rfl, rfl⟩ := trodAll_nil h
    exact trodAll_mk0
  | t :: ts, _, _, _, hr, h, h1, h2 => by
    obtain ⟨v, vs, d, ds, p, q, rfl, rfl, rfl, ht, hts⟩ := trodAll_cons h
    simp only [rowed, List.all_cons, Bool.and_eq_true, decide_eq_true_eq] at hr
    refine trodAll_cons_mk (Go.WideElems.Trod_stays hl hr.1.1 hr.1.2 ht (fun x hx => hb.same (h1 x (by simp [hx]))) (fun x hx => h2 x (by simp [hx]))) (trodAll_stays hl hb (by simpa [rowed] using hr.2) hts (fun x hx => h1 x (by simp [hx])) (fun x hx => h2 x (by simp [hx])))
/-- a law's postcondition: it has answered true, and below the heap's old size nothing has turned -/
theorem post_of_true {f : Func} {s : ChangeSpec} {apart fresh handsOn again : Bool} {W W' : World} {args : Array Value} {ds gs : List (DataW H)} {before : List MemPlace} {tb : TypeId}
    (hl : laidOutB P = true) (hv : s.vars = []) (hr : f.resultTypes = #[tb]) (hb : P.underlying tb = some .bool) (hp : rowed P f.params.toList = true)
    (hW : DataW.Whole enc P f.params.toList s.vars apart W args.toList ds gs before) (hfn : gs = [] → s.fn H ds = { results := [.lit (.bool true)], args := ds }) (hx : Below W.heap.size W W') :
    s.post enc P f apart fresh handsOn again W args (.bool true) W' := by
  have hlt := hW.lt
  have hW' := hW
  obtain ⟨pa, pv, hA, hV, rfl, hz, hn⟩ := hW
  rw [hv] at hV
  obtain ⟨rfl, rfl⟩ := trodVars_none hV
  have e : s.fn H (ds ++ []) = { results := [.lit (.bool true)], args := ds } := by rw [List.append_nil]; exact hfn rfl
  simp only [List.append_nil] at hlt hz hn hW'
  have hres : ∀ b sp hd, DataW.TrodAll enc P W' b sp hd f.resultTypes.toList ((Value.bool true).resultList f.resultTypes.size) [.lit (.bool true)] [] := fun b sp hd => by
    rw [hr]; exact trodAll_cons_mk (shut_bool hb _) trodAll_mk0
  have hargs : ∀ sp : Nat → Bool, (∀ p ∈ pa, sp p.block = true) → DataW.TrodAll enc P W' 0 sp true f.params.toList args.toList ds pa := fun sp hsp => trodAll_stays hl hx hp hA hlt hsp
  have hvars : ∀ sp : Nat → Bool, DataW.TrodVars enc P W' sp s.vars [] [] := fun sp => by rw [hv]; rfl
  refine ⟨ds, [], pa, [], pa, [], hW', by rw [e]; exact hres _ _ _, by rw [e]; exact hargs _ (fun p hp => by simpa using hlt p hp), by rw [e]; exact hvars _, hx.frame _, fun _ => ⟨?_, [.lit (.bool true)] ++ ds, [], ([] ++ pa) ++ [], ⟨[] ++ pa, [], ?_, hvars _, rfl, ?_, ?_⟩, ?_⟩⟩
  · exact ok_one hr rfl (okWide_bool_mk hb _)
  · exact trodAll_append (hargs _ (fun _ _ => rfl)) (hres _ _ _)
  · intro b off hp
    have hp' : MemPlace.cell b off ∈ pa := by simpa using hp
    rw [hx.frozen (hlt _ hp')]
    exact hz b off hp'
  · intro ha
    simpa using hn ha
  · intro p hp _
    simpa using hp
theorem weights_app {P : Program} : ∀ (ts us : List TypeId) (ds : List (DataW H)), ∀ n ∈ DataW.weightsEach P ts ds, n ∈ DataW.weightsEach P (ts ++ us) ds
  | [], _, _, n, h => by simp [DataW.weightsEach] at h
  | _ :: _, _, [], n, h => by simp [DataW.weightsEach] at h
  | t :: ts, us, d :: ds, n, h => by
    simp only [DataW.weightsEach, List.cons_append, List.mem_append] at h ⊢
    rcases h with h | h
    · exact .inl h
    · exact .inr (weights_app ts us ds n h)
end

section
variable {H : Type} {enc : TypeId × Value → H} {w : World} {t : TypeId} {v : Value} {d : DataW H} {ps : List MemPlace}
/-- an argument's reading, as a typed reading of its cells -/
theorem arg_tr (h : DataW.Trod enc G.P w 0 (fun _ => true) true t v d ps) (hw : ∀ n ∈ d.weights G.P t, n ≤ reachBytes) : Tr w t v.cells.toList := by
  obtain ⟨fuel, h⟩ := h
  exact ⟨H, enc, _, _, fuel, _, h, hw⟩
set_option maxRecDepth 100000 in
theorem arg_body {bs : Nat} (ho : Value.okWide G.P w .any bs 22 v) (h : DataW.Trod enc G.P w 0 (fun _ => true) true 22 v d ps) (hw : ∀ n ∈ d.weights G.P 22, n ≤ reachBytes) : ∃ xs, Body w v xs := by
  obtain ⟨a, len, cap, rfl⟩ := okWide_slice (P := G.P) Try.underlying22 ho
  obtain ⟨u, xs, e, hb⟩ := (arg_tr h hw).body
  cases e
  exact ⟨xs, hb⟩
set_option maxRecDepth 100000 in
theorem arg_bks {bs : Nat} (ho : Value.okWide G.P w .any bs 28 v) (h : DataW.Trod enc G.P w 0 (fun _ => true) true 28 v d ps) (hw : ∀ n ∈ d.weights G.P 28, n ≤ reachBytes) : ∃ bs nvs, BlocksN (fun _ => True) w v bs nvs := by
  obtain ⟨a, len, cap, rfl⟩ := okWide_slice (P := G.P) Try.underlying28 ho
  obtain ⟨u, bs, nvs, e, hb⟩ := (arg_tr h hw).bks
  cases e
  exact ⟨bs, nvs, hb⟩
set_option maxRecDepth 100000 in
theorem arg_int {bs : Nat} {k : IntKind} (ht : G.P.underlying t = some (.int k)) (ho : Value.okWide G.P w .any bs t v) (h : DataW.Trod enc G.P w 0 (fun _ => true) true t v d ps) (hw : ∀ n ∈ d.weights G.P t, n ≤ reachBytes) : ∃ a, v = .int k a ∧ (Lit.int k a).wf = true := by
  obtain ⟨n, rfl⟩ := okWide_int (P := G.P) ht ho
  obtain ⟨a, e, hwf⟩ := (arg_tr h hw).int ht
  cases e
  exact ⟨n, rfl, hwf⟩
end
end Go.Proofs.Ytfeakkicihlplaa
