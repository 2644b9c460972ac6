/- A region that draws its order, in which two operations that make memory may come in either order: each order is walked. -/
import Derived.Test.YtfeakkicihlplaaK
namespace Go.Proofs.Ytfeakkicihlplaa
open Go.RowKit

section
variable {P : Program} {md : Region.Mode} {C : World → Prop}
def preB (md : Region.Mode) (ops : Array Oper) : List Nat → Array Bool → Bool
  | [], _ => true
  | k :: r, listed => (match ops[k]? with
     | some o => isQ o.op && (Region.ready md ops listed).contains k && Region.free md ops listed k
     | none => false) && preB md ops r (listed.setIfInBounds k true)
def setAll : List Nat → Array Bool → Array Bool
  | [], listed => listed
  | k :: r, listed => setAll r (listed.setIfInBounds k true)

theorem no_z {l : List Oper} {listed : Array Bool} : l.length ∉ Region.ready md l.toArray listed := by
  intro h
  obtain ⟨_, o2, ho2, _⟩ := mem_ready.1 h
  have := (Array.getElem?_eq_some_iff.1 ho2).1
  simp at this

theorem wpAnyM_pre {l : List Oper} {K K2 : Act → World → Prop} (hs : Region.noSelect l.toArray = true) (fuel : Nat) : ∀ (pre : List Nat) (listed : Array Bool) (a : Act) (w : World), C w → Clo md l.toArray listed → preB md l.toArray pre listed = true →
    wpMix P l.toArray C false K2 (pick l pre) a w → (∀ a', K2 a' w → Clo md l.toArray (setAll pre listed) → wpAnyM P md l.toArray C l.length K fuel (setAll pre listed) a' w) → wpAnyM P md l.toArray C l.length K (fuel + pre.length) listed a w
  | [], listed, a, w, hC, hcl, _, h, hk => hk a h hcl
  | k :: r, listed, a, w, hC, hcl, hB, h, hk => by
    simp only [preB, Bool.and_eq_true] at hB
    obtain ⟨hB1, hB2⟩ := hB
    cases ho : l.toArray[k]? with
    | none => simp [ho] at hB1
    | some o =>
      have hl : l[k]? = some o := by simpa using ho
      have hkl : k < l.length := (List.getElem?_eq_some_iff.1 hl).1
      have hp : pick l (k :: r) = o :: pick l r := by simp [pick, hl]
      rw [hp] at h
      simp only [ho, Bool.and_eq_true] at hB1
      obtain ⟨⟨hq, hkr'⟩, hfr⟩ := hB1
      have hy : ∃ v, YV P l.toArray C o v a ∧ wpMix P l.toArray C false K2 (pick l r) (a.put o.dst v) w := by
        unfold wpMix at h
        by_cases hw : Region.wanted o (yielded l.toArray a.tmps) = true
        · simp only [hw, hq, if_true] at h
          obtain ⟨v, h1, h2⟩ := h
          exact ⟨v, .inl ⟨hw, h1⟩, h2⟩
        · simp only [hw] at h
          exact ⟨undef, .inr ⟨by simpa using hw, rfl⟩, h⟩
      obtain ⟨v, hy, hK⟩ := hy
      have hkr : k ∈ Region.ready md l.toArray listed := by simpa using hkr'
      have hkz : k ≠ l.length := by omega
      exact wpAnyM_first ho (Region.noSelect_spec hs) (fun listed _ _ _ => no_z) hkz (fuel + r.length) listed a w hC hcl (Region.free_spec ho hfr) hkr hy (wpAnyM_pre hs fuel r _ _ _ hC (hcl.set hkr) hB2 hK hk)

theorem mOp_eff {l : List Oper} {K : Act → World → Prop} (hs : Region.noSelect l.toArray = true) {k : Nat} {r : List Nat} {listed : Array Bool} {a : Act} {w : World} (hC : C w) (hcl : Clo md l.toArray listed) (hkr : k ∈ Region.ready md l.toArray listed)
    (hq : (match l.toArray[k]? with | some o => isQ o.op | none => true) = false) (hB : lexM md l.toArray r (listed.setIfInBounds k true) = true) (hin : ∀ k ∈ r, k < l.length) (h : wpMix P l.toArray C false K (pick l (k :: r)) a w) :
    mOp P l.toArray C l.length k (wpAnyM P md l.toArray C l.length K r.length (listed.setIfInBounds k true)) a w := by
  cases ho : l.toArray[k]? with
  | none => simp [ho] at hq
  | some o =>
    simp only [ho] at hq
    have hl : l[k]? = some o := by simpa using ho
    have hp : pick l (k :: r) = o :: pick l r := by simp [pick, hl]
    rw [hp] at h
    have next : ∀ a' w', C w' → wpMix P l.toArray C false K (pick l r) a' w' → wpAnyM P md l.toArray C l.length K r.length (listed.setIfInBounds k true) a' w' := fun a' w' hC' h' =>
      wpAnyM_lex hs (fun h => absurd h (Nat.lt_irrefl _)) r _ a' w' hC' (hcl.set hkr) (fun e => by cases e) (fun q hq e => by have := hin q hq; omega) (fun h => absurd h (Nat.lt_irrefl _)) hB h'
    unfold mOp
    simp only [ho]
    unfold wpMix at h
    by_cases hw : Region.wanted o (yielded l.toArray a.tmps) = true
    · simp only [hw, hq, if_true] at h ⊢
      refine effUp_mono h fun v w' ⟨g1, g2⟩ => ?_
      have hC' : C w' := by
        rcases g1 with ⟨e, _⟩ | g1
        · cases e
        · exact g1
      exact ⟨.inr hC', next _ _ hC' g2⟩
    · simp only [hw] at h ⊢
      exact next _ _ hC h

def br2B (l : List Oper) (pre : List Nat) (i : Nat) (r1 : List Nat) (j : Nat) (r2 : List Nat) : Bool :=
  let s := setAll pre (Array.replicate l.length false)
  Region.noSelect l.toArray && preB .any l.toArray pre (Array.replicate l.length false) && (Region.ready .any l.toArray s == [i, j]) && !(match l.toArray[i]? with | some o => isQ o.op | none => true) && !(match l.toArray[j]? with | some o => isQ o.op | none => true)
    && lexM .any l.toArray r1 (s.setIfInBounds i true) && lexM .any l.toArray r2 (s.setIfInBounds j true) && (r1.length + 1 + pre.length == l.length) && (r2.length == r1.length) && r1.all (· < l.length) && r2.all (· < l.length)

theorem wp_region_mix2 {id : Nat} {Q : Exit → Act → World → Prop} {a : Act} {w : World} {l : List Oper} (pre : List Nat) (i : Nat) (r1 : List Nat) (j : Nat) (r2 : List Nat) (hm : P.follows .mixedOrders = true) (hB : br2B l pre i r1 j r2 = true) (hC : C w.drew)
    (h : wpMix P l.toArray C false (fun a w => wpMix P l.toArray C false (Q .normal) (pick l (i :: r1)) a w ∧ wpMix P l.toArray C false (Q .normal) (pick l (j :: r2)) a w) (pick l pre) a w.drew) : (Code.region id l.toArray true).wp P Q a w := by
  simp only [br2B, Bool.and_eq_true, beq_iff_eq, Bool.not_eq_true', List.all_eq_true, decide_eq_true_eq] at hB
  obtain ⟨⟨⟨⟨⟨⟨⟨⟨⟨⟨b1, b2⟩, b3⟩, b4⟩, b5⟩, b6⟩, b7⟩, b8⟩, b9⟩, b10⟩, b11⟩ := hB
  refine wp_region_any hm (wpAny_of_M (C := C) (z := l.length) (K := Q .normal) (fun _ _ h => h) _ _ _ _ ?_)
  have := wpAnyM_pre (md := .any) (C := C) (K := Q .normal) b1 (r1.length + 1) pre (Array.replicate l.length false) a w.drew hC (Clo.start _) b2 h (fun a' h' hcl => ?_)
  · rw [b8] at this; simpa using this
  · refine ⟨fun h0 => (by rw [b3] at h0; cases h0), fun k hk => ?_⟩
    have hk2 := hk
    rw [b3] at hk2
    rcases (show k = i ∨ k = j by simpa using hk2) with rfl | rfl
    · exact mOp_eff b1 hC hcl hk b4 b6 b10 h'.1
    · have := mOp_eff b1 hC hcl hk b5 b7 b11 h'.2
      rw [b9] at this; exact this
end

section
variable {G : Prg} {Q : Exit → Act → World → Prop} {n : Nat} {E : Env} {w : World}
theorem Cd.regionB {id : Nat} {l : List Oper} (pre : List Nat) (i : Nat) (r1 : List Nat) (j : Nat) (r2 : List Nat) (C : World → Prop) (hB : br2B l pre i r1 j r2 = true) (hC : C w.drew)
    (h : Ops G l.toArray (.mix false (fun _ a w => wpMix G.P l.toArray C false (Q .normal) (pick l (i :: r1)) a w ∧ wpMix G.P l.toArray C false (Q .normal) (pick l (j :: r2)) a w) C w.drew) n (pick l pre) E) : Cd G Q n (.region id l.toArray true) E w :=
  ⟨fun a ha => wp_region_mix2 pre i r1 j r2 G.mixed hB hC (h.h a ha)⟩
theorem Fin.both {ops : Array Oper} {C : World → Prop} {l1 l2 : List Oper} {e : Exit} (h1 : Ops G ops (.mix false Q C w) n l1 E) (h2 : Ops G ops (.mix false Q C w) n l2 E) :
    Fin (fun _ a w => wpMix G.P ops C false (Q .normal) l1 a w ∧ wpMix G.P ops C false (Q .normal) l2 a w) n e E w := ⟨fun a ha => ⟨h1.h a ha, h2.h a ha⟩⟩
end
end Go.Proofs.Ytfeakkicihlplaa
