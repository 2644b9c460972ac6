/- Layer 5: what a plain instruction is, for the program and the reference alike; alignments. -/
import Derived.Test.YtgbgnipidakdhaaGreatDoorJGq
import Derived.Test.YtgbgnipidakdhaaGreatDoorJGv
import Derived.Test.YtgbgnipidakdhaaGreatDoorJGw
import Derived.Test.YtgbgnipidakdhaaGreatDoorJWe
namespace Go.Proofs.YtgbgnipidakdhaaGreatDoor
open Go.RowKit
set_option maxRecDepth 100000
theorem indexK_iff (a : Int) : indexK a = true ↔ (0 ≤ a ∧ a < 4294967296) := by unfold indexK; simp
theorem ifF {P : Prop} [Decidable P] {b : Bool} : (if P then false else b) = true ↔ (¬ P ∧ b = true) := by by_cases h : P <;> simp [h]
set_option maxHeartbeats 4000000 in
theorem plainO_eq (known : Bool) (k a b n kind val index : Int) (nt : Nat) (t0 : Int) (labels : List Int) (hk : 0 ≤ k ∧ k ≤ 20) : plainO known (usedA k) (usedB k) (usedN k) k a b n kind val index nt t0 labels = plainC known k a b n kind val index nt labels.length t0 (labels.all indexK) := by
  have : k = 0 ∨ k = 1 ∨ k = 2 ∨ k = 3 ∨ k = 4 ∨ k = 5 ∨ k = 6 ∨ k = 7 ∨ k = 8 ∨ k = 9 ∨ k = 10 ∨ k = 11 ∨ k = 12 ∨ k = 13 ∨ k = 14 ∨ k = 15 ∨ k = 16 ∨ k = 17 ∨ k = 18 ∨ k = 19 ∨ k = 20 := by omega
  rcases this with rfl | rfl | rfl | rfl | rfl | rfl | rfl | rfl | rfl | rfl | rfl | rfl | rfl | rfl | rfl | rfl | rfl | rfl | rfl | rfl | rfl
  all_goals
    unfold plainO plainC
    rw [Bool.eq_iff_iff]
    simp [usedA, usedB, usedN, indexK_iff]
    try grind
theorem opcode_Plain (F : Nat → Prop) (x : Ins) (pt pl : Option Addr) (ct cl : Nat) (w : World) (h0 : Env0 w) (ht : IntsR F w (.slice pt x.types.length ct) x.types) (hl : IntsR F w (.slice pl x.labels.length cl) x.labels) : Calls G.P 75 #[.agg #[Value.int .i64 x.op, Value.int .i64 x.a, Value.int .i64 x.b, Value.int .u64 x.n, Value.int .i64 x.kind, Value.int .i64 x.val, Value.int .i64 x.index, Value.slice pt x.types.length ct, Value.slice pl x.labels.length cl]] w fun e w' => e = .returned (.bool (plainK x)) ∧ Ext w w' := by
  have hkn : ∀ w', Ext w w' → Calls G.P 124 #[.int .i64 x.op] w' fun e w2 => e = .returned (.bool (find5 x.op).isSome) ∧ Ext w' w2 := fun w' hx => by rw [← knownO_5]; exact opcode_Known _ w' (h0.ext hx)
  have hof : ∀ w', Ext w w' → Calls G.P 76 #[.int .i64 x.op] w' fun e w2 => e = .returned (.int .i64 (ofK x.op)) ∧ Ext w' w2 := fun w' hx => opcode_Of _ w' (h0.ext hx)
  have hu : ∀ w', Ext w w' → Calls G.P 123 #[.int .i64 (ofK x.op)] w' fun e w2 => e = .returned (.tuple #[.bool (usedA (ofK x.op)), .bool (usedB (ofK x.op)), .bool (usedN (ofK x.op))]) ∧ Ext w' w2 := fun w' _ => opcode_used _ w'
  have hcell : x.types.length = 1 → ∃ bt ot, pt = some ⟨bt, ot, none⟩ ∧ w.cell? ⟨bt, ot + 0, none⟩ = some (.int .i64 (ix x.types 0)) := fun h1 => by
    obtain ⟨b7, o7, rfl, -, hc⟩ := ht.at (i := 0) (by omega)
    exact ⟨b7, o7, rfl, hc 0 (by omega)⟩
  have hr := ofK_r x.op
  have key : plainK x = plainO (find5 x.op).isSome (usedA (ofK x.op)) (usedB (ofK x.op)) (usedN (ofK x.op)) (ofK x.op) x.a x.b x.n x.kind x.val x.index x.types.length (ix x.types 0) x.labels := by
    rw [plainK_eq, plainC_eq, plainO_eq _ _ _ _ _ _ _ _ _ _ _ hr]
  rw [key]
  cases hf : (find5 x.op).isSome with
  | false =>
    rw [hf] at hkn
    rw [show ∀ ua ub un k a b n kind val index nt t0 labels, plainO false ua ub un k a b n kind val index nt t0 labels = false from fun _ _ _ _ _ _ _ _ _ _ _ _ _ => by simp [plainO]]
    exact opcode_PlainN _ _ _ _ _ _ _ _ _ _ _ _ _ _ _ _ _ w hkn hof hu
  | true =>
    rw [hf] at hkn
    generalize ofK x.op = k at *
    have : k = 0 ∨ k = 1 ∨ k = 3 ∨ k = 6 ∨ k = 13 ∨ k = 17 ∨ k = 18 ∨ k = 19 ∨ k = 20 ∨ (k = 2 ∨ k = 4 ∨ k = 7 ∨ k = 8 ∨ k = 9 ∨ k = 12 ∨ k = 16) ∨ (k = 5 ∨ k = 10 ∨ k = 11 ∨ k = 14 ∨ k = 15) := by omega
    rcases this with rfl | rfl | rfl | rfl | rfl | rfl | rfl | rfl | rfl | h | h
    · exact opcode_Plain_0 F _ _ _ _ _ _ _ _ _ _ _ _ _ _ w hl hkn hof hu
    · exact opcode_Plain_1 F _ _ _ _ _ _ _ _ _ _ _ _ _ _ w hl hkn hof hu
    · exact opcode_Plain_3 F _ _ _ _ _ _ _ _ _ _ _ _ _ _ w hl hkn hof hu
    · by_cases h1 : x.types.length = 1
      · obtain ⟨bt, ot, rfl, hc⟩ := hcell h1
        rw [h1]
        exact opcode_Plain_6a F _ _ _ _ _ _ _ _ _ bt ot _ _ _ w hc hl hkn hof hu
      · exact opcode_Plain_6b F _ _ _ _ _ _ _ _ _ _ _ _ _ _ w (by omega) hl hkn hof hu
    · exact opcode_Plain_13 F _ _ _ _ _ _ _ _ _ _ _ _ _ _ w hl hkn hof hu
    · exact opcode_Plain_17 F _ _ _ _ _ _ _ _ _ _ _ _ _ _ w hl hkn hof hu
    · exact opcode_Plain_18 F _ _ _ _ _ _ _ _ _ _ _ _ _ _ w hl hkn hof hu
    · exact opcode_Plain_19 F _ _ _ _ _ _ _ _ _ _ _ _ _ _ w hl hkn hof hu
    · exact opcode_Plain_20 F _ _ _ _ _ _ _ _ _ _ _ _ _ _ w hl hkn hof hu
    · have ea : usedA k = true := by unfold usedA; simp; omega
      have eb : usedB k = false := by unfold usedB; simp; omega
      have en : usedN k = false := by unfold usedN; simp; omega
      rw [ea, eb, en] at hu ⊢
      exact opcode_Plain_x F _ _ _ _ _ _ _ _ _ _ _ _ _ _ k w (by omega) (by omega) (by omega) (by omega) (by omega) (by omega) hl hkn hof hu
    · have ea : usedA k = true := by unfold usedA; simp; omega
      have eb : usedB k = true := by unfold usedB; simp; omega
      have en : usedN k = false := by unfold usedN; simp; omega
      rw [ea, eb, en] at hu ⊢
      exact opcode_Plain_y F _ _ _ _ _ _ _ _ _ _ _ _ _ _ k w (by omega) (by omega) (by omega) (by omega) (by omega) (by omega) hl hkn hof hu
end Go.Proofs.YtgbgnipidakdhaaGreatDoor
/- Layer 5: alignments; signatures as what is given. -/
namespace Go.Proofs.YtgbgnipidakdhaaGreatDoor
open Go.RowKit
set_option maxRecDepth 100000
theorem widths_tab : (r05.all fun r => decide (width5 r.1 = 0) || decide (width5 r.1 = 1) || decide (width5 r.1 = 2) || decide (width5 r.1 = 4) || decide (width5 r.1 = 8)) = true := by decide +kernel
theorem widthO_r (op : Int) : widthO op = 0 ∨ widthO op = 1 ∨ widthO op = 2 ∨ widthO op = 4 ∨ widthO op = 8 := by
  rw [widthO_5]
  cases h : find5 op with
  | some r =>
    have := List.all_eq_true.1 widths_tab r (List.mem_of_find?_eq_some h)
    have e : r.1 = op := by have := List.find?_some h; simpa using this
    rw [e] at this
    simp only [Bool.or_eq_true, decide_eq_true_eq] at this
    omega
  | none => left; unfold width5 row5; rw [h]; rfl
theorem align_run (k : Int) (hk : k = 0 ∨ k = 1 ∨ k = 2 ∨ k = 4 ∨ k = 8) (op : Int) (w : World) (hw : ∀ w', Ext w w' → Calls G.P 128 #[.int .i64 op] w' fun e w2 => e = .returned (.int .i64 k) ∧ Ext w' w2) : Calls G.P 138 #[.int .i64 op] w fun e w' => e = .returned (.int .i64 (if k = 2 then 1 else if k = 4 then 2 else if k = 8 then 3 else 0)) ∧ Ext w w' := by
  obtain ⟨fk, hfk, hfk3⟩ : ∃ fk : Int, (if k = 2 then 1 else if k = 4 then 2 else if k = 8 then 3 else 0) = fk ∧ fk ≤ 3 := ⟨_, rfl, by rcases hk with rfl | rfl | rfl | rfl | rfl <;> decide⟩
  rw [hfk]
  refine enterH (l := [_]) Tryz.func138 rfl Tryz.ntmps138 rfl (Ok.start w) ?_
  repeat' (first | refine wau ?_ | (refine OpsH.isCall (f := 128) ?_; refine OpsH.call1 rfl rfl rfl (fun w' hw' => hw w' hw'.at) ?_) | (refine wspl ?_ ?_ <;> intro hc_))
  refine CdH.loop (σ := Nat × Int) (fun s => [(3, .int .i64 s.1), (4, .int .i64 s.2)]) (fun _ => []) (fun _ => [Ext w]) (fun s => (s.2 = 0 ∨ s.2 = 1 ∨ s.2 = 2 ∨ s.2 = 4 ∨ s.2 = 8) ∧ (s.1 : Int) + (if s.2 = 2 then 1 else if s.2 = 4 then 2 else if s.2 = 8 then 3 else 0) = fk) (fun s => s.2.toNat) (0, k) wsub wsl wsr ⟨hk, by simp [hfk]⟩ ?_
  rintro ⟨j, q⟩ ⟨hq, he⟩
  dsimp only at hq he ⊢
  rcases hq with rfl | rfl | rfl | rfl | rfl
  · have he' : (j : Int) + 0 = fk := he
    repeat' (first | refine wau ?_ | (refine wspl ?_ ?_ <;> intro hc_))
    all_goals exact FinH.ret1 rfl rfl fun w' hw' => ⟨by rw [show fk = (j : Int) by omega], hw'.at⟩
  · have he' : (j : Int) + 0 = fk := he
    repeat' (first | refine wau ?_ | (refine wspl ?_ ?_ <;> intro hc_))
    all_goals exact FinH.ret1 rfl rfl fun w' hw' => ⟨by rw [show fk = (j : Int) by omega], hw'.at⟩
  · have he' : (j : Int) + 1 = fk := he
    repeat' (first | refine wau ?_ | (refine OpsH.y_ (Yl.quo (r := 1) rfl rfl (fun w => by kernel_rfl)) rfl ?_) | (refine wspl ?_ ?_ <;> intro hc_))
    all_goals exact FinH.next (j + 1, 1) wsub wsl wsr ⟨by simp, by show ((j + 1 : Nat) : Int) + 0 = fk; omega⟩ (by show (1 : Int).toNat < (2 : Int).toNat; decide)
  · have he' : (j : Int) + 2 = fk := he
    repeat' (first | refine wau ?_ | (refine OpsH.y_ (Yl.quo (r := 2) rfl rfl (fun w => by kernel_rfl)) rfl ?_) | (refine wspl ?_ ?_ <;> intro hc_))
    all_goals exact FinH.next (j + 1, 2) wsub wsl wsr ⟨by simp, by show ((j + 1 : Nat) : Int) + 1 = fk; omega⟩ (by show (2 : Int).toNat < (4 : Int).toNat; decide)
  · have he' : (j : Int) + 3 = fk := he
    repeat' (first | refine wau ?_ | (refine OpsH.y_ (Yl.quo (r := 4) rfl rfl (fun w => by kernel_rfl)) rfl ?_) | (refine wspl ?_ ?_ <;> intro hc_))
    all_goals exact FinH.next (j + 1, 4) wsub wsl wsr ⟨by simp, by show ((j + 1 : Nat) : Int) + 2 = fk; omega⟩ (by show (4 : Int).toNat < (8 : Int).toNat; decide)
theorem opcode_Align (op : Int) (w : World) (h0 : Env0 w) : Calls G.P 138 #[.int .i64 op] w fun e w' => e = .returned (.int .i64 (alignK op)) ∧ Ext w w' := by
  unfold alignK
  exact align_run _ (widthO_r op) op w fun w' hx => opcode_Width op w' (h0.ext hx)
end Go.Proofs.YtgbgnipidakdhaaGreatDoor
