/- opcode.Plain: more kinds of immediates. Printed by gen_go.py. -/
import Derived.Test.YtgbgnipidakdhaaGreatDoorJGw
import Derived.Test.YtgbgnipidakdhaaGreatDoorJGs
import Derived.Test.YtgbgnipidakdhaaGreatDoorJGt
import Derived.Test.YtgbgnipidakdhaaGreatDoorJGu
import Derived.Test.YtgbgnipidakdhaaGreatDoorJWe
namespace Go.Proofs.YtgbgnipidakdhaaGreatDoor
open Go.RowKit
set_option maxRecDepth 100000
attribute [local irreducible] indexK valK blockK
theorem qr13q {g g' : Prop} (h : g') (hw : Hold g' → g := by (intro hk_; (first | (refine OpsH.isBin ?_; refine OpsH.yg (by first | rfl | exact gdT rfl wrdq | exact gdF rfl wrdq) (Yl.neqBl rfl rfl) rfl ?_) | (refine OpsH.isCall (f := 76) ?_; refine OpsH.call1 rfl rfl rfl (fun w' hw' => ho w' hw'.at) ?_) | (refine OpsH.isCall (f := 124) ?_; refine OpsH.call1 rfl rfl rfl (fun w' hw' => hk w' hw'.at) ?_) | (refine OpsH.isCall (f := 123) ?_; refine OpsH.call1 rfl rfl rfl (fun w' hw' => hu w' hw'.at) ?_) | (refine OpsH.isCallG (f := 125) ?_; refine OpsH.call1g wgd rfl rfl rfl (fun w' hw' => opcode_index _ w') ?_) | (refine OpsH.isCallG (f := 127) ?_; refine OpsH.call1g wgd rfl rfl rfl (fun w' hw' => opcode_val _ w') ?_) | (refine OpsH.isCall (f := 126) ?_; refine OpsH.call1 rfl rfl rfl (fun w' hw' => opcode_block _ _ _ w') ?_)); exact hk_.out)) : g := hw ⟨h⟩
set_option maxHeartbeats 16000000 in
theorem opcode_Plain_17 (F : Nat → Prop) (op a b n kind val index t0 : Int) (labels : List Int) (nt : Nat) (pt : Option Addr) (pl : Option Addr) (ct cl : Nat) (w : World) (hl : IntsR F w (.slice pl labels.length cl) labels)
    (hk : ∀ w', Ext w w' → Calls G.P 124 #[.int .i64 op] w' fun e w2 => e = .returned (.bool true) ∧ Ext w' w2) (ho : ∀ w', Ext w w' → Calls G.P 76 #[.int .i64 op] w' fun e w2 => e = .returned (.int .i64 17) ∧ Ext w' w2)
    (hu : ∀ w', Ext w w' → Calls G.P 123 #[.int .i64 17] w' fun e w2 => e = .returned (.tuple #[.bool true, .bool true, .bool true]) ∧ Ext w' w2) :
    Calls G.P 75 #[.agg #[Value.int .i64 op, Value.int .i64 a, Value.int .i64 b, Value.int .u64 n, Value.int .i64 kind, Value.int .i64 val, Value.int .i64 index, Value.slice pt nt ct, Value.slice pl labels.length cl]] w fun e w' => e = .returned (.bool (plainO true true true true 17 a b n kind val index nt t0 labels)) ∧ Ext w w' := by
  obtain ⟨_, _, _, hll⟩ := hl.slice
  obtain ⟨lal, hlal⟩ : ∃ q, q = labels.all indexK := ⟨_, rfl⟩
  refine enterH (l := [_]) Tryz.func75 rfl Tryz.ntmps75 rfl (Ok.start w) ?_
  repeat' (first | refine wav ?_ | (refine qbxq fun b_ => ?_) | refine qr13q ?_ | (refine wspv ?_ ?_ <;> (intro hc_; try subst hc_)))
  all_goals first | (exfalso; omega) | exact FinH.ret1 rfl rfl fun w' hw' => ⟨by clear hw' hl hk ho hu; first | (simp_all [plainO]; done) | (simp_all [plainO] <;> (intros; omega)), hw'.at⟩ | skip
set_option maxHeartbeats 16000000 in
theorem opcode_Plain_19 (F : Nat → Prop) (op a b n kind val index t0 : Int) (labels : List Int) (nt : Nat) (pt : Option Addr) (pl : Option Addr) (ct cl : Nat) (w : World) (hl : IntsR F w (.slice pl labels.length cl) labels)
    (hk : ∀ w', Ext w w' → Calls G.P 124 #[.int .i64 op] w' fun e w2 => e = .returned (.bool true) ∧ Ext w' w2) (ho : ∀ w', Ext w w' → Calls G.P 76 #[.int .i64 op] w' fun e w2 => e = .returned (.int .i64 19) ∧ Ext w' w2)
    (hu : ∀ w', Ext w w' → Calls G.P 123 #[.int .i64 19] w' fun e w2 => e = .returned (.tuple #[.bool false, .bool false, .bool true]) ∧ Ext w' w2) :
    Calls G.P 75 #[.agg #[Value.int .i64 op, Value.int .i64 a, Value.int .i64 b, Value.int .u64 n, Value.int .i64 kind, Value.int .i64 val, Value.int .i64 index, Value.slice pt nt ct, Value.slice pl labels.length cl]] w fun e w' => e = .returned (.bool (plainO true false false true 19 a b n kind val index nt t0 labels)) ∧ Ext w w' := by
  obtain ⟨_, _, _, hll⟩ := hl.slice
  obtain ⟨lal, hlal⟩ : ∃ q, q = labels.all indexK := ⟨_, rfl⟩
  refine enterH (l := [_]) Tryz.func75 rfl Tryz.ntmps75 rfl (Ok.start w) ?_
  repeat' (first | refine wav ?_ | (refine qbxq fun b_ => ?_) | refine qr13q ?_ | (refine wspv ?_ ?_ <;> (intro hc_; try subst hc_)))
  all_goals first | (exfalso; omega) | exact FinH.ret1 rfl rfl fun w' hw' => ⟨by clear hw' hl hk ho hu; first | (simp_all [plainO]; done) | (simp_all [plainO] <;> (intros; omega)), hw'.at⟩ | skip
  all_goals
    refine CdH.loop (σ := Nat) (fun j => [(133, .slice pl labels.length cl), (134, .int .i64 labels.length), (135, .int .i64 j)]) (fun _ => []) (fun _ => [Ext w]) (fun j => j ≤ labels.length ∧ (labels.take j).all indexK = true) (fun j => labels.length - j) 0 wsub wsl wsr ⟨by omega, by simp⟩ ?_
    rintro j ⟨hj, hall⟩
    by_cases hjl : j < labels.length
    · obtain ⟨b7, o7, rfl, -, hc⟩ := hl.at hjl
      have hcj := hc j hjl
      have hst := all_take (f := indexK) hjl
      rw [hall, Bool.true_and] at hst
      cases hi : indexK (ix labels j) with
      | true =>
        repeat' (first | refine wau ?_ | (refine OpsH.isCall (f := 125) ?_; refine OpsH.call1 (v := .bool true) rfl rfl rfl (fun w' hw' => by have := opcode_index (ix labels j) w'; rw [hi] at this; exact this) ?_) | (refine wspl ?_ ?_ <;> intro hc_))
        all_goals exact FinH.next (j + 1) wsub wsl wsr ⟨by omega, by rw [hst, hi]⟩ (by omega)
      | false =>
        have hsub := all_sub (j := j + 1) (l := labels) (f := indexK) (by rw [hst, hi])
        repeat' (first | refine wau ?_ | (refine OpsH.isCall (f := 125) ?_; refine OpsH.call1 (v := .bool false) rfl rfl rfl (fun w' hw' => by have := opcode_index (ix labels j) w'; rw [hi] at this; exact this) ?_) | (refine wspl ?_ ?_ <;> intro hc_))
        all_goals exact FinH.ret1 rfl rfl fun w' hw' => ⟨by clear hw' hl hk ho hu; simp_all [], hw'.at⟩
    · obtain rfl : j = labels.length := by omega
      rw [List.take_length] at hall
      refine wgh ?_
      exact FinH.ret1 rfl rfl fun w' hw' => ⟨by clear hw' hl hk ho hu; simp_all [plainO], hw'.at⟩
set_option maxHeartbeats 16000000 in
theorem opcode_Plain_20 (F : Nat → Prop) (op a b n kind val index t0 : Int) (labels : List Int) (nt : Nat) (pt : Option Addr) (pl : Option Addr) (ct cl : Nat) (w : World) (hl : IntsR F w (.slice pl labels.length cl) labels)
    (hk : ∀ w', Ext w w' → Calls G.P 124 #[.int .i64 op] w' fun e w2 => e = .returned (.bool true) ∧ Ext w' w2) (ho : ∀ w', Ext w w' → Calls G.P 76 #[.int .i64 op] w' fun e w2 => e = .returned (.int .i64 20) ∧ Ext w' w2)
    (hu : ∀ w', Ext w w' → Calls G.P 123 #[.int .i64 20] w' fun e w2 => e = .returned (.tuple #[.bool true, .bool false, .bool false]) ∧ Ext w' w2) :
    Calls G.P 75 #[.agg #[Value.int .i64 op, Value.int .i64 a, Value.int .i64 b, Value.int .u64 n, Value.int .i64 kind, Value.int .i64 val, Value.int .i64 index, Value.slice pt nt ct, Value.slice pl labels.length cl]] w fun e w' => e = .returned (.bool (plainO true true false false 20 a b n kind val index nt t0 labels)) ∧ Ext w w' := by
  obtain ⟨_, _, _, hll⟩ := hl.slice
  obtain ⟨lal, hlal⟩ : ∃ q, q = labels.all indexK := ⟨_, rfl⟩
  refine enterH (l := [_]) Tryz.func75 rfl Tryz.ntmps75 rfl (Ok.start w) ?_
  repeat' (first | refine wav ?_ | (refine qbxq fun b_ => ?_) | refine qr13q ?_ | (refine wspv ?_ ?_ <;> (intro hc_; try subst hc_)))
  all_goals first | (exfalso; omega) | exact FinH.ret1 rfl rfl fun w' hw' => ⟨by clear hw' hl hk ho hu; first | (simp_all [plainO]; done) | (simp_all [plainO] <;> (intros; omega)), hw'.at⟩ | skip
set_option maxHeartbeats 16000000 in
theorem opcode_Plain_18 (F : Nat → Prop) (op a b n kind val index t0 : Int) (labels : List Int) (nt : Nat) (pt : Option Addr) (pl : Option Addr) (ct cl : Nat) (w : World) (hl : IntsR F w (.slice pl labels.length cl) labels)
    (hk : ∀ w', Ext w w' → Calls G.P 124 #[.int .i64 op] w' fun e w2 => e = .returned (.bool true) ∧ Ext w' w2) (ho : ∀ w', Ext w w' → Calls G.P 76 #[.int .i64 op] w' fun e w2 => e = .returned (.int .i64 18) ∧ Ext w' w2)
    (hu : ∀ w', Ext w w' → Calls G.P 123 #[.int .i64 18] w' fun e w2 => e = .returned (.tuple #[.bool false, .bool false, .bool true]) ∧ Ext w' w2) :
    Calls G.P 75 #[.agg #[Value.int .i64 op, Value.int .i64 a, Value.int .i64 b, Value.int .u64 n, Value.int .i64 kind, Value.int .i64 val, Value.int .i64 index, Value.slice pt nt ct, Value.slice pl labels.length cl]] w fun e w' => e = .returned (.bool (plainO true false false true 18 a b n kind val index nt t0 labels)) ∧ Ext w w' := by
  obtain ⟨_, _, _, hll⟩ := hl.slice
  obtain ⟨lal, hlal⟩ : ∃ q, q = labels.all indexK := ⟨_, rfl⟩
  refine enterH (l := [_]) Tryz.func75 rfl Tryz.ntmps75 rfl (Ok.start w) ?_
  repeat' (first | refine wav ?_ | (refine qbxq fun b_ => ?_) | refine qr13q ?_ | (refine wspv ?_ ?_ <;> (intro hc_; try subst hc_)))
  all_goals first | (exfalso; omega) | exact FinH.ret1 rfl rfl fun w' hw' => ⟨by clear hw' hl hk ho hu; first | (simp_all [plainO]; done) | (simp_all [plainO] <;> (intros; omega)), hw'.at⟩ | skip
  all_goals
    refine CdH.loop (σ := Nat) (fun j => [(133, .slice pl labels.length cl), (134, .int .i64 labels.length), (135, .int .i64 j)]) (fun _ => []) (fun _ => [Ext w]) (fun j => j ≤ labels.length ∧ (labels.take j).all indexK = true) (fun j => labels.length - j) 0 wsub wsl wsr ⟨by omega, by simp⟩ ?_
    rintro j ⟨hj, hall⟩
    by_cases hjl : j < labels.length
    · obtain ⟨b7, o7, rfl, -, hc⟩ := hl.at hjl
      have hcj := hc j hjl
      have hst := all_take (f := indexK) hjl
      rw [hall, Bool.true_and] at hst
      cases hi : indexK (ix labels j) with
      | true =>
        repeat' (first | refine wau ?_ | (refine OpsH.isCall (f := 125) ?_; refine OpsH.call1 (v := .bool true) rfl rfl rfl (fun w' hw' => by have := opcode_index (ix labels j) w'; rw [hi] at this; exact this) ?_) | (refine wspl ?_ ?_ <;> intro hc_))
        all_goals exact FinH.next (j + 1) wsub wsl wsr ⟨by omega, by rw [hst, hi]⟩ (by omega)
      | false =>
        have hsub := all_sub (j := j + 1) (l := labels) (f := indexK) (by rw [hst, hi])
        repeat' (first | refine wau ?_ | (refine OpsH.isCall (f := 125) ?_; refine OpsH.call1 (v := .bool false) rfl rfl rfl (fun w' hw' => by have := opcode_index (ix labels j) w'; rw [hi] at this; exact this) ?_) | (refine wspl ?_ ?_ <;> intro hc_))
        all_goals exact FinH.ret1 rfl rfl fun w' hw' => ⟨by clear hw' hl hk ho hu; simp_all [], hw'.at⟩
    · obtain rfl : j = labels.length := by omega
      rw [List.take_length] at hall
      refine wgh ?_
      exact FinH.ret1 rfl rfl fun w' hw' => ⟨by clear hw' hl hk ho hu; simp_all [plainO], hw'.at⟩
end Go.Proofs.YtgbgnipidakdhaaGreatDoor
namespace Go.Proofs.YtgbgnipidakdhaaGreatDoor
open Go.RowKit
set_option maxRecDepth 100000
theorem indexK_iff (a : Int) : indexK a = true ↔ (0 ≤ a ∧ a < 4294967296) := by unfold indexK; simp
theorem ifF {P : Prop} [Decidable P] {b : Bool} : (if P then false else b) = true ↔ (¬ P ∧ b = true) := by by_cases h : P <;> simp [h]
set_option maxHeartbeats 4000000 in
theorem plainO_eq (known : Bool) (k a b n kind val index : Int) (nt : Nat) (t0 : Int) (labels : List Int) (hk : 0 ≤ k ∧ k ≤ 20) : plainO known (usedA k) (usedB k) (usedN k) k a b n kind val index nt t0 labels = plainC known k a b n kind val index nt labels.length t0 (labels.all indexK) := by
  have : k = 0 ∨ k = 1 ∨ k = 2 ∨ k = 3 ∨ k = 4 ∨ k = 5 ∨ k = 6 ∨ k = 7 ∨ k = 8 ∨ k = 9 ∨ k = 10 ∨ k = 11 ∨ k = 12 ∨ k = 13 ∨ k = 14 ∨ k = 15 ∨ k = 16 ∨ k = 17 ∨ k = 18 ∨ k = 19 ∨ k = 20 := by omega
  rcases this with rfl | rfl | rfl | rfl | rfl | rfl | rfl | rfl | rfl | rfl | rfl | rfl | rfl | rfl | rfl | rfl | rfl | rfl | rfl | rfl | rfl
  all_goals
    unfold plainO plainC
    rw [Bool.eq_iff_iff]
    simp [usedA, usedB, usedN, indexK_iff]
    try grind
theorem opcode_Plain (F : Nat → Prop) (x : Ins) (pt pl : Option Addr) (ct cl : Nat) (w : World) (h0 : Env0 w) (ht : IntsR F w (.slice pt x.types.length ct) x.types) (hl : IntsR F w (.slice pl x.labels.length cl) x.labels) : Calls G.P 75 #[.agg #[Value.int .i64 x.op, Value.int .i64 x.a, Value.int .i64 x.b, Value.int .u64 x.n, Value.int .i64 x.kind, Value.int .i64 x.val, Value.int .i64 x.index, Value.slice pt x.types.length ct, Value.slice pl x.labels.length cl]] w fun e w' => e = .returned (.bool (plainK x)) ∧ Ext w w' := by
  have hkn : ∀ w', Ext w w' → Calls G.P 124 #[.int .i64 x.op] w' fun e w2 => e = .returned (.bool (find5 x.op).isSome) ∧ Ext w' w2 := fun w' hx => by rw [← knownO_5]; exact opcode_Known _ w' (h0.ext hx)
  have hof : ∀ w', Ext w w' → Calls G.P 76 #[.int .i64 x.op] w' fun e w2 => e = .returned (.int .i64 (ofK x.op)) ∧ Ext w' w2 := fun w' hx => opcode_Of _ w' (h0.ext hx)
  have hu : ∀ w', Ext w w' → Calls G.P 123 #[.int .i64 (ofK x.op)] w' fun e w2 => e = .returned (.tuple #[.bool (usedA (ofK x.op)), .bool (usedB (ofK x.op)), .bool (usedN (ofK x.op))]) ∧ Ext w' w2 := fun w' _ => opcode_used _ w'
  have hcell : x.types.length = 1 → ∃ bt ot, pt = some ⟨bt, ot, none⟩ ∧ w.cell? ⟨bt, ot + 0, none⟩ = some (.int .i64 (ix x.types 0)) := fun h1 => by
    obtain ⟨b7, o7, rfl, -, hc⟩ := ht.at (i := 0) (by omega)
    exact ⟨b7, o7, rfl, hc 0 (by omega)⟩
  have hr := ofK_r x.op
  have key : plainK x = plainO (find5 x.op).isSome (usedA (ofK x.op)) (usedB (ofK x.op)) (usedN (ofK x.op)) (ofK x.op) x.a x.b x.n x.kind x.val x.index x.types.length (ix x.types 0) x.labels := by
    rw [plainK_eq, plainC_eq, plainO_eq _ _ _ _ _ _ _ _ _ _ _ hr]
  rw [key]
  cases hf : (find5 x.op).isSome with
  | false =>
    rw [hf] at hkn
    rw [show ∀ ua ub un k a b n kind val index nt t0 labels, plainO false ua ub un k a b n kind val index nt t0 labels = false from fun _ _ _ _ _ _ _ _ _ _ _ _ _ => by simp [plainO]]
    exact opcode_PlainN _ _ _ _ _ _ _ _ _ _ _ _ _ _ _ _ _ w hkn hof hu
  | true =>
    rw [hf] at hkn
    generalize ofK x.op = k at *
    have : k = 0 ∨ k = 1 ∨ k = 3 ∨ k = 6 ∨ k = 13 ∨ k = 17 ∨ k = 18 ∨ k = 19 ∨ k = 20 ∨ (k = 2 ∨ k = 4 ∨ k = 7 ∨ k = 8 ∨ k = 9 ∨ k = 12 ∨ k = 16) ∨ (k = 5 ∨ k = 10 ∨ k = 11 ∨ k = 14 ∨ k = 15) := by omega
    rcases this with rfl | rfl | rfl | rfl | rfl | rfl | rfl | rfl | rfl | h | h
    · exact opcode_Plain_0 F _ _ _ _ _ _ _ _ _ _ _ _ _ _ w hl hkn hof hu
    · exact opcode_Plain_1 F _ _ _ _ _ _ _ _ _ _ _ _ _ _ w hl hkn hof hu
    · exact opcode_Plain_3 F _ _ _ _ _ _ _ _ _ _ _ _ _ _ w hl hkn hof hu
    · by_cases h1 : x.types.length = 1
      · obtain ⟨bt, ot, rfl, hc⟩ := hcell h1
        rw [h1]
        exact opcode_Plain_6a F _ _ _ _ _ _ _ _ _ bt ot _ _ _ w hc hl hkn hof hu
      · exact opcode_Plain_6b F _ _ _ _ _ _ _ _ _ _ _ _ _ _ w (by omega) hl hkn hof hu
    · exact opcode_Plain_13 F _ _ _ _ _ _ _ _ _ _ _ _ _ _ w hl hkn hof hu
    · exact opcode_Plain_17 F _ _ _ _ _ _ _ _ _ _ _ _ _ _ w hl hkn hof hu
    · exact opcode_Plain_18 F _ _ _ _ _ _ _ _ _ _ _ _ _ _ w hl hkn hof hu
    · exact opcode_Plain_19 F _ _ _ _ _ _ _ _ _ _ _ _ _ _ w hl hkn hof hu
    · exact opcode_Plain_20 F _ _ _ _ _ _ _ _ _ _ _ _ _ _ w hl hkn hof hu
    · have ea : usedA k = true := by unfold usedA; simp; omega
      have eb : usedB k = false := by unfold usedB; simp; omega
      have en : usedN k = false := by unfold usedN; simp; omega
      rw [ea, eb, en] at hu ⊢
      exact opcode_Plain_x F _ _ _ _ _ _ _ _ _ _ _ _ _ _ k w (by omega) (by omega) (by omega) (by omega) (by omega) (by omega) hl hkn hof hu
    · have ea : usedA k = true := by unfold usedA; simp; omega
      have eb : usedB k = true := by unfold usedB; simp; omega
      have en : usedN k = false := by unfold usedN; simp; omega
      rw [ea, eb, en] at hu ⊢
      exact opcode_Plain_y F _ _ _ _ _ _ _ _ _ _ _ _ _ _ k w (by omega) (by omega) (by omega) (by omega) (by omega) (by omega) hl hkn hof hu
theorem ref05_Plain (F : Nat → Prop) (x : Ins) (pt pl : Option Addr) (ct cl : Nat) (w : World) (ht : IntsR F w (.slice pt x.types.length ct) x.types) (hl : IntsR F w (.slice pl x.labels.length cl) x.labels) : Calls G.P 40 #[.agg #[Value.int .i64 x.op, Value.int .i64 x.a, Value.int .i64 x.b, Value.int .u64 x.n, Value.int .i64 x.kind, Value.int .i64 x.val, Value.int .i64 x.index, Value.slice pt x.types.length ct, Value.slice pl x.labels.length cl]] w fun e w' => e = .returned (.bool (plainK x)) ∧ Ext w w' := by
  have hkn : ∀ w', Ext w w' → Calls G.P 87 #[.int .i64 x.op] w' fun e w2 => e = .returned (.bool (find5 x.op).isSome) ∧ Ext w' w2 := fun w' _ => ref05_Known _ w'
  have hof : ∀ w', Ext w w' → Calls G.P 86 #[.int .i64 x.op] w' fun e w2 => e = .returned (.int .i64 (ofK x.op)) ∧ Ext w' w2 := fun w' _ => ref05_Of _ w'
  have hla : ∀ w', Ext w w' → Calls G.P 90 #[.slice pl x.labels.length cl] w' fun e w2 => e = .returned (.bool (x.labels.all indexK)) ∧ Ext w' w2 := fun w' hx => ref05_labels F _ _ w' (hl.chg hx (fun _ _ _ h => h))
  have hcell : x.types.length = 1 → ∃ bt ot, pt = some ⟨bt, ot, none⟩ ∧ w.cell? ⟨bt, ot + 0, none⟩ = some (.int .i64 (ix x.types 0)) := fun h1 => by
    obtain ⟨b7, o7, rfl, -, hc⟩ := ht.at (i := 0) (by omega)
    exact ⟨b7, o7, rfl, hc 0 (by omega)⟩
  have hr := ofK_r x.op
  rw [plainK_eq, plainC_eq]
  cases hf : (find5 x.op).isSome with
  | false =>
    rw [hf] at hkn
    rw [show ∀ k a b n kind val index nt nl t0 lal, plainC false k a b n kind val index nt nl t0 lal = false from fun _ _ _ _ _ _ _ _ _ _ _ => by simp [plainC]]
    exact ref05_PlainN _ _ _ _ _ _ _ _ _ _ _ _ _ _ w hkn hof
  | true =>
    rw [hf] at hkn
    generalize ofK x.op = k at *
    have : k = 0 ∨ k = 1 ∨ k = 2 ∨ k = 3 ∨ k = 4 ∨ k = 5 ∨ k = 6 ∨ k = 7 ∨ k = 8 ∨ k = 9 ∨ k = 10 ∨ k = 11 ∨ k = 12 ∨ k = 13 ∨ k = 14 ∨ k = 15 ∨ k = 16 ∨ k = 17 ∨ k = 18 ∨ k = 19 ∨ k = 20 := by omega
    rcases this with rfl | rfl | rfl | rfl | rfl | rfl | rfl | rfl | rfl | rfl | rfl | rfl | rfl | rfl | rfl | rfl | rfl | rfl | rfl | rfl | rfl
    · exact ref05_Plain_0 _ _ _ _ _ _ _ _ _ _ _ _ _ _ _ w hla hkn hof
    · exact ref05_Plain_1 _ _ _ _ _ _ _ _ _ _ _ _ _ _ _ w hla hkn hof
    · exact ref05_Plain_2 _ _ _ _ _ _ _ _ _ _ _ _ _ _ _ w hla hkn hof
    · exact ref05_Plain_3 _ _ _ _ _ _ _ _ _ _ _ _ _ _ _ w hla hkn hof
    · exact ref05_Plain_4 _ _ _ _ _ _ _ _ _ _ _ _ _ _ _ w hla hkn hof
    · exact ref05_Plain_5 _ _ _ _ _ _ _ _ _ _ _ _ _ _ _ w hla hkn hof
    · by_cases h1 : x.types.length = 1
      · obtain ⟨bt, ot, rfl, hc⟩ := hcell h1
        rw [h1]
        exact ref05_Plain_6a _ _ _ _ _ _ _ _ bt ot _ _ _ _ _ w hc hla hkn hof
      · exact ref05_Plain_6b _ _ _ _ _ _ _ _ _ _ _ _ _ _ _ w (by omega) hla hkn hof
    · exact ref05_Plain_7 _ _ _ _ _ _ _ _ _ _ _ _ _ _ _ w hla hkn hof
    · exact ref05_Plain_8 _ _ _ _ _ _ _ _ _ _ _ _ _ _ _ w hla hkn hof
    · exact ref05_Plain_9 _ _ _ _ _ _ _ _ _ _ _ _ _ _ _ w hla hkn hof
    · exact ref05_Plain_10 _ _ _ _ _ _ _ _ _ _ _ _ _ _ _ w hla hkn hof
    · exact ref05_Plain_11 _ _ _ _ _ _ _ _ _ _ _ _ _ _ _ w hla hkn hof
    · exact ref05_Plain_12 _ _ _ _ _ _ _ _ _ _ _ _ _ _ _ w hla hkn hof
    · exact ref05_Plain_13 _ _ _ _ _ _ _ _ _ _ _ _ _ _ _ w hla hkn hof
    · exact ref05_Plain_14 _ _ _ _ _ _ _ _ _ _ _ _ _ _ _ w hla hkn hof
    · exact ref05_Plain_15 _ _ _ _ _ _ _ _ _ _ _ _ _ _ _ w hla hkn hof
    · exact ref05_Plain_16 _ _ _ _ _ _ _ _ _ _ _ _ _ _ _ w hla hkn hof
    · exact ref05_Plain_17 _ _ _ _ _ _ _ _ _ _ _ _ _ _ _ w hla hkn hof
    · exact ref05_Plain_18 _ _ _ _ _ _ _ _ _ _ _ _ _ _ _ w hla hkn hof
    · exact ref05_Plain_19 _ _ _ _ _ _ _ _ _ _ _ _ _ _ _ w hla hkn hof
    · exact ref05_Plain_20 _ _ _ _ _ _ _ _ _ _ _ _ _ _ _ w hla hkn hof
end Go.Proofs.YtgbgnipidakdhaaGreatDoor
namespace Go.Proofs.YtgbgnipidakdhaaGreatDoor
open Go.RowKit
set_option maxRecDepth 100000
theorem widths_tab : (r05.all fun r => decide (width5 r.1 = 0) || decide (width5 r.1 = 1) || decide (width5 r.1 = 2) || decide (width5 r.1 = 4) || decide (width5 r.1 = 8)) = true := by decide +kernel
theorem widthO_r (op : Int) : widthO op = 0 ∨ widthO op = 1 ∨ widthO op = 2 ∨ widthO op = 4 ∨ widthO op = 8 := by
  rw [widthO_5]
  cases h : find5 op with
  | some r =>
    have := List.all_eq_true.1 widths_tab r (List.mem_of_find?_eq_some h)
    have e : r.1 = op := by have := List.find?_some h; simpa using this
    rw [e] at this
    simp only [Bool.or_eq_true, decide_eq_true_eq] at this
    omega
  | none => left; unfold width5 row5; rw [h]; rfl
theorem ref05_Align (op : Int) (w : World) : Calls G.P 150 #[.int .i64 op] w fun e w' => e = .returned (.int .i64 (alignK op)) ∧ Ext w w' := by
  have hw : ∀ w', Calls G.P 175 #[.int .i64 op] w' fun e w2 => e = .returned (.int .i64 (widthO op)) ∧ Ext w' w2 := fun w' => by rw [widthO_5]; exact ref05_Width op w'
  unfold alignK
  generalize widthO op = k at hw ⊢
  refine enterH (l := [_]) Tryz.func150 rfl Tryz.ntmps150 rfl (Ok.start w) ?_
  repeat' (first | refine wav ?_ | (refine OpsH.isCall (f := 175) ?_; refine OpsH.call1 rfl rfl rfl (fun w' hw' => hw w') ?_) | (refine wspv ?_ ?_ <;> (intro hc_; try subst hc_)))
  all_goals exact FinH.ret1 rfl rfl fun w' hw' => ⟨by first | rfl | (simp only [*, if_false]), hw'.at⟩
theorem align_run (k : Int) (hk : k = 0 ∨ k = 1 ∨ k = 2 ∨ k = 4 ∨ k = 8) (op : Int) (w : World) (hw : ∀ w', Ext w w' → Calls G.P 128 #[.int .i64 op] w' fun e w2 => e = .returned (.int .i64 k) ∧ Ext w' w2) : Calls G.P 138 #[.int .i64 op] w fun e w' => e = .returned (.int .i64 (if k = 2 then 1 else if k = 4 then 2 else if k = 8 then 3 else 0)) ∧ Ext w w' := by
  obtain ⟨fk, hfk, hfk3⟩ : ∃ fk : Int, (if k = 2 then 1 else if k = 4 then 2 else if k = 8 then 3 else 0) = fk ∧ fk ≤ 3 := ⟨_, rfl, by rcases hk with rfl | rfl | rfl | rfl | rfl <;> decide⟩
  rw [hfk]
  refine enterH (l := [_]) Tryz.func138 rfl Tryz.ntmps138 rfl (Ok.start w) ?_
  repeat' (first | refine wau ?_ | (refine OpsH.isCall (f := 128) ?_; refine OpsH.call1 rfl rfl rfl (fun w' hw' => hw w' hw'.at) ?_) | (refine wspl ?_ ?_ <;> intro hc_))
  refine CdH.loop (σ := Nat × Int) (fun s => [(3, .int .i64 s.1), (4, .int .i64 s.2)]) (fun _ => []) (fun _ => [Ext w]) (fun s => (s.2 = 0 ∨ s.2 = 1 ∨ s.2 = 2 ∨ s.2 = 4 ∨ s.2 = 8) ∧ (s.1 : Int) + (if s.2 = 2 then 1 else if s.2 = 4 then 2 else if s.2 = 8 then 3 else 0) = fk) (fun s => s.2.toNat) (0, k) wsub wsl wsr ⟨hk, by simp [hfk]⟩ ?_
  rintro ⟨j, q⟩ ⟨hq, he⟩
  dsimp only at hq he ⊢
  rcases hq with rfl | rfl | rfl | rfl | rfl
  · have he' : (j : Int) + 0 = fk := he
    repeat' (first | refine wau ?_ | (refine wspl ?_ ?_ <;> intro hc_))
    all_goals exact FinH.ret1 rfl rfl fun w' hw' => ⟨by rw [show fk = (j : Int) by omega], hw'.at⟩
  · have he' : (j : Int) + 0 = fk := he
    repeat' (first | refine wau ?_ | (refine wspl ?_ ?_ <;> intro hc_))
    all_goals exact FinH.ret1 rfl rfl fun w' hw' => ⟨by rw [show fk = (j : Int) by omega], hw'.at⟩
  · have he' : (j : Int) + 1 = fk := he
    repeat' (first | refine wau ?_ | (refine OpsH.y_ (Yl.quo (r := 1) rfl rfl (fun w => by kernel_rfl)) rfl ?_) | (refine wspl ?_ ?_ <;> intro hc_))
    all_goals exact FinH.next (j + 1, 1) wsub wsl wsr ⟨by simp, by show ((j + 1 : Nat) : Int) + 0 = fk; omega⟩ (by show (1 : Int).toNat < (2 : Int).toNat; decide)
  · have he' : (j : Int) + 2 = fk := he
    repeat' (first | refine wau ?_ | (refine OpsH.y_ (Yl.quo (r := 2) rfl rfl (fun w => by kernel_rfl)) rfl ?_) | (refine wspl ?_ ?_ <;> intro hc_))
    all_goals exact FinH.next (j + 1, 2) wsub wsl wsr ⟨by simp, by show ((j + 1 : Nat) : Int) + 1 = fk; omega⟩ (by show (2 : Int).toNat < (4 : Int).toNat; decide)
  · have he' : (j : Int) + 3 = fk := he
    repeat' (first | refine wau ?_ | (refine OpsH.y_ (Yl.quo (r := 4) rfl rfl (fun w => by kernel_rfl)) rfl ?_) | (refine wspl ?_ ?_ <;> intro hc_))
    all_goals exact FinH.next (j + 1, 4) wsub wsl wsr ⟨by simp, by show ((j + 1 : Nat) : Int) + 2 = fk; omega⟩ (by show (4 : Int).toNat < (8 : Int).toNat; decide)
theorem opcode_Align (op : Int) (w : World) (h0 : Env0 w) : Calls G.P 138 #[.int .i64 op] w fun e w' => e = .returned (.int .i64 (alignK op)) ∧ Ext w w' := by
  unfold alignK
  exact align_run _ (widthO_r op) op w fun w' hx => opcode_Width op w' (h0.ext hx)
end Go.Proofs.YtgbgnipidakdhaaGreatDoor
