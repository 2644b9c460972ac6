/- opcode.Plain. Printed by gen_go.py. -/
import Derived.Test.YtgbgnipidakdhaaGreatDoorJGq
namespace Go.Proofs.YtgbgnipidakdhaaGreatDoor
open Go.RowKit
set_option maxRecDepth 100000
def plainO (known ua ub un : Bool) (k a b n kind val index : Int) (nt : Nat) (t0 : Int) (labels : List Int) : Bool :=
  if known = false ∨ (ua = false ∧ a ≠ 0) ∨ (ub = false ∧ b ≠ 0) ∨ (un = false ∧ n ≠ 0) ∨ indexK a = false ∨ indexK b = false then false else
  if (k ≠ 19 ∧ 4294967296 ≤ n) ∨ (k ≠ 1 ∧ ¬ (kind = 0 ∧ val = 0 ∧ index = 0)) ∨ (k ≠ 6 ∧ 0 < nt) ∨ (k ≠ 3 ∧ 0 < labels.length) then false else
  if k = 1 then blockK kind val index else if k = 6 then decide (nt = 1) && valK t0 else if k = 17 then decide (a ≤ 63) else if k = 20 then decide (a = 3) || decide (a = 4) else labels.all indexK
attribute [local irreducible] indexK valK blockK
theorem qr3q {g g' : Prop} (h : g') (hw : Hold g' → g := by (intro hk_; (first | (refine OpsH.isBin ?_; refine OpsH.yg (by first | rfl | exact gdT rfl wrdq | exact gdF rfl wrdq) (Yl.neqBl rfl rfl) rfl ?_) | (refine OpsH.isCall (f := 76) ?_; refine OpsH.call1 rfl rfl rfl (fun w' hw' => ho w' hw'.at) ?_) | (refine OpsH.isCall (f := 124) ?_; refine OpsH.call1 rfl rfl rfl (fun w' hw' => hk w' hw'.at) ?_) | (refine OpsH.isCall (f := 123) ?_; refine OpsH.call1 rfl rfl rfl (fun w' hw' => hu w' hw'.at) ?_) | (refine OpsH.isCallG (f := 125) ?_; refine OpsH.call1g wgd rfl rfl rfl (fun w' hw' => opcode_index _ w') ?_) | (refine OpsH.isCallG (f := 127) ?_; refine OpsH.call1g wgd rfl rfl rfl (fun w' hw' => opcode_val _ w') ?_) | (refine OpsH.isCall (f := 126) ?_; refine OpsH.call1 rfl rfl rfl (fun w' hw' => opcode_block _ _ _ w') ?_)); exact hk_.out)) : g := hw ⟨h⟩
theorem opcode_PlainN (op a b n kind val index : Int) (nt nl : Nat) (pt pl : Option Addr) (ct cl : Nat) (ua ub un : Bool) (k : Int) (w : World)
    (hk : ∀ w', Ext w w' → Calls G.P 124 #[.int .i64 op] w' fun e w2 => e = .returned (.bool false) ∧ Ext w' w2) (ho : ∀ w', Ext w w' → Calls G.P 76 #[.int .i64 op] w' fun e w2 => e = .returned (.int .i64 k) ∧ Ext w' w2)
    (hu : ∀ w', Ext w w' → Calls G.P 123 #[.int .i64 k] w' fun e w2 => e = .returned (.tuple #[.bool ua, .bool ub, .bool un]) ∧ Ext w' w2) :
    Calls G.P 75 #[.agg #[Value.int .i64 op, Value.int .i64 a, Value.int .i64 b, Value.int .u64 n, Value.int .i64 kind, Value.int .i64 val, Value.int .i64 index, Value.slice pt nt ct, Value.slice pl nl cl]] w fun e w' => e = .returned (.bool false) ∧ Ext w w' := by
  refine enterH (l := [_]) Tryz.func75 rfl Tryz.ntmps75 rfl (Ok.start w) ?_
  repeat' (first | refine wav ?_ | (refine qbxq fun b_ => ?_) | refine qr3q ?_ | (refine wspv ?_ ?_ <;> (intro hc_; try subst hc_)))
  all_goals exact FinH.ret1 rfl rfl fun w' hw' => ⟨rfl, hw'.at⟩
set_option maxHeartbeats 16000000 in
theorem opcode_Plain_1 (F : Nat → Prop) (op a b n kind val index t0 : Int) (labels : List Int) (nt : Nat) (pt : Option Addr) (pl : Option Addr) (ct cl : Nat) (w : World) (hl : IntsR F w (.slice pl labels.length cl) labels)
    (hk : ∀ w', Ext w w' → Calls G.P 124 #[.int .i64 op] w' fun e w2 => e = .returned (.bool true) ∧ Ext w' w2) (ho : ∀ w', Ext w w' → Calls G.P 76 #[.int .i64 op] w' fun e w2 => e = .returned (.int .i64 1) ∧ Ext w' w2)
    (hu : ∀ w', Ext w w' → Calls G.P 123 #[.int .i64 1] w' fun e w2 => e = .returned (.tuple #[.bool false, .bool false, .bool false]) ∧ Ext w' w2) :
    Calls G.P 75 #[.agg #[Value.int .i64 op, Value.int .i64 a, Value.int .i64 b, Value.int .u64 n, Value.int .i64 kind, Value.int .i64 val, Value.int .i64 index, Value.slice pt nt ct, Value.slice pl labels.length cl]] w fun e w' => e = .returned (.bool (plainO true false false false 1 a b n kind val index nt t0 labels)) ∧ Ext w w' := by
  obtain ⟨_, _, _, hll⟩ := hl.slice
  obtain ⟨lal, hlal⟩ : ∃ q, q = labels.all indexK := ⟨_, rfl⟩
  refine enterH (l := [_]) Tryz.func75 rfl Tryz.ntmps75 rfl (Ok.start w) ?_
  repeat' (first | refine wav ?_ | (refine qbxq fun b_ => ?_) | refine qr3q ?_ | (refine wspv ?_ ?_ <;> (intro hc_; try subst hc_)))
  all_goals first | (exfalso; omega) | exact FinH.ret1 rfl rfl fun w' hw' => ⟨by clear hw' hl hk ho hu; first | (simp_all [plainO]; done) | (simp_all [plainO] <;> (intros; omega)), hw'.at⟩ | skip
theorem qr4q {g g' : Prop} (h : g') (hw : Hold g' → g := by (intro hk_; (first | (refine OpsH.isCall (f := 125) ?_; refine OpsH.call1 (v := .bool false) rfl rfl rfl (fun w' hw' => by have := opcode_index (ix labels j) w'; rw [hi] at this; exact this) ?_)); exact hk_.out)) : g := hw ⟨h⟩
theorem qr5q {g g' : Prop} (h : g') (hw : Hold g' → g := by (intro hk_; (first | (refine OpsH.isCall (f := 125) ?_; refine OpsH.call1 (v := .bool true) rfl rfl rfl (fun w' hw' => by have := opcode_index (ix labels j) w'; rw [hi] at this; exact this) ?_)); exact hk_.out)) : g := hw ⟨h⟩
set_option maxHeartbeats 16000000 in
theorem opcode_Plain_3 (F : Nat → Prop) (op a b n kind val index t0 : Int) (labels : List Int) (nt : Nat) (pt : Option Addr) (pl : Option Addr) (ct cl : Nat) (w : World) (hl : IntsR F w (.slice pl labels.length cl) labels)
    (hk : ∀ w', Ext w w' → Calls G.P 124 #[.int .i64 op] w' fun e w2 => e = .returned (.bool true) ∧ Ext w' w2) (ho : ∀ w', Ext w w' → Calls G.P 76 #[.int .i64 op] w' fun e w2 => e = .returned (.int .i64 3) ∧ Ext w' w2)
    (hu : ∀ w', Ext w w' → Calls G.P 123 #[.int .i64 3] w' fun e w2 => e = .returned (.tuple #[.bool true, .bool false, .bool false]) ∧ Ext w' w2) :
    Calls G.P 75 #[.agg #[Value.int .i64 op, Value.int .i64 a, Value.int .i64 b, Value.int .u64 n, Value.int .i64 kind, Value.int .i64 val, Value.int .i64 index, Value.slice pt nt ct, Value.slice pl labels.length cl]] w fun e w' => e = .returned (.bool (plainO true true false false 3 a b n kind val index nt t0 labels)) ∧ Ext w w' := by
  obtain ⟨_, _, _, hll⟩ := hl.slice
  obtain ⟨lal, hlal⟩ : ∃ q, q = labels.all indexK := ⟨_, rfl⟩
  refine enterH (l := [_]) Tryz.func75 rfl Tryz.ntmps75 rfl (Ok.start w) ?_
  repeat' (first | refine wav ?_ | (refine qbxq fun b_ => ?_) | refine qr3q ?_ | (refine wspv ?_ ?_ <;> (intro hc_; try subst hc_)))
  all_goals first | (exfalso; omega) | exact FinH.ret1 rfl rfl fun w' hw' => ⟨by clear hw' hl hk ho hu; first | (simp_all [plainO]; done) | (simp_all [plainO] <;> (intros; omega)), hw'.at⟩ | skip
  all_goals
    refine CdH.loop (σ := Nat) (fun j => [(133, .slice pl labels.length cl), (134, .int .i64 labels.length), (135, .int .i64 j)]) (fun _ => []) (fun _ => [Ext w]) (fun j => j ≤ labels.length ∧ (labels.take j).all indexK = true) (fun j => labels.length - j) 0 wsub wsl wsr ⟨by omega, by simp⟩ ?_
    rintro j ⟨hj, hall⟩
    by_cases hjl : j < labels.length
    · obtain ⟨b7, o7, rfl, -, hc⟩ := hl.at hjl
      have hcj := hc j hjl
      have hst := all_take (f := indexK) hjl
      rw [hall, Bool.true_and] at hst
      cases hi : indexK (ix labels j) with
      | true =>
        repeat' (first | refine wau ?_ | refine qr5q ?_ | (refine wspl ?_ ?_ <;> intro hc_))
        all_goals exact FinH.next (j + 1) wsub wsl wsr ⟨by omega, by rw [hst, hi]⟩ (by omega)
      | false =>
        have hsub := all_sub (j := j + 1) (l := labels) (f := indexK) (by rw [hst, hi])
        repeat' (first | refine wau ?_ | refine qr4q ?_ | (refine wspl ?_ ?_ <;> intro hc_))
        all_goals exact FinH.ret1 rfl rfl fun w' hw' => ⟨by clear hw' hl hk ho hu; simp_all [plainO], hw'.at⟩
    · obtain rfl : j = labels.length := by omega
      rw [List.take_length] at hall
      refine wgh ?_
      exact FinH.ret1 rfl rfl fun w' hw' => ⟨by clear hw' hl hk ho hu; simp_all [plainO], hw'.at⟩
set_option maxHeartbeats 16000000 in
theorem opcode_Plain_6a (F : Nat → Prop) (op a b n kind val index t0 : Int) (labels : List Int) (bt ot : Nat) (pl : Option Addr) (ct cl : Nat) (w : World) (hcell : w.cell? ⟨bt, ot + 0, none⟩ = some (.int .i64 t0)) (hl : IntsR F w (.slice pl labels.length cl) labels)
    (hk : ∀ w', Ext w w' → Calls G.P 124 #[.int .i64 op] w' fun e w2 => e = .returned (.bool true) ∧ Ext w' w2) (ho : ∀ w', Ext w w' → Calls G.P 76 #[.int .i64 op] w' fun e w2 => e = .returned (.int .i64 6) ∧ Ext w' w2)
    (hu : ∀ w', Ext w w' → Calls G.P 123 #[.int .i64 6] w' fun e w2 => e = .returned (.tuple #[.bool false, .bool false, .bool false]) ∧ Ext w' w2) :
    Calls G.P 75 #[.agg #[Value.int .i64 op, Value.int .i64 a, Value.int .i64 b, Value.int .u64 n, Value.int .i64 kind, Value.int .i64 val, Value.int .i64 index, Value.slice (some ⟨bt, ot, none⟩) 1 ct, Value.slice pl labels.length cl]] w fun e w' => e = .returned (.bool (plainO true false false false 6 a b n kind val index 1 t0 labels)) ∧ Ext w w' := by
  obtain ⟨_, _, _, hll⟩ := hl.slice
  obtain ⟨lal, hlal⟩ : ∃ q, q = labels.all indexK := ⟨_, rfl⟩
  refine enterH (l := [_]) Tryz.func75 rfl Tryz.ntmps75 rfl (Ok.start w) ?_
  repeat' (first | refine wav ?_ | (refine OpsH.isG ?_; refine OpsH.isIdx ?_; refine OpsH.yg (by first | rfl | exact gdT rfl wrdq) (Yl.idx1 (i := 0) rfl rfl rfl rfl rfl rfl (by decide)) rfl ?_) | (refine qbxq fun b_ => ?_) | refine qr3q ?_ | (refine wspv ?_ ?_ <;> (intro hc_; try subst hc_)))
  all_goals first | (exfalso; omega) | exact FinH.ret1 rfl rfl fun w' hw' => ⟨by clear hw' hl hk ho hu; first | (simp_all [plainO]; done) | (simp_all [plainO] <;> (intros; omega)), hw'.at⟩ | skip
set_option maxHeartbeats 16000000 in
theorem opcode_Plain_6b (F : Nat → Prop) (op a b n kind val index t0 : Int) (labels : List Int) (nt : Nat) (pt : Option Addr) (pl : Option Addr) (ct cl : Nat) (w : World) (h1 : ¬ ((nt : Int) = 1)) (hl : IntsR F w (.slice pl labels.length cl) labels)
    (hk : ∀ w', Ext w w' → Calls G.P 124 #[.int .i64 op] w' fun e w2 => e = .returned (.bool true) ∧ Ext w' w2) (ho : ∀ w', Ext w w' → Calls G.P 76 #[.int .i64 op] w' fun e w2 => e = .returned (.int .i64 6) ∧ Ext w' w2)
    (hu : ∀ w', Ext w w' → Calls G.P 123 #[.int .i64 6] w' fun e w2 => e = .returned (.tuple #[.bool false, .bool false, .bool false]) ∧ Ext w' w2) :
    Calls G.P 75 #[.agg #[Value.int .i64 op, Value.int .i64 a, Value.int .i64 b, Value.int .u64 n, Value.int .i64 kind, Value.int .i64 val, Value.int .i64 index, Value.slice pt nt ct, Value.slice pl labels.length cl]] w fun e w' => e = .returned (.bool (plainO true false false false 6 a b n kind val index nt t0 labels)) ∧ Ext w w' := by
  obtain ⟨_, _, _, hll⟩ := hl.slice
  obtain ⟨lal, hlal⟩ : ∃ q, q = labels.all indexK := ⟨_, rfl⟩
  refine enterH (l := [_]) Tryz.func75 rfl Tryz.ntmps75 rfl (Ok.start w) ?_
  repeat' (first | refine wav ?_ | (refine qbxq fun b_ => ?_) | refine qr3q ?_ | (refine wspv ?_ ?_ <;> (intro hc_; try subst hc_)))
  all_goals first | (exfalso; omega) | exact FinH.ret1 rfl rfl fun w' hw' => ⟨by clear hw' hl hk ho hu; first | (simp_all [plainO]; done) | (simp_all [plainO] <;> (intros; omega)), hw'.at⟩ | skip
end Go.Proofs.YtgbgnipidakdhaaGreatDoor
namespace Go.Proofs.YtgbgnipidakdhaaGreatDoor
open Go.RowKit
set_option maxRecDepth 100000
attribute [local irreducible] indexK valK blockK
set_option maxHeartbeats 16000000 in
theorem opcode_Plain_13 (F : Nat → Prop) (op a b n kind val index t0 : Int) (labels : List Int) (nt : Nat) (pt : Option Addr) (pl : Option Addr) (ct cl : Nat) (w : World) (hl : IntsR F w (.slice pl labels.length cl) labels)
    (hk : ∀ w', Ext w w' → Calls G.P 124 #[.int .i64 op] w' fun e w2 => e = .returned (.bool true) ∧ Ext w' w2) (ho : ∀ w', Ext w w' → Calls G.P 76 #[.int .i64 op] w' fun e w2 => e = .returned (.int .i64 13) ∧ Ext w' w2)
    (hu : ∀ w', Ext w w' → Calls G.P 123 #[.int .i64 13] w' fun e w2 => e = .returned (.tuple #[.bool false, .bool true, .bool false]) ∧ Ext w' w2) :
    Calls G.P 75 #[.agg #[Value.int .i64 op, Value.int .i64 a, Value.int .i64 b, Value.int .u64 n, Value.int .i64 kind, Value.int .i64 val, Value.int .i64 index, Value.slice pt nt ct, Value.slice pl labels.length cl]] w fun e w' => e = .returned (.bool (plainO true false true false 13 a b n kind val index nt t0 labels)) ∧ Ext w w' := by
  obtain ⟨_, _, _, hll⟩ := hl.slice
  obtain ⟨lal, hlal⟩ : ∃ q, q = labels.all indexK := ⟨_, rfl⟩
  refine enterH (l := [_]) Tryz.func75 rfl Tryz.ntmps75 rfl (Ok.start w) ?_
  repeat' (first | refine wav ?_ | (refine qbxq fun b_ => ?_) | refine qr3q ?_ | (refine wspv ?_ ?_ <;> (intro hc_; try subst hc_)))
  all_goals first | (exfalso; omega) | exact FinH.ret1 rfl rfl fun w' hw' => ⟨by clear hw' hl hk ho hu; first | (simp_all [plainO]; done) | (simp_all [plainO] <;> (intros; omega)), hw'.at⟩ | skip
  all_goals
    refine CdH.loop (σ := Nat) (fun j => [(133, .slice pl labels.length cl), (134, .int .i64 labels.length), (135, .int .i64 j)]) (fun _ => []) (fun _ => [Ext w]) (fun j => j ≤ labels.length ∧ (labels.take j).all indexK = true) (fun j => labels.length - j) 0 wsub wsl wsr ⟨by omega, by simp⟩ ?_
    rintro j ⟨hj, hall⟩
    by_cases hjl : j < labels.length
    · obtain ⟨b7, o7, rfl, -, hc⟩ := hl.at hjl
      have hcj := hc j hjl
      have hst := all_take (f := indexK) hjl
      rw [hall, Bool.true_and] at hst
      cases hi : indexK (ix labels j) with
      | true =>
        repeat' (first | refine wau ?_ | refine qr5q ?_ | (refine wspl ?_ ?_ <;> intro hc_))
        all_goals exact FinH.next (j + 1) wsub wsl wsr ⟨by omega, by rw [hst, hi]⟩ (by omega)
      | false =>
        have hsub := all_sub (j := j + 1) (l := labels) (f := indexK) (by rw [hst, hi])
        repeat' (first | refine wau ?_ | refine qr4q ?_ | (refine wspl ?_ ?_ <;> intro hc_))
        all_goals exact FinH.ret1 rfl rfl fun w' hw' => ⟨by clear hw' hl hk ho hu; simp_all [], hw'.at⟩
    · obtain rfl : j = labels.length := by omega
      rw [List.take_length] at hall
      refine wgh ?_
      exact FinH.ret1 rfl rfl fun w' hw' => ⟨by clear hw' hl hk ho hu; simp_all [plainO], hw'.at⟩
set_option maxHeartbeats 16000000 in
theorem opcode_Plain_0 (F : Nat → Prop) (op a b n kind val index t0 : Int) (labels : List Int) (nt : Nat) (pt : Option Addr) (pl : Option Addr) (ct cl : Nat) (w : World) (hl : IntsR F w (.slice pl labels.length cl) labels)
    (hk : ∀ w', Ext w w' → Calls G.P 124 #[.int .i64 op] w' fun e w2 => e = .returned (.bool true) ∧ Ext w' w2) (ho : ∀ w', Ext w w' → Calls G.P 76 #[.int .i64 op] w' fun e w2 => e = .returned (.int .i64 0) ∧ Ext w' w2)
    (hu : ∀ w', Ext w w' → Calls G.P 123 #[.int .i64 0] w' fun e w2 => e = .returned (.tuple #[.bool false, .bool false, .bool false]) ∧ Ext w' w2) :
    Calls G.P 75 #[.agg #[Value.int .i64 op, Value.int .i64 a, Value.int .i64 b, Value.int .u64 n, Value.int .i64 kind, Value.int .i64 val, Value.int .i64 index, Value.slice pt nt ct, Value.slice pl labels.length cl]] w fun e w' => e = .returned (.bool (plainO true false false false 0 a b n kind val index nt t0 labels)) ∧ Ext w w' := by
  obtain ⟨_, _, _, hll⟩ := hl.slice
  obtain ⟨lal, hlal⟩ : ∃ q, q = labels.all indexK := ⟨_, rfl⟩
  refine enterH (l := [_]) Tryz.func75 rfl Tryz.ntmps75 rfl (Ok.start w) ?_
  repeat' (first | refine wav ?_ | (refine qbxq fun b_ => ?_) | refine qr3q ?_ | (refine wspv ?_ ?_ <;> (intro hc_; try subst hc_)))
  all_goals first | (exfalso; omega) | exact FinH.ret1 rfl rfl fun w' hw' => ⟨by clear hw' hl hk ho hu; first | (simp_all [plainO]; done) | (simp_all [plainO] <;> (intros; omega)), hw'.at⟩ | skip
  all_goals
    refine CdH.loop (σ := Nat) (fun j => [(133, .slice pl labels.length cl), (134, .int .i64 labels.length), (135, .int .i64 j)]) (fun _ => []) (fun _ => [Ext w]) (fun j => j ≤ labels.length ∧ (labels.take j).all indexK = true) (fun j => labels.length - j) 0 wsub wsl wsr ⟨by omega, by simp⟩ ?_
    rintro j ⟨hj, hall⟩
    by_cases hjl : j < labels.length
    · obtain ⟨b7, o7, rfl, -, hc⟩ := hl.at hjl
      have hcj := hc j hjl
      have hst := all_take (f := indexK) hjl
      rw [hall, Bool.true_and] at hst
      cases hi : indexK (ix labels j) with
      | true =>
        repeat' (first | refine wau ?_ | refine qr5q ?_ | (refine wspl ?_ ?_ <;> intro hc_))
        all_goals exact FinH.next (j + 1) wsub wsl wsr ⟨by omega, by rw [hst, hi]⟩ (by omega)
      | false =>
        have hsub := all_sub (j := j + 1) (l := labels) (f := indexK) (by rw [hst, hi])
        repeat' (first | refine wau ?_ | refine qr4q ?_ | (refine wspl ?_ ?_ <;> intro hc_))
        all_goals exact FinH.ret1 rfl rfl fun w' hw' => ⟨by clear hw' hl hk ho hu; simp_all [], hw'.at⟩
    · obtain rfl : j = labels.length := by omega
      rw [List.take_length] at hall
      refine wgh ?_
      exact FinH.ret1 rfl rfl fun w' hw' => ⟨by clear hw' hl hk ho hu; simp_all [plainO], hw'.at⟩
set_option maxHeartbeats 16000000 in
theorem opcode_Plain_x (F : Nat → Prop) (op a b n kind val index t0 : Int) (labels : List Int) (nt : Nat) (pt : Option Addr) (pl : Option Addr) (ct cl : Nat) (k : Int) (w : World) (h1 : k ≠ 1) (h3 : k ≠ 3) (h6 : k ≠ 6) (h17 : k ≠ 17) (h19 : k ≠ 19) (h20 : k ≠ 20) (hl : IntsR F w (.slice pl labels.length cl) labels)
    (hk : ∀ w', Ext w w' → Calls G.P 124 #[.int .i64 op] w' fun e w2 => e = .returned (.bool true) ∧ Ext w' w2) (ho : ∀ w', Ext w w' → Calls G.P 76 #[.int .i64 op] w' fun e w2 => e = .returned (.int .i64 k) ∧ Ext w' w2)
    (hu : ∀ w', Ext w w' → Calls G.P 123 #[.int .i64 k] w' fun e w2 => e = .returned (.tuple #[.bool true, .bool false, .bool false]) ∧ Ext w' w2) :
    Calls G.P 75 #[.agg #[Value.int .i64 op, Value.int .i64 a, Value.int .i64 b, Value.int .u64 n, Value.int .i64 kind, Value.int .i64 val, Value.int .i64 index, Value.slice pt nt ct, Value.slice pl labels.length cl]] w fun e w' => e = .returned (.bool (plainO true true false false k a b n kind val index nt t0 labels)) ∧ Ext w w' := by
  obtain ⟨_, _, _, hll⟩ := hl.slice
  obtain ⟨lal, hlal⟩ : ∃ q, q = labels.all indexK := ⟨_, rfl⟩
  refine enterH (l := [_]) Tryz.func75 rfl Tryz.ntmps75 rfl (Ok.start w) ?_
  repeat' (first | refine wav ?_ | (refine qbxq fun b_ => ?_) | refine qr3q ?_ | (refine wspv ?_ ?_ <;> (intro hc_; try subst hc_)))
  all_goals first | (exfalso; omega) | exact FinH.ret1 rfl rfl fun w' hw' => ⟨by clear hw' hl hk ho hu; first | (simp_all [plainO]; done) | (simp_all [plainO] <;> (intros; omega)), hw'.at⟩ | skip
  all_goals
    refine CdH.loop (σ := Nat) (fun j => [(133, .slice pl labels.length cl), (134, .int .i64 labels.length), (135, .int .i64 j)]) (fun _ => []) (fun _ => [Ext w]) (fun j => j ≤ labels.length ∧ (labels.take j).all indexK = true) (fun j => labels.length - j) 0 wsub wsl wsr ⟨by omega, by simp⟩ ?_
    rintro j ⟨hj, hall⟩
    by_cases hjl : j < labels.length
    · obtain ⟨b7, o7, rfl, -, hc⟩ := hl.at hjl
      have hcj := hc j hjl
      have hst := all_take (f := indexK) hjl
      rw [hall, Bool.true_and] at hst
      cases hi : indexK (ix labels j) with
      | true =>
        repeat' (first | refine wau ?_ | refine qr5q ?_ | (refine wspl ?_ ?_ <;> intro hc_))
        all_goals exact FinH.next (j + 1) wsub wsl wsr ⟨by omega, by rw [hst, hi]⟩ (by omega)
      | false =>
        have hsub := all_sub (j := j + 1) (l := labels) (f := indexK) (by rw [hst, hi])
        repeat' (first | refine wau ?_ | refine qr4q ?_ | (refine wspl ?_ ?_ <;> intro hc_))
        all_goals exact FinH.ret1 rfl rfl fun w' hw' => ⟨by clear hw' hl hk ho hu; simp_all [], hw'.at⟩
    · obtain rfl : j = labels.length := by omega
      rw [List.take_length] at hall
      refine wgh ?_
      exact FinH.ret1 rfl rfl fun w' hw' => ⟨by clear hw' hl hk ho hu; simp_all [plainO], hw'.at⟩
set_option maxHeartbeats 16000000 in
theorem opcode_Plain_y (F : Nat → Prop) (op a b n kind val index t0 : Int) (labels : List Int) (nt : Nat) (pt : Option Addr) (pl : Option Addr) (ct cl : Nat) (k : Int) (w : World) (h1 : k ≠ 1) (h3 : k ≠ 3) (h6 : k ≠ 6) (h17 : k ≠ 17) (h19 : k ≠ 19) (h20 : k ≠ 20) (hl : IntsR F w (.slice pl labels.length cl) labels)
    (hk : ∀ w', Ext w w' → Calls G.P 124 #[.int .i64 op] w' fun e w2 => e = .returned (.bool true) ∧ Ext w' w2) (ho : ∀ w', Ext w w' → Calls G.P 76 #[.int .i64 op] w' fun e w2 => e = .returned (.int .i64 k) ∧ Ext w' w2)
    (hu : ∀ w', Ext w w' → Calls G.P 123 #[.int .i64 k] w' fun e w2 => e = .returned (.tuple #[.bool true, .bool true, .bool false]) ∧ Ext w' w2) :
    Calls G.P 75 #[.agg #[Value.int .i64 op, Value.int .i64 a, Value.int .i64 b, Value.int .u64 n, Value.int .i64 kind, Value.int .i64 val, Value.int .i64 index, Value.slice pt nt ct, Value.slice pl labels.length cl]] w fun e w' => e = .returned (.bool (plainO true true true false k a b n kind val index nt t0 labels)) ∧ Ext w w' := by
  obtain ⟨_, _, _, hll⟩ := hl.slice
  obtain ⟨lal, hlal⟩ : ∃ q, q = labels.all indexK := ⟨_, rfl⟩
  refine enterH (l := [_]) Tryz.func75 rfl Tryz.ntmps75 rfl (Ok.start w) ?_
  repeat' (first | refine wav ?_ | (refine qbxq fun b_ => ?_) | refine qr3q ?_ | (refine wspv ?_ ?_ <;> (intro hc_; try subst hc_)))
  all_goals first | (exfalso; omega) | exact FinH.ret1 rfl rfl fun w' hw' => ⟨by clear hw' hl hk ho hu; first | (simp_all [plainO]; done) | (simp_all [plainO] <;> (intros; omega)), hw'.at⟩ | skip
  all_goals
    refine CdH.loop (σ := Nat) (fun j => [(133, .slice pl labels.length cl), (134, .int .i64 labels.length), (135, .int .i64 j)]) (fun _ => []) (fun _ => [Ext w]) (fun j => j ≤ labels.length ∧ (labels.take j).all indexK = true) (fun j => labels.length - j) 0 wsub wsl wsr ⟨by omega, by simp⟩ ?_
    rintro j ⟨hj, hall⟩
    by_cases hjl : j < labels.length
    · obtain ⟨b7, o7, rfl, -, hc⟩ := hl.at hjl
      have hcj := hc j hjl
      have hst := all_take (f := indexK) hjl
      rw [hall, Bool.true_and] at hst
      cases hi : indexK (ix labels j) with
      | true =>
        repeat' (first | refine wau ?_ | refine qr5q ?_ | (refine wspl ?_ ?_ <;> intro hc_))
        all_goals exact FinH.next (j + 1) wsub wsl wsr ⟨by omega, by rw [hst, hi]⟩ (by omega)
      | false =>
        have hsub := all_sub (j := j + 1) (l := labels) (f := indexK) (by rw [hst, hi])
        repeat' (first | refine wau ?_ | refine qr4q ?_ | (refine wspl ?_ ?_ <;> intro hc_))
        all_goals exact FinH.ret1 rfl rfl fun w' hw' => ⟨by clear hw' hl hk ho hu; simp_all [], hw'.at⟩
    · obtain rfl : j = labels.length := by omega
      rw [List.take_length] at hall
      refine wgh ?_
      exact FinH.ret1 rfl rfl fun w' hw' => ⟨by clear hw' hl hk ho hu; simp_all [plainO], hw'.at⟩
end Go.Proofs.YtgbgnipidakdhaaGreatDoor
