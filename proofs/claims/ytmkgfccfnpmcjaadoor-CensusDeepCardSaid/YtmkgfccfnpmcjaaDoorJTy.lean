/- Records for the program's structs of plain data, and how they read; printed by gen_ty.py off the seat's translation. -/
import Derived.Test.YtmkgfccfnpmcjaaDoorJU
namespace Go.Proofs.YtmkgfccfnpmcjaaDoor
open Go.RowKit

def RU64 (n : Int) : Prop := 0 ≤ n ∧ n ≤ 18446744073709551615
def RU32 (n : Int) : Prop := 0 ≤ n ∧ n ≤ 4294967295
def RU16 (n : Int) : Prop := 0 ≤ n ∧ n ≤ 65535
def RU8 (n : Int) : Prop := 0 ≤ n ∧ n ≤ 255
def RI32 (n : Int) : Prop := -2147483648 ≤ n ∧ n ≤ 2147483647
theorem R64_of {n : Int} (h : (Lit.int .i64 n).wf = true) : R64 n := wf_R64 h
theorem RU64_of {n : Int} (h : (Lit.int .u64 n).wf = true) : RU64 n := by
  have e1 : IntKind.u64.min = 0 := by decide
  have e2 : IntKind.u64.max = 18446744073709551615 := by decide
  simp only [Lit.wf, e1, e2, Bool.and_eq_true, decide_eq_true_eq] at h
  exact h
theorem RU32_of {n : Int} (h : (Lit.int .u32 n).wf = true) : RU32 n := by
  have e1 : IntKind.u32.min = 0 := by decide
  have e2 : IntKind.u32.max = 4294967295 := by decide
  simp only [Lit.wf, e1, e2, Bool.and_eq_true, decide_eq_true_eq] at h
  exact h
theorem RU16_of {n : Int} (h : (Lit.int .u16 n).wf = true) : RU16 n := by
  have e1 : IntKind.u16.min = 0 := by decide
  have e2 : IntKind.u16.max = 65535 := by decide
  simp only [Lit.wf, e1, e2, Bool.and_eq_true, decide_eq_true_eq] at h
  exact h
theorem RU8_of {n : Int} (h : (Lit.int .u8 n).wf = true) : RU8 n := by
  have e1 : IntKind.u8.min = 0 := by decide
  have e2 : IntKind.u8.max = 255 := by decide
  simp only [Lit.wf, e1, e2, Bool.and_eq_true, decide_eq_true_eq] at h
  exact h
theorem RI32_of {n : Int} (h : (Lit.int .i32 n).wf = true) : RI32 n := by
  have e1 : IntKind.i32.min = -2147483648 := by decide
  have e2 : IntKind.i32.max = 2147483647 := by decide
  simp only [Lit.wf, e1, e2, Bool.and_eq_true, decide_eq_true_eq] at h
  exact h
theorem len2_ {cs : List Value} (h : cs.length = 2) : ∃ c0 c1, cs = [c0, c1] := by
  match cs, h with | [c0, c1], _ => exact ⟨c0, c1, rfl⟩
theorem len3_ {cs : List Value} (h : cs.length = 3) : ∃ c0 c1 c2, cs = [c0, c1, c2] := by
  match cs, h with | [c0, c1, c2], _ => exact ⟨c0, c1, c2, rfl⟩
theorem len4_ {cs : List Value} (h : cs.length = 4) : ∃ c0 c1 c2 c3, cs = [c0, c1, c2, c3] := by
  match cs, h with | [c0, c1, c2, c3], _ => exact ⟨c0, c1, c2, c3, rfl⟩
theorem len5_ {cs : List Value} (h : cs.length = 5) : ∃ c0 c1 c2 c3 c4, cs = [c0, c1, c2, c3, c4] := by
  match cs, h with | [c0, c1, c2, c3, c4], _ => exact ⟨c0, c1, c2, c3, c4, rfl⟩
theorem len8_ {cs : List Value} (h : cs.length = 8) : ∃ c0 c1 c2 c3 c4 c5 c6 c7, cs = [c0, c1, c2, c3, c4, c5, c6, c7] := by
  match cs, h with | [c0, c1, c2, c3, c4, c5, c6, c7], _ => exact ⟨c0, c1, c2, c3, c4, c5, c6, c7, rfl⟩
theorem len12_ {cs : List Value} (h : cs.length = 12) : ∃ c0 c1 c2 c3 c4 c5 c6 c7 c8 c9 c10 c11, cs = [c0, c1, c2, c3, c4, c5, c6, c7, c8, c9, c10, c11] := by
  match cs, h with | [c0, c1, c2, c3, c4, c5, c6, c7, c8, c9, c10, c11], _ => exact ⟨c0, c1, c2, c3, c4, c5, c6, c7, c8, c9, c10, c11, rfl⟩
theorem len13_ {cs : List Value} (h : cs.length = 13) : ∃ c0 c1 c2 c3 c4 c5 c6 c7 c8 c9 c10 c11 c12, cs = [c0, c1, c2, c3, c4, c5, c6, c7, c8, c9, c10, c11, c12] := by
  match cs, h with | [c0, c1, c2, c3, c4, c5, c6, c7, c8, c9, c10, c11, c12], _ => exact ⟨c0, c1, c2, c3, c4, c5, c6, c7, c8, c9, c10, c11, c12, rfl⟩
structure ApiFunc where
  params : List Int
  results : List Int
  deriving Inhabited
/-- the cells cs read x -/
def ApiFuncV (F : Nat → Prop) (w : World) (cs : List Value) (x : ApiFunc) : Prop :=
  ∃ v0 v1 : Value, cs = [v0, v1] ∧ IntsR F w v0 x.params ∧ IntsR F w v1 x.results
/-- 2 cells of memory from o on read x -/
def ApiFuncR : ElR ApiFunc := fun F w b o x => ∃ cs, ApiFuncV F w cs x ∧ ∀ j, j < 2 → w.cell? ⟨b, o + j, none⟩ = cs[j]?
section
variable {F S H : Nat → Prop} {w w' : World} {b o : Nat} {cs : List Value} {x : ApiFunc}
theorem ApiFuncV.len (h : ApiFuncV F w cs x) : cs.length = 2 := by
  obtain ⟨v0, v1, rfl, r0, r1⟩ := h
  rfl
theorem ApiFuncV.chg (h : ApiFuncV F w cs x) (hc : Chg S w w') (hd : ∀ k, k < w.heap.size → F k → ¬ S k) : ApiFuncV F w' cs x := by
  obtain ⟨v0, v1, rfl, r0, r1⟩ := h
  exact ⟨v0, v1, rfl, r0.chg hc hd, r1.chg hc hd⟩
theorem ApiFuncV.mono (h : ApiFuncV F w cs x) (hd : ∀ k, k < w.heap.size → F k → H k) : ApiFuncV H w cs x := by
  obtain ⟨v0, v1, rfl, r0, r1⟩ := h
  exact ⟨v0, v1, rfl, r0.mono hd, r1.mono hd⟩
theorem ApiFuncV.at (h : ApiFuncV F w cs x) (hc : ∀ j, j < 2 → w.cell? ⟨b, o + j, none⟩ = cs[j]?) : ApiFuncR F w b o x := ⟨cs, h, hc⟩
theorem ApiFuncR.ce : Ce ApiFuncR := fun {F w b o x} ⟨cs, h, hc⟩ => by
  have h0 := hc 0 (by omega)
  have hl := h.len
  rw [List.getElem?_eq_getElem (by omega)] at h0
  exact cell_lt h0
theorem ApiFuncR.fr : Fr ApiFuncR := fun {F S w w' b o x} ⟨cs, h, hcc⟩ hc hF hd => ⟨cs, h.chg hc hd, fun j hj => by
  have h0 := hcc j hj
  have hl := h.len
  rw [List.getElem?_eq_getElem (by omega)] at h0 ⊢
  exact hc.cell (hd _ (cell_lt h0) hF) h0⟩
theorem ApiFuncR.mo : Mo ApiFuncR := fun ⟨cs, h, hcc⟩ hd => ⟨cs, h.mono hd, hcc⟩
theorem ApiFuncR.params (h : ApiFuncR F w b o x) : ∃ v, w.cell? ⟨b, o, none⟩ = some v ∧ IntsR F w v x.params := by
  obtain ⟨cs, hv, hc⟩ := h
  obtain ⟨v0, v1, rfl, r0, r1⟩ := hv
  exact ⟨_, hc 0 (by omega), r0⟩
theorem ApiFuncR.results (h : ApiFuncR F w b o x) : ∃ v, w.cell? ⟨b, o + 1, none⟩ = some v ∧ IntsR F w v x.results := by
  obtain ⟨cs, hv, hc⟩ := h
  obtain ⟨v0, v1, rfl, r0, r1⟩ := hv
  exact ⟨_, hc 1 (by omega), r1⟩
set_option maxRecDepth 100000 in
theorem ApiFuncV.of (h : Tr w 97 cs) (hcl : cs.length = 2) : ∃ x, ApiFuncV (fun _ => True) w cs x := by
  obtain ⟨c0, c1, rfl⟩ := len2_ hcl
  obtain ⟨-, hf⟩ := h.struct Tryd.underlying97
  obtain ⟨u0, y0, e0, z0⟩ := (show Tr w _ [c0] from Tr.fld hf 0 0 1 rfl (by kernel_rfl)).ints Tryd.underlying50 Tryd.underlying37 (by kernel_rfl) (by kernel_rfl)
  cases e0
  obtain ⟨u1, y1, e1, z1⟩ := (show Tr w _ [c1] from Tr.fld hf 1 1 1 rfl (by kernel_rfl)).ints Tryd.underlying50 Tryd.underlying37 (by kernel_rfl) (by kernel_rfl)
  cases e1
  exact ⟨⟨y0, y1⟩, ⟨_, _, rfl, z0, z1⟩⟩
theorem ApiFuncR.of (b o : Nat) (cs : List Value) (hcl : cs.length = 2) (hcc : ∀ j, j < 2 → w.cell? ⟨b, o + j, none⟩ = cs[j]?) (h : Tr w 97 cs) : ∃ x, ApiFuncR (fun _ => True) w b o x := by
  obtain ⟨x, hx⟩ := ApiFuncV.of h hcl
  exact ⟨x, cs, hx, hcc⟩
end
structure ApiLimits where
  min : Int
  max : Int
  has : Bool
  deriving Inhabited
/-- the cells cs read x -/
def ApiLimitsV (_F : Nat → Prop) (_w : World) (cs : List Value) (x : ApiLimits) : Prop :=
  cs = [.int .i64 x.min, .int .i64 x.max, .bool x.has] ∧ R64 x.min ∧ R64 x.max
/-- 3 cells of memory from o on read x -/
def ApiLimitsR : ElR ApiLimits := fun F w b o x => ∃ cs, ApiLimitsV F w cs x ∧ ∀ j, j < 3 → w.cell? ⟨b, o + j, none⟩ = cs[j]?
section
variable {F S H : Nat → Prop} {w w' : World} {b o : Nat} {cs : List Value} {x : ApiLimits}
theorem ApiLimitsV.len (h : ApiLimitsV F w cs x) : cs.length = 3 := by
  obtain ⟨rfl, g0, g1⟩ := h
  rfl
theorem ApiLimitsV.chg (h : ApiLimitsV F w cs x) (_hc : Chg S w w') (_hd : ∀ k, k < w.heap.size → F k → ¬ S k) : ApiLimitsV F w' cs x := by
  obtain ⟨rfl, g0, g1⟩ := h
  exact ⟨rfl, g0, g1⟩
theorem ApiLimitsV.mono (h : ApiLimitsV F w cs x) (_hd : ∀ k, k < w.heap.size → F k → H k) : ApiLimitsV H w cs x := by
  obtain ⟨rfl, g0, g1⟩ := h
  exact ⟨rfl, g0, g1⟩
theorem ApiLimitsV.at (h : ApiLimitsV F w cs x) (hc : ∀ j, j < 3 → w.cell? ⟨b, o + j, none⟩ = cs[j]?) : ApiLimitsR F w b o x := ⟨cs, h, hc⟩
theorem ApiLimitsR.ce : Ce ApiLimitsR := fun {F w b o x} ⟨cs, h, hc⟩ => by
  have h0 := hc 0 (by omega)
  have hl := h.len
  rw [List.getElem?_eq_getElem (by omega)] at h0
  exact cell_lt h0
theorem ApiLimitsR.fr : Fr ApiLimitsR := fun {F S w w' b o x} ⟨cs, h, hcc⟩ hc hF hd => ⟨cs, h.chg hc hd, fun j hj => by
  have h0 := hcc j hj
  have hl := h.len
  rw [List.getElem?_eq_getElem (by omega)] at h0 ⊢
  exact hc.cell (hd _ (cell_lt h0) hF) h0⟩
theorem ApiLimitsR.mo : Mo ApiLimitsR := fun ⟨cs, h, hcc⟩ hd => ⟨cs, h.mono hd, hcc⟩
theorem ApiLimitsR.min (h : ApiLimitsR F w b o x) : w.cell? ⟨b, o, none⟩ = some (.int .i64 x.min) := by
  obtain ⟨cs, hv, hc⟩ := h
  obtain ⟨rfl, g0, g1⟩ := hv
  exact hc 0 (by omega)
theorem ApiLimitsV.min_r (h : ApiLimitsV F w cs x) : R64 x.min := by
  obtain ⟨rfl, g0, g1⟩ := h
  exact g0
theorem ApiLimitsR.min_r (h : ApiLimitsR F w b o x) : R64 x.min := by
  obtain ⟨cs, hv, hc⟩ := h
  exact hv.min_r
theorem ApiLimitsR.max (h : ApiLimitsR F w b o x) : w.cell? ⟨b, o + 1, none⟩ = some (.int .i64 x.max) := by
  obtain ⟨cs, hv, hc⟩ := h
  obtain ⟨rfl, g0, g1⟩ := hv
  exact hc 1 (by omega)
theorem ApiLimitsV.max_r (h : ApiLimitsV F w cs x) : R64 x.max := by
  obtain ⟨rfl, g0, g1⟩ := h
  exact g1
theorem ApiLimitsR.max_r (h : ApiLimitsR F w b o x) : R64 x.max := by
  obtain ⟨cs, hv, hc⟩ := h
  exact hv.max_r
theorem ApiLimitsR.has (h : ApiLimitsR F w b o x) : w.cell? ⟨b, o + 2, none⟩ = some (.bool x.has) := by
  obtain ⟨cs, hv, hc⟩ := h
  obtain ⟨rfl, g0, g1⟩ := hv
  exact hc 2 (by omega)
set_option maxRecDepth 100000 in
theorem ApiLimitsV.of (h : Tr w 39 cs) (hcl : cs.length = 3) : ∃ x, ApiLimitsV (fun _ => True) w cs x := by
  obtain ⟨c0, c1, c2, rfl⟩ := len3_ hcl
  obtain ⟨-, hf⟩ := h.struct Tryd.underlying39
  obtain ⟨y0, e0, z0⟩ := (show Tr w _ [c0] from Tr.fld hf 0 0 1 rfl (by kernel_rfl)).int Tryd.underlying3
  cases e0
  obtain ⟨y1, e1, z1⟩ := (show Tr w _ [c1] from Tr.fld hf 1 1 1 rfl (by kernel_rfl)).int Tryd.underlying3
  cases e1
  obtain ⟨y2, e2⟩ := (show Tr w _ [c2] from Tr.fld hf 2 2 1 rfl (by kernel_rfl)).bool Tryd.underlying4
  cases e2
  exact ⟨⟨y0, y1, y2⟩, ⟨rfl, R64_of z0, R64_of z1⟩⟩
theorem ApiLimitsR.of (b o : Nat) (cs : List Value) (hcl : cs.length = 3) (hcc : ∀ j, j < 3 → w.cell? ⟨b, o + j, none⟩ = cs[j]?) (h : Tr w 39 cs) : ∃ x, ApiLimitsR (fun _ => True) w b o x := by
  obtain ⟨x, hx⟩ := ApiLimitsV.of h hcl
  exact ⟨x, cs, hx, hcc⟩
end
structure ApiTable where
  elem : Int
  lim : ApiLimits
  deriving Inhabited
/-- the cells cs read x -/
def ApiTableV (_F : Nat → Prop) (_w : World) (cs : List Value) (x : ApiTable) : Prop :=
  cs = [.int .i64 x.elem, .int .i64 x.lim.min, .int .i64 x.lim.max, .bool x.lim.has] ∧ R64 x.elem ∧ R64 x.lim.min ∧ R64 x.lim.max
/-- 4 cells of memory from o on read x -/
def ApiTableR : ElR ApiTable := fun F w b o x => ∃ cs, ApiTableV F w cs x ∧ ∀ j, j < 4 → w.cell? ⟨b, o + j, none⟩ = cs[j]?
section
variable {F S H : Nat → Prop} {w w' : World} {b o : Nat} {cs : List Value} {x : ApiTable}
theorem ApiTableV.len (h : ApiTableV F w cs x) : cs.length = 4 := by
  obtain ⟨rfl, g0, g1, g2⟩ := h
  rfl
theorem ApiTableV.chg (h : ApiTableV F w cs x) (_hc : Chg S w w') (_hd : ∀ k, k < w.heap.size → F k → ¬ S k) : ApiTableV F w' cs x := by
  obtain ⟨rfl, g0, g1, g2⟩ := h
  exact ⟨rfl, g0, g1, g2⟩
theorem ApiTableV.mono (h : ApiTableV F w cs x) (_hd : ∀ k, k < w.heap.size → F k → H k) : ApiTableV H w cs x := by
  obtain ⟨rfl, g0, g1, g2⟩ := h
  exact ⟨rfl, g0, g1, g2⟩
theorem ApiTableV.at (h : ApiTableV F w cs x) (hc : ∀ j, j < 4 → w.cell? ⟨b, o + j, none⟩ = cs[j]?) : ApiTableR F w b o x := ⟨cs, h, hc⟩
theorem ApiTableR.ce : Ce ApiTableR := fun {F w b o x} ⟨cs, h, hc⟩ => by
  have h0 := hc 0 (by omega)
  have hl := h.len
  rw [List.getElem?_eq_getElem (by omega)] at h0
  exact cell_lt h0
theorem ApiTableR.fr : Fr ApiTableR := fun {F S w w' b o x} ⟨cs, h, hcc⟩ hc hF hd => ⟨cs, h.chg hc hd, fun j hj => by
  have h0 := hcc j hj
  have hl := h.len
  rw [List.getElem?_eq_getElem (by omega)] at h0 ⊢
  exact hc.cell (hd _ (cell_lt h0) hF) h0⟩
theorem ApiTableR.mo : Mo ApiTableR := fun ⟨cs, h, hcc⟩ hd => ⟨cs, h.mono hd, hcc⟩
theorem ApiTableR.elem (h : ApiTableR F w b o x) : w.cell? ⟨b, o, none⟩ = some (.int .i64 x.elem) := by
  obtain ⟨cs, hv, hc⟩ := h
  obtain ⟨rfl, g0, g1, g2⟩ := hv
  exact hc 0 (by omega)
theorem ApiTableV.elem_r (h : ApiTableV F w cs x) : R64 x.elem := by
  obtain ⟨rfl, g0, g1, g2⟩ := h
  exact g0
theorem ApiTableR.elem_r (h : ApiTableR F w b o x) : R64 x.elem := by
  obtain ⟨cs, hv, hc⟩ := h
  exact hv.elem_r
theorem ApiTableR.lim (h : ApiTableR F w b o x) : ApiLimitsR F w b (o + 1) x.lim := by
  obtain ⟨cs, hv, hc⟩ := h
  obtain ⟨rfl, g0, g1, g2⟩ := hv
  refine ⟨_, ⟨rfl, g1, g2⟩, fun j hj => ?_⟩
  match j, hj with
  | 0, _ => exact hc 1 (by omega)
  | 1, _ => exact hc 2 (by omega)
  | 2, _ => exact hc 3 (by omega)
set_option maxRecDepth 100000 in
theorem ApiTableV.of (h : Tr w 41 cs) (hcl : cs.length = 4) : ∃ x, ApiTableV (fun _ => True) w cs x := by
  obtain ⟨c0, c1, c2, c3, rfl⟩ := len4_ hcl
  obtain ⟨-, hf⟩ := h.struct Tryd.underlying41
  obtain ⟨y0, e0, z0⟩ := (show Tr w _ [c0] from Tr.fld hf 0 0 1 rfl (by kernel_rfl)).int Tryd.underlying37
  cases e0
  obtain ⟨y1, q1⟩ := ApiLimitsV.of (show Tr w _ [c1, c2, c3] from Tr.fld hf 1 1 3 rfl (by kernel_rfl)) rfl
  obtain ⟨e1, k1_0, k1_1⟩ := q1
  cases e1
  exact ⟨⟨y0, y1⟩, ⟨rfl, R64_of z0, k1_0, k1_1⟩⟩
theorem ApiTableR.of (b o : Nat) (cs : List Value) (hcl : cs.length = 4) (hcc : ∀ j, j < 4 → w.cell? ⟨b, o + j, none⟩ = cs[j]?) (h : Tr w 41 cs) : ∃ x, ApiTableR (fun _ => True) w b o x := by
  obtain ⟨x, hx⟩ := ApiTableV.of h hcl
  exact ⟨x, cs, hx, hcc⟩
end
structure ApiGlobal where
  val_ : Int
  mut_ : Bool
  deriving Inhabited
/-- the cells cs read x -/
def ApiGlobalV (_F : Nat → Prop) (_w : World) (cs : List Value) (x : ApiGlobal) : Prop :=
  cs = [.int .i64 x.val_, .bool x.mut_] ∧ R64 x.val_
/-- 2 cells of memory from o on read x -/
def ApiGlobalR : ElR ApiGlobal := fun F w b o x => ∃ cs, ApiGlobalV F w cs x ∧ ∀ j, j < 2 → w.cell? ⟨b, o + j, none⟩ = cs[j]?
section
variable {F S H : Nat → Prop} {w w' : World} {b o : Nat} {cs : List Value} {x : ApiGlobal}
theorem ApiGlobalV.len (h : ApiGlobalV F w cs x) : cs.length = 2 := by
  obtain ⟨rfl, g0⟩ := h
  rfl
theorem ApiGlobalV.chg (h : ApiGlobalV F w cs x) (_hc : Chg S w w') (_hd : ∀ k, k < w.heap.size → F k → ¬ S k) : ApiGlobalV F w' cs x := by
  obtain ⟨rfl, g0⟩ := h
  exact ⟨rfl, g0⟩
theorem ApiGlobalV.mono (h : ApiGlobalV F w cs x) (_hd : ∀ k, k < w.heap.size → F k → H k) : ApiGlobalV H w cs x := by
  obtain ⟨rfl, g0⟩ := h
  exact ⟨rfl, g0⟩
theorem ApiGlobalV.at (h : ApiGlobalV F w cs x) (hc : ∀ j, j < 2 → w.cell? ⟨b, o + j, none⟩ = cs[j]?) : ApiGlobalR F w b o x := ⟨cs, h, hc⟩
theorem ApiGlobalR.ce : Ce ApiGlobalR := fun {F w b o x} ⟨cs, h, hc⟩ => by
  have h0 := hc 0 (by omega)
  have hl := h.len
  rw [List.getElem?_eq_getElem (by omega)] at h0
  exact cell_lt h0
theorem ApiGlobalR.fr : Fr ApiGlobalR := fun {F S w w' b o x} ⟨cs, h, hcc⟩ hc hF hd => ⟨cs, h.chg hc hd, fun j hj => by
  have h0 := hcc j hj
  have hl := h.len
  rw [List.getElem?_eq_getElem (by omega)] at h0 ⊢
  exact hc.cell (hd _ (cell_lt h0) hF) h0⟩
theorem ApiGlobalR.mo : Mo ApiGlobalR := fun ⟨cs, h, hcc⟩ hd => ⟨cs, h.mono hd, hcc⟩
theorem ApiGlobalR.val_ (h : ApiGlobalR F w b o x) : w.cell? ⟨b, o, none⟩ = some (.int .i64 x.val_) := by
  obtain ⟨cs, hv, hc⟩ := h
  obtain ⟨rfl, g0⟩ := hv
  exact hc 0 (by omega)
theorem ApiGlobalV.val__r (h : ApiGlobalV F w cs x) : R64 x.val_ := by
  obtain ⟨rfl, g0⟩ := h
  exact g0
theorem ApiGlobalR.val__r (h : ApiGlobalR F w b o x) : R64 x.val_ := by
  obtain ⟨cs, hv, hc⟩ := h
  exact hv.val__r
theorem ApiGlobalR.mut_ (h : ApiGlobalR F w b o x) : w.cell? ⟨b, o + 1, none⟩ = some (.bool x.mut_) := by
  obtain ⟨cs, hv, hc⟩ := h
  obtain ⟨rfl, g0⟩ := hv
  exact hc 1 (by omega)
set_option maxRecDepth 100000 in
theorem ApiGlobalV.of (h : Tr w 43 cs) (hcl : cs.length = 2) : ∃ x, ApiGlobalV (fun _ => True) w cs x := by
  obtain ⟨c0, c1, rfl⟩ := len2_ hcl
  obtain ⟨-, hf⟩ := h.struct Tryd.underlying43
  obtain ⟨y0, e0, z0⟩ := (show Tr w _ [c0] from Tr.fld hf 0 0 1 rfl (by kernel_rfl)).int Tryd.underlying37
  cases e0
  obtain ⟨y1, e1⟩ := (show Tr w _ [c1] from Tr.fld hf 1 1 1 rfl (by kernel_rfl)).bool Tryd.underlying4
  cases e1
  exact ⟨⟨y0, y1⟩, ⟨rfl, R64_of z0⟩⟩
theorem ApiGlobalR.of (b o : Nat) (cs : List Value) (hcl : cs.length = 2) (hcc : ∀ j, j < 2 → w.cell? ⟨b, o + j, none⟩ = cs[j]?) (h : Tr w 43 cs) : ∃ x, ApiGlobalR (fun _ => True) w b o x := by
  obtain ⟨x, hx⟩ := ApiGlobalV.of h hcl
  exact ⟨x, cs, hx, hcc⟩
end
structure ApiImport where
  module : ByteArray
  name : ByteArray
  kind : Int
  func : Int
  table : ApiTable
  mem : ApiLimits
  global_ : ApiGlobal
  deriving Inhabited
/-- the cells cs read x -/
def ApiImportV (_F : Nat → Prop) (_w : World) (cs : List Value) (x : ApiImport) : Prop :=
  cs = [.string x.module, .string x.name, .int .i64 x.kind, .int .i64 x.func, .int .i64 x.table.elem, .int .i64 x.table.lim.min, .int .i64 x.table.lim.max, .bool x.table.lim.has, .int .i64 x.mem.min, .int .i64 x.mem.max, .bool x.mem.has, .int .i64 x.global_.val_, .bool x.global_.mut_] ∧ x.module.size ≤ 140737488351232 ∧ x.name.size ≤ 140737488351232 ∧ R64 x.kind ∧ R64 x.func ∧ R64 x.table.elem ∧ R64 x.table.lim.min ∧ R64 x.table.lim.max ∧ R64 x.mem.min ∧ R64 x.mem.max ∧ R64 x.global_.val_
/-- 13 cells of memory from o on read x -/
def ApiImportR : ElR ApiImport := fun F w b o x => ∃ cs, ApiImportV F w cs x ∧ ∀ j, j < 13 → w.cell? ⟨b, o + j, none⟩ = cs[j]?
section
variable {F S H : Nat → Prop} {w w' : World} {b o : Nat} {cs : List Value} {x : ApiImport}
theorem ApiImportV.len (h : ApiImportV F w cs x) : cs.length = 13 := by
  obtain ⟨rfl, g0, g1, g2, g3, g4, g5, g6, g7, g8, g9⟩ := h
  rfl
theorem ApiImportV.chg (h : ApiImportV F w cs x) (_hc : Chg S w w') (_hd : ∀ k, k < w.heap.size → F k → ¬ S k) : ApiImportV F w' cs x := by
  obtain ⟨rfl, g0, g1, g2, g3, g4, g5, g6, g7, g8, g9⟩ := h
  exact ⟨rfl, g0, g1, g2, g3, g4, g5, g6, g7, g8, g9⟩
theorem ApiImportV.mono (h : ApiImportV F w cs x) (_hd : ∀ k, k < w.heap.size → F k → H k) : ApiImportV H w cs x := by
  obtain ⟨rfl, g0, g1, g2, g3, g4, g5, g6, g7, g8, g9⟩ := h
  exact ⟨rfl, g0, g1, g2, g3, g4, g5, g6, g7, g8, g9⟩
theorem ApiImportV.at (h : ApiImportV F w cs x) (hc : ∀ j, j < 13 → w.cell? ⟨b, o + j, none⟩ = cs[j]?) : ApiImportR F w b o x := ⟨cs, h, hc⟩
theorem ApiImportR.ce : Ce ApiImportR := fun {F w b o x} ⟨cs, h, hc⟩ => by
  have h0 := hc 0 (by omega)
  have hl := h.len
  rw [List.getElem?_eq_getElem (by omega)] at h0
  exact cell_lt h0
theorem ApiImportR.fr : Fr ApiImportR := fun {F S w w' b o x} ⟨cs, h, hcc⟩ hc hF hd => ⟨cs, h.chg hc hd, fun j hj => by
  have h0 := hcc j hj
  have hl := h.len
  rw [List.getElem?_eq_getElem (by omega)] at h0 ⊢
  exact hc.cell (hd _ (cell_lt h0) hF) h0⟩
theorem ApiImportR.mo : Mo ApiImportR := fun ⟨cs, h, hcc⟩ hd => ⟨cs, h.mono hd, hcc⟩
theorem ApiImportR.module (h : ApiImportR F w b o x) : w.cell? ⟨b, o, none⟩ = some (.string x.module) := by
  obtain ⟨cs, hv, hc⟩ := h
  obtain ⟨rfl, g0, g1, g2, g3, g4, g5, g6, g7, g8, g9⟩ := hv
  exact hc 0 (by omega)
theorem ApiImportV.module_r (h : ApiImportV F w cs x) : x.module.size ≤ 140737488351232 := by
  obtain ⟨rfl, g0, g1, g2, g3, g4, g5, g6, g7, g8, g9⟩ := h
  exact g0
theorem ApiImportR.module_r (h : ApiImportR F w b o x) : x.module.size ≤ 140737488351232 := by
  obtain ⟨cs, hv, hc⟩ := h
  exact hv.module_r
theorem ApiImportR.name (h : ApiImportR F w b o x) : w.cell? ⟨b, o + 1, none⟩ = some (.string x.name) := by
  obtain ⟨cs, hv, hc⟩ := h
  obtain ⟨rfl, g0, g1, g2, g3, g4, g5, g6, g7, g8, g9⟩ := hv
  exact hc 1 (by omega)
theorem ApiImportV.name_r (h : ApiImportV F w cs x) : x.name.size ≤ 140737488351232 := by
  obtain ⟨rfl, g0, g1, g2, g3, g4, g5, g6, g7, g8, g9⟩ := h
  exact g1
theorem ApiImportR.name_r (h : ApiImportR F w b o x) : x.name.size ≤ 140737488351232 := by
  obtain ⟨cs, hv, hc⟩ := h
  exact hv.name_r
theorem ApiImportR.kind (h : ApiImportR F w b o x) : w.cell? ⟨b, o + 2, none⟩ = some (.int .i64 x.kind) := by
  obtain ⟨cs, hv, hc⟩ := h
  obtain ⟨rfl, g0, g1, g2, g3, g4, g5, g6, g7, g8, g9⟩ := hv
  exact hc 2 (by omega)
theorem ApiImportV.kind_r (h : ApiImportV F w cs x) : R64 x.kind := by
  obtain ⟨rfl, g0, g1, g2, g3, g4, g5, g6, g7, g8, g9⟩ := h
  exact g2
theorem ApiImportR.kind_r (h : ApiImportR F w b o x) : R64 x.kind := by
  obtain ⟨cs, hv, hc⟩ := h
  exact hv.kind_r
theorem ApiImportR.func (h : ApiImportR F w b o x) : w.cell? ⟨b, o + 3, none⟩ = some (.int .i64 x.func) := by
  obtain ⟨cs, hv, hc⟩ := h
  obtain ⟨rfl, g0, g1, g2, g3, g4, g5, g6, g7, g8, g9⟩ := hv
  exact hc 3 (by omega)
theorem ApiImportV.func_r (h : ApiImportV F w cs x) : R64 x.func := by
  obtain ⟨rfl, g0, g1, g2, g3, g4, g5, g6, g7, g8, g9⟩ := h
  exact g3
theorem ApiImportR.func_r (h : ApiImportR F w b o x) : R64 x.func := by
  obtain ⟨cs, hv, hc⟩ := h
  exact hv.func_r
theorem ApiImportR.table (h : ApiImportR F w b o x) : ApiTableR F w b (o + 4) x.table := by
  obtain ⟨cs, hv, hc⟩ := h
  obtain ⟨rfl, g0, g1, g2, g3, g4, g5, g6, g7, g8, g9⟩ := hv
  refine ⟨_, ⟨rfl, g4, g5, g6⟩, fun j hj => ?_⟩
  match j, hj with
  | 0, _ => exact hc 4 (by omega)
  | 1, _ => exact hc 5 (by omega)
  | 2, _ => exact hc 6 (by omega)
  | 3, _ => exact hc 7 (by omega)
theorem ApiImportR.mem (h : ApiImportR F w b o x) : ApiLimitsR F w b (o + 8) x.mem := by
  obtain ⟨cs, hv, hc⟩ := h
  obtain ⟨rfl, g0, g1, g2, g3, g4, g5, g6, g7, g8, g9⟩ := hv
  refine ⟨_, ⟨rfl, g7, g8⟩, fun j hj => ?_⟩
  match j, hj with
  | 0, _ => exact hc 8 (by omega)
  | 1, _ => exact hc 9 (by omega)
  | 2, _ => exact hc 10 (by omega)
theorem ApiImportR.global_ (h : ApiImportR F w b o x) : ApiGlobalR F w b (o + 11) x.global_ := by
  obtain ⟨cs, hv, hc⟩ := h
  obtain ⟨rfl, g0, g1, g2, g3, g4, g5, g6, g7, g8, g9⟩ := hv
  refine ⟨_, ⟨rfl, g9⟩, fun j hj => ?_⟩
  match j, hj with
  | 0, _ => exact hc 11 (by omega)
  | 1, _ => exact hc 12 (by omega)
set_option maxRecDepth 100000 in
theorem ApiImportV.of (h : Tr w 45 cs) (hcl : cs.length = 13) : ∃ x, ApiImportV (fun _ => True) w cs x := by
  obtain ⟨c0, c1, c2, c3, c4, c5, c6, c7, c8, c9, c10, c11, c12, rfl⟩ := len13_ hcl
  obtain ⟨-, hf⟩ := h.struct Tryd.underlying45
  obtain ⟨y0, e0, z0⟩ := (show Tr w _ [c0] from Tr.fld hf 0 0 1 rfl (by kernel_rfl)).string Tryd.underlying9
  rw [reach_val] at z0
  cases e0
  obtain ⟨y1, e1, z1⟩ := (show Tr w _ [c1] from Tr.fld hf 1 1 1 rfl (by kernel_rfl)).string Tryd.underlying9
  rw [reach_val] at z1
  cases e1
  obtain ⟨y2, e2, z2⟩ := (show Tr w _ [c2] from Tr.fld hf 2 2 1 rfl (by kernel_rfl)).int Tryd.underlying36
  cases e2
  obtain ⟨y3, e3, z3⟩ := (show Tr w _ [c3] from Tr.fld hf 3 3 1 rfl (by kernel_rfl)).int Tryd.underlying3
  cases e3
  obtain ⟨y4, q4⟩ := ApiTableV.of (show Tr w _ [c4, c5, c6, c7] from Tr.fld hf 4 4 4 rfl (by kernel_rfl)) rfl
  obtain ⟨e4, k4_0, k4_1, k4_2⟩ := q4
  cases e4
  obtain ⟨y5, q5⟩ := ApiLimitsV.of (show Tr w _ [c8, c9, c10] from Tr.fld hf 5 8 3 rfl (by kernel_rfl)) rfl
  obtain ⟨e5, k5_0, k5_1⟩ := q5
  cases e5
  obtain ⟨y6, q6⟩ := ApiGlobalV.of (show Tr w _ [c11, c12] from Tr.fld hf 6 11 2 rfl (by kernel_rfl)) rfl
  obtain ⟨e6, k6_0⟩ := q6
  cases e6
  exact ⟨⟨y0, y1, y2, y3, y4, y5, y6⟩, ⟨rfl, z0, z1, R64_of z2, R64_of z3, k4_0, k4_1, k4_2, k5_0, k5_1, k6_0⟩⟩
theorem ApiImportR.of (b o : Nat) (cs : List Value) (hcl : cs.length = 13) (hcc : ∀ j, j < 13 → w.cell? ⟨b, o + j, none⟩ = cs[j]?) (h : Tr w 45 cs) : ∃ x, ApiImportR (fun _ => True) w b o x := by
  obtain ⟨x, hx⟩ := ApiImportV.of h hcl
  exact ⟨x, cs, hx, hcc⟩
end
structure ApiCode where
  type_ : Int
  locals : List Int
  body : List Ins
  deriving Inhabited
/-- the cells cs read x -/
def ApiCodeV (F : Nat → Prop) (w : World) (cs : List Value) (x : ApiCode) : Prop :=
  ∃ v0 v1 : Value, cs = [.int .i64 x.type_, v0, v1] ∧ IntsR F w v0 x.locals ∧ BodyR F w v1 x.body ∧ R64 x.type_
/-- 3 cells of memory from o on read x -/
def ApiCodeR : ElR ApiCode := fun F w b o x => ∃ cs, ApiCodeV F w cs x ∧ ∀ j, j < 3 → w.cell? ⟨b, o + j, none⟩ = cs[j]?
section
variable {F S H : Nat → Prop} {w w' : World} {b o : Nat} {cs : List Value} {x : ApiCode}
theorem ApiCodeV.len (h : ApiCodeV F w cs x) : cs.length = 3 := by
  obtain ⟨v0, v1, rfl, r0, r1, g0⟩ := h
  rfl
theorem ApiCodeV.chg (h : ApiCodeV F w cs x) (hc : Chg S w w') (hd : ∀ k, k < w.heap.size → F k → ¬ S k) : ApiCodeV F w' cs x := by
  obtain ⟨v0, v1, rfl, r0, r1, g0⟩ := h
  exact ⟨v0, v1, rfl, r0.chg hc hd, r1.chg hc hd, g0⟩
theorem ApiCodeV.mono (h : ApiCodeV F w cs x) (hd : ∀ k, k < w.heap.size → F k → H k) : ApiCodeV H w cs x := by
  obtain ⟨v0, v1, rfl, r0, r1, g0⟩ := h
  exact ⟨v0, v1, rfl, r0.mono hd, r1.mono hd, g0⟩
theorem ApiCodeV.at (h : ApiCodeV F w cs x) (hc : ∀ j, j < 3 → w.cell? ⟨b, o + j, none⟩ = cs[j]?) : ApiCodeR F w b o x := ⟨cs, h, hc⟩
theorem ApiCodeR.ce : Ce ApiCodeR := fun {F w b o x} ⟨cs, h, hc⟩ => by
  have h0 := hc 0 (by omega)
  have hl := h.len
  rw [List.getElem?_eq_getElem (by omega)] at h0
  exact cell_lt h0
theorem ApiCodeR.fr : Fr ApiCodeR := fun {F S w w' b o x} ⟨cs, h, hcc⟩ hc hF hd => ⟨cs, h.chg hc hd, fun j hj => by
  have h0 := hcc j hj
  have hl := h.len
  rw [List.getElem?_eq_getElem (by omega)] at h0 ⊢
  exact hc.cell (hd _ (cell_lt h0) hF) h0⟩
theorem ApiCodeR.mo : Mo ApiCodeR := fun ⟨cs, h, hcc⟩ hd => ⟨cs, h.mono hd, hcc⟩
theorem ApiCodeR.type_ (h : ApiCodeR F w b o x) : w.cell? ⟨b, o, none⟩ = some (.int .i64 x.type_) := by
  obtain ⟨cs, hv, hc⟩ := h
  obtain ⟨v0, v1, rfl, r0, r1, g0⟩ := hv
  exact hc 0 (by omega)
theorem ApiCodeV.type__r (h : ApiCodeV F w cs x) : R64 x.type_ := by
  obtain ⟨v0, v1, rfl, r0, r1, g0⟩ := h
  exact g0
theorem ApiCodeR.type__r (h : ApiCodeR F w b o x) : R64 x.type_ := by
  obtain ⟨cs, hv, hc⟩ := h
  exact hv.type__r
theorem ApiCodeR.locals (h : ApiCodeR F w b o x) : ∃ v, w.cell? ⟨b, o + 1, none⟩ = some v ∧ IntsR F w v x.locals := by
  obtain ⟨cs, hv, hc⟩ := h
  obtain ⟨v0, v1, rfl, r0, r1, g0⟩ := hv
  exact ⟨_, hc 1 (by omega), r0⟩
theorem ApiCodeR.body (h : ApiCodeR F w b o x) : ∃ v, w.cell? ⟨b, o + 2, none⟩ = some v ∧ BodyR F w v x.body := by
  obtain ⟨cs, hv, hc⟩ := h
  obtain ⟨v0, v1, rfl, r0, r1, g0⟩ := hv
  exact ⟨_, hc 2 (by omega), r1⟩
set_option maxRecDepth 100000 in
theorem ApiCodeV.of (h : Tr w 56 cs) (hcl : cs.length = 3) : ∃ x, ApiCodeV (fun _ => True) w cs x := by
  obtain ⟨c0, c1, c2, rfl⟩ := len3_ hcl
  obtain ⟨-, hf⟩ := h.struct Tryd.underlying56
  obtain ⟨y0, e0, z0⟩ := (show Tr w _ [c0] from Tr.fld hf 0 0 1 rfl (by kernel_rfl)).int Tryd.underlying3
  cases e0
  obtain ⟨u1, y1, e1, z1⟩ := (show Tr w _ [c1] from Tr.fld hf 1 1 1 rfl (by kernel_rfl)).ints Tryd.underlying50 Tryd.underlying37 (by kernel_rfl) (by kernel_rfl)
  cases e1
  obtain ⟨u2, y2, e2, z2⟩ := (show Tr w _ [c2] from Tr.fld hf 2 2 1 rfl (by kernel_rfl)).body
  cases e2
  exact ⟨⟨y0, y1, y2⟩, ⟨_, _, rfl, z1, z2, R64_of z0⟩⟩
theorem ApiCodeR.of (b o : Nat) (cs : List Value) (hcl : cs.length = 3) (hcc : ∀ j, j < 3 → w.cell? ⟨b, o + j, none⟩ = cs[j]?) (h : Tr w 56 cs) : ∃ x, ApiCodeR (fun _ => True) w b o x := by
  obtain ⟨x, hx⟩ := ApiCodeV.of h hcl
  exact ⟨x, cs, hx, hcc⟩
end
structure ApiGlobalDef where
  type_ : ApiGlobal
  init_ : List Ins
  deriving Inhabited
/-- the cells cs read x -/
def ApiGlobalDefV (F : Nat → Prop) (w : World) (cs : List Value) (x : ApiGlobalDef) : Prop :=
  ∃ v0 : Value, cs = [.int .i64 x.type_.val_, .bool x.type_.mut_, v0] ∧ BodyR F w v0 x.init_ ∧ R64 x.type_.val_
/-- 3 cells of memory from o on read x -/
def ApiGlobalDefR : ElR ApiGlobalDef := fun F w b o x => ∃ cs, ApiGlobalDefV F w cs x ∧ ∀ j, j < 3 → w.cell? ⟨b, o + j, none⟩ = cs[j]?
section
variable {F S H : Nat → Prop} {w w' : World} {b o : Nat} {cs : List Value} {x : ApiGlobalDef}
theorem ApiGlobalDefV.len (h : ApiGlobalDefV F w cs x) : cs.length = 3 := by
  obtain ⟨v0, rfl, r0, g0⟩ := h
  rfl
theorem ApiGlobalDefV.chg (h : ApiGlobalDefV F w cs x) (hc : Chg S w w') (hd : ∀ k, k < w.heap.size → F k → ¬ S k) : ApiGlobalDefV F w' cs x := by
  obtain ⟨v0, rfl, r0, g0⟩ := h
  exact ⟨v0, rfl, r0.chg hc hd, g0⟩
theorem ApiGlobalDefV.mono (h : ApiGlobalDefV F w cs x) (hd : ∀ k, k < w.heap.size → F k → H k) : ApiGlobalDefV H w cs x := by
  obtain ⟨v0, rfl, r0, g0⟩ := h
  exact ⟨v0, rfl, r0.mono hd, g0⟩
theorem ApiGlobalDefV.at (h : ApiGlobalDefV F w cs x) (hc : ∀ j, j < 3 → w.cell? ⟨b, o + j, none⟩ = cs[j]?) : ApiGlobalDefR F w b o x := ⟨cs, h, hc⟩
theorem ApiGlobalDefR.ce : Ce ApiGlobalDefR := fun {F w b o x} ⟨cs, h, hc⟩ => by
  have h0 := hc 0 (by omega)
  have hl := h.len
  rw [List.getElem?_eq_getElem (by omega)] at h0
  exact cell_lt h0
theorem ApiGlobalDefR.fr : Fr ApiGlobalDefR := fun {F S w w' b o x} ⟨cs, h, hcc⟩ hc hF hd => ⟨cs, h.chg hc hd, fun j hj => by
  have h0 := hcc j hj
  have hl := h.len
  rw [List.getElem?_eq_getElem (by omega)] at h0 ⊢
  exact hc.cell (hd _ (cell_lt h0) hF) h0⟩
theorem ApiGlobalDefR.mo : Mo ApiGlobalDefR := fun ⟨cs, h, hcc⟩ hd => ⟨cs, h.mono hd, hcc⟩
theorem ApiGlobalDefR.type_ (h : ApiGlobalDefR F w b o x) : ApiGlobalR F w b (o) x.type_ := by
  obtain ⟨cs, hv, hc⟩ := h
  obtain ⟨v0, rfl, r0, g0⟩ := hv
  refine ⟨_, ⟨rfl, g0⟩, fun j hj => ?_⟩
  match j, hj with
  | 0, _ => exact hc 0 (by omega)
  | 1, _ => exact hc 1 (by omega)
theorem ApiGlobalDefR.init_ (h : ApiGlobalDefR F w b o x) : ∃ v, w.cell? ⟨b, o + 2, none⟩ = some v ∧ BodyR F w v x.init_ := by
  obtain ⟨cs, hv, hc⟩ := h
  obtain ⟨v0, rfl, r0, g0⟩ := hv
  exact ⟨_, hc 2 (by omega), r0⟩
set_option maxRecDepth 100000 in
theorem ApiGlobalDefV.of (h : Tr w 110 cs) (hcl : cs.length = 3) : ∃ x, ApiGlobalDefV (fun _ => True) w cs x := by
  obtain ⟨c0, c1, c2, rfl⟩ := len3_ hcl
  obtain ⟨-, hf⟩ := h.struct Tryd.underlying110
  obtain ⟨y0, q0⟩ := ApiGlobalV.of (show Tr w _ [c0, c1] from Tr.fld hf 0 0 2 rfl (by kernel_rfl)) rfl
  obtain ⟨e0, k0_0⟩ := q0
  cases e0
  obtain ⟨u1, y1, e1, z1⟩ := (show Tr w _ [c2] from Tr.fld hf 1 2 1 rfl (by kernel_rfl)).body
  cases e1
  exact ⟨⟨y0, y1⟩, ⟨_, rfl, z1, k0_0⟩⟩
theorem ApiGlobalDefR.of (b o : Nat) (cs : List Value) (hcl : cs.length = 3) (hcc : ∀ j, j < 3 → w.cell? ⟨b, o + j, none⟩ = cs[j]?) (h : Tr w 110 cs) : ∃ x, ApiGlobalDefR (fun _ => True) w b o x := by
  obtain ⟨x, hx⟩ := ApiGlobalDefV.of h hcl
  exact ⟨x, cs, hx, hcc⟩
end
structure ApiExport where
  name : ByteArray
  kind : Int
  index : Int
  deriving Inhabited
/-- the cells cs read x -/
def ApiExportV (_F : Nat → Prop) (_w : World) (cs : List Value) (x : ApiExport) : Prop :=
  cs = [.string x.name, .int .i64 x.kind, .int .i64 x.index] ∧ x.name.size ≤ 140737488351232 ∧ R64 x.kind ∧ R64 x.index
/-- 3 cells of memory from o on read x -/
def ApiExportR : ElR ApiExport := fun F w b o x => ∃ cs, ApiExportV F w cs x ∧ ∀ j, j < 3 → w.cell? ⟨b, o + j, none⟩ = cs[j]?
section
variable {F S H : Nat → Prop} {w w' : World} {b o : Nat} {cs : List Value} {x : ApiExport}
theorem ApiExportV.len (h : ApiExportV F w cs x) : cs.length = 3 := by
  obtain ⟨rfl, g0, g1, g2⟩ := h
  rfl
theorem ApiExportV.chg (h : ApiExportV F w cs x) (_hc : Chg S w w') (_hd : ∀ k, k < w.heap.size → F k → ¬ S k) : ApiExportV F w' cs x := by
  obtain ⟨rfl, g0, g1, g2⟩ := h
  exact ⟨rfl, g0, g1, g2⟩
theorem ApiExportV.mono (h : ApiExportV F w cs x) (_hd : ∀ k, k < w.heap.size → F k → H k) : ApiExportV H w cs x := by
  obtain ⟨rfl, g0, g1, g2⟩ := h
  exact ⟨rfl, g0, g1, g2⟩
theorem ApiExportV.at (h : ApiExportV F w cs x) (hc : ∀ j, j < 3 → w.cell? ⟨b, o + j, none⟩ = cs[j]?) : ApiExportR F w b o x := ⟨cs, h, hc⟩
theorem ApiExportR.ce : Ce ApiExportR := fun {F w b o x} ⟨cs, h, hc⟩ => by
  have h0 := hc 0 (by omega)
  have hl := h.len
  rw [List.getElem?_eq_getElem (by omega)] at h0
  exact cell_lt h0
theorem ApiExportR.fr : Fr ApiExportR := fun {F S w w' b o x} ⟨cs, h, hcc⟩ hc hF hd => ⟨cs, h.chg hc hd, fun j hj => by
  have h0 := hcc j hj
  have hl := h.len
  rw [List.getElem?_eq_getElem (by omega)] at h0 ⊢
  exact hc.cell (hd _ (cell_lt h0) hF) h0⟩
theorem ApiExportR.mo : Mo ApiExportR := fun ⟨cs, h, hcc⟩ hd => ⟨cs, h.mono hd, hcc⟩
theorem ApiExportR.name (h : ApiExportR F w b o x) : w.cell? ⟨b, o, none⟩ = some (.string x.name) := by
  obtain ⟨cs, hv, hc⟩ := h
  obtain ⟨rfl, g0, g1, g2⟩ := hv
  exact hc 0 (by omega)
theorem ApiExportV.name_r (h : ApiExportV F w cs x) : x.name.size ≤ 140737488351232 := by
  obtain ⟨rfl, g0, g1, g2⟩ := h
  exact g0
theorem ApiExportR.name_r (h : ApiExportR F w b o x) : x.name.size ≤ 140737488351232 := by
  obtain ⟨cs, hv, hc⟩ := h
  exact hv.name_r
theorem ApiExportR.kind (h : ApiExportR F w b o x) : w.cell? ⟨b, o + 1, none⟩ = some (.int .i64 x.kind) := by
  obtain ⟨cs, hv, hc⟩ := h
  obtain ⟨rfl, g0, g1, g2⟩ := hv
  exact hc 1 (by omega)
theorem ApiExportV.kind_r (h : ApiExportV F w cs x) : R64 x.kind := by
  obtain ⟨rfl, g0, g1, g2⟩ := h
  exact g1
theorem ApiExportR.kind_r (h : ApiExportR F w b o x) : R64 x.kind := by
  obtain ⟨cs, hv, hc⟩ := h
  exact hv.kind_r
theorem ApiExportR.index (h : ApiExportR F w b o x) : w.cell? ⟨b, o + 2, none⟩ = some (.int .i64 x.index) := by
  obtain ⟨cs, hv, hc⟩ := h
  obtain ⟨rfl, g0, g1, g2⟩ := hv
  exact hc 2 (by omega)
theorem ApiExportV.index_r (h : ApiExportV F w cs x) : R64 x.index := by
  obtain ⟨rfl, g0, g1, g2⟩ := h
  exact g2
theorem ApiExportR.index_r (h : ApiExportR F w b o x) : R64 x.index := by
  obtain ⟨cs, hv, hc⟩ := h
  exact hv.index_r
set_option maxRecDepth 100000 in
theorem ApiExportV.of (h : Tr w 115 cs) (hcl : cs.length = 3) : ∃ x, ApiExportV (fun _ => True) w cs x := by
  obtain ⟨c0, c1, c2, rfl⟩ := len3_ hcl
  obtain ⟨-, hf⟩ := h.struct Tryd.underlying115
  obtain ⟨y0, e0, z0⟩ := (show Tr w _ [c0] from Tr.fld hf 0 0 1 rfl (by kernel_rfl)).string Tryd.underlying9
  rw [reach_val] at z0
  cases e0
  obtain ⟨y1, e1, z1⟩ := (show Tr w _ [c1] from Tr.fld hf 1 1 1 rfl (by kernel_rfl)).int Tryd.underlying36
  cases e1
  obtain ⟨y2, e2, z2⟩ := (show Tr w _ [c2] from Tr.fld hf 2 2 1 rfl (by kernel_rfl)).int Tryd.underlying3
  cases e2
  exact ⟨⟨y0, y1, y2⟩, ⟨rfl, z0, R64_of z1, R64_of z2⟩⟩
theorem ApiExportR.of (b o : Nat) (cs : List Value) (hcl : cs.length = 3) (hcc : ∀ j, j < 3 → w.cell? ⟨b, o + j, none⟩ = cs[j]?) (h : Tr w 115 cs) : ∃ x, ApiExportR (fun _ => True) w b o x := by
  obtain ⟨x, hx⟩ := ApiExportV.of h hcl
  exact ⟨x, cs, hx, hcc⟩
end
structure ApiElem where
  mode : Int
  table : Int
  offset : List Ins
  type_ : Int
  items : List (List Ins)
  deriving Inhabited
/-- the cells cs read x -/
def ApiElemV (F : Nat → Prop) (w : World) (cs : List Value) (x : ApiElem) : Prop :=
  ∃ v0 v1 : Value, cs = [.int .i64 x.mode, .int .i64 x.table, v0, .int .i64 x.type_, v1] ∧ BodyR F w v0 x.offset ∧ SlR 1 5864062014634 (RowAt BodyR) F w v1 x.items ∧ R64 x.mode ∧ R64 x.table ∧ R64 x.type_
/-- 5 cells of memory from o on read x -/
def ApiElemR : ElR ApiElem := fun F w b o x => ∃ cs, ApiElemV F w cs x ∧ ∀ j, j < 5 → w.cell? ⟨b, o + j, none⟩ = cs[j]?
section
variable {F S H : Nat → Prop} {w w' : World} {b o : Nat} {cs : List Value} {x : ApiElem}
theorem ApiElemV.len (h : ApiElemV F w cs x) : cs.length = 5 := by
  obtain ⟨v0, v1, rfl, r0, r1, g0, g1, g2⟩ := h
  rfl
theorem ApiElemV.chg (h : ApiElemV F w cs x) (hc : Chg S w w') (hd : ∀ k, k < w.heap.size → F k → ¬ S k) : ApiElemV F w' cs x := by
  obtain ⟨v0, v1, rfl, r0, r1, g0, g1, g2⟩ := h
  exact ⟨v0, v1, rfl, r0.chg hc hd, SlR.chg (RowAt.fr (fun h hc hd => h.chg hc hd)) RowAt.ce r1 hc hd, g0, g1, g2⟩
theorem ApiElemV.mono (h : ApiElemV F w cs x) (hd : ∀ k, k < w.heap.size → F k → H k) : ApiElemV H w cs x := by
  obtain ⟨v0, v1, rfl, r0, r1, g0, g1, g2⟩ := h
  exact ⟨v0, v1, rfl, r0.mono hd, SlR.mono (RowAt.mo (fun h hd => h.mono hd)) RowAt.ce r1 hd, g0, g1, g2⟩
theorem ApiElemV.at (h : ApiElemV F w cs x) (hc : ∀ j, j < 5 → w.cell? ⟨b, o + j, none⟩ = cs[j]?) : ApiElemR F w b o x := ⟨cs, h, hc⟩
theorem ApiElemR.ce : Ce ApiElemR := fun {F w b o x} ⟨cs, h, hc⟩ => by
  have h0 := hc 0 (by omega)
  have hl := h.len
  rw [List.getElem?_eq_getElem (by omega)] at h0
  exact cell_lt h0
theorem ApiElemR.fr : Fr ApiElemR := fun {F S w w' b o x} ⟨cs, h, hcc⟩ hc hF hd => ⟨cs, h.chg hc hd, fun j hj => by
  have h0 := hcc j hj
  have hl := h.len
  rw [List.getElem?_eq_getElem (by omega)] at h0 ⊢
  exact hc.cell (hd _ (cell_lt h0) hF) h0⟩
theorem ApiElemR.mo : Mo ApiElemR := fun ⟨cs, h, hcc⟩ hd => ⟨cs, h.mono hd, hcc⟩
theorem ApiElemR.mode (h : ApiElemR F w b o x) : w.cell? ⟨b, o, none⟩ = some (.int .i64 x.mode) := by
  obtain ⟨cs, hv, hc⟩ := h
  obtain ⟨v0, v1, rfl, r0, r1, g0, g1, g2⟩ := hv
  exact hc 0 (by omega)
theorem ApiElemV.mode_r (h : ApiElemV F w cs x) : R64 x.mode := by
  obtain ⟨v0, v1, rfl, r0, r1, g0, g1, g2⟩ := h
  exact g0
theorem ApiElemR.mode_r (h : ApiElemR F w b o x) : R64 x.mode := by
  obtain ⟨cs, hv, hc⟩ := h
  exact hv.mode_r
theorem ApiElemR.table (h : ApiElemR F w b o x) : w.cell? ⟨b, o + 1, none⟩ = some (.int .i64 x.table) := by
  obtain ⟨cs, hv, hc⟩ := h
  obtain ⟨v0, v1, rfl, r0, r1, g0, g1, g2⟩ := hv
  exact hc 1 (by omega)
theorem ApiElemV.table_r (h : ApiElemV F w cs x) : R64 x.table := by
  obtain ⟨v0, v1, rfl, r0, r1, g0, g1, g2⟩ := h
  exact g1
theorem ApiElemR.table_r (h : ApiElemR F w b o x) : R64 x.table := by
  obtain ⟨cs, hv, hc⟩ := h
  exact hv.table_r
theorem ApiElemR.offset (h : ApiElemR F w b o x) : ∃ v, w.cell? ⟨b, o + 2, none⟩ = some v ∧ BodyR F w v x.offset := by
  obtain ⟨cs, hv, hc⟩ := h
  obtain ⟨v0, v1, rfl, r0, r1, g0, g1, g2⟩ := hv
  exact ⟨_, hc 2 (by omega), r0⟩
theorem ApiElemR.type_ (h : ApiElemR F w b o x) : w.cell? ⟨b, o + 3, none⟩ = some (.int .i64 x.type_) := by
  obtain ⟨cs, hv, hc⟩ := h
  obtain ⟨v0, v1, rfl, r0, r1, g0, g1, g2⟩ := hv
  exact hc 3 (by omega)
theorem ApiElemV.type__r (h : ApiElemV F w cs x) : R64 x.type_ := by
  obtain ⟨v0, v1, rfl, r0, r1, g0, g1, g2⟩ := h
  exact g2
theorem ApiElemR.type__r (h : ApiElemR F w b o x) : R64 x.type_ := by
  obtain ⟨cs, hv, hc⟩ := h
  exact hv.type__r
theorem ApiElemR.items (h : ApiElemR F w b o x) : ∃ v, w.cell? ⟨b, o + 4, none⟩ = some v ∧ SlR 1 5864062014634 (RowAt BodyR) F w v x.items := by
  obtain ⟨cs, hv, hc⟩ := h
  obtain ⟨v0, v1, rfl, r0, r1, g0, g1, g2⟩ := hv
  exact ⟨_, hc 4 (by omega), r1⟩
set_option maxRecDepth 100000 in
theorem ApiElemV.of (h : Tr w 113 cs) (hcl : cs.length = 5) : ∃ x, ApiElemV (fun _ => True) w cs x := by
  obtain ⟨c0, c1, c2, c3, c4, rfl⟩ := len5_ hcl
  obtain ⟨-, hf⟩ := h.struct Tryd.underlying113
  obtain ⟨y0, e0, z0⟩ := (show Tr w _ [c0] from Tr.fld hf 0 0 1 rfl (by kernel_rfl)).int Tryd.underlying3
  cases e0
  obtain ⟨y1, e1, z1⟩ := (show Tr w _ [c1] from Tr.fld hf 1 1 1 rfl (by kernel_rfl)).int Tryd.underlying3
  cases e1
  obtain ⟨u2, y2, e2, z2⟩ := (show Tr w _ [c2] from Tr.fld hf 2 2 1 rfl (by kernel_rfl)).body
  cases e2
  obtain ⟨y3, e3, z3⟩ := (show Tr w _ [c3] from Tr.fld hf 3 3 1 rfl (by kernel_rfl)).int Tryd.underlying37
  cases e3
  obtain ⟨u4, y4, e4, z4⟩ := (show Tr w _ [c4] from Tr.fld hf 4 4 1 rfl (by kernel_rfl)).sl (s := 1) (bt := 24) (N := 5864062014634) (RowAt BodyR) Tryd.underlying111 (by kernel_rfl) (by kernel_rfl) (by omega) (fun n hn => by omega) (fun b o cs _ h2 h3 => by obtain ⟨v, xs, rfl, h⟩ := (h3).body; exact ⟨xs, v, h2 0 (by omega), h⟩)
  cases e4
  exact ⟨⟨y0, y1, y2, y3, y4⟩, ⟨_, _, rfl, z2, z4, R64_of z0, R64_of z1, R64_of z3⟩⟩
theorem ApiElemR.of (b o : Nat) (cs : List Value) (hcl : cs.length = 5) (hcc : ∀ j, j < 5 → w.cell? ⟨b, o + j, none⟩ = cs[j]?) (h : Tr w 113 cs) : ∃ x, ApiElemR (fun _ => True) w b o x := by
  obtain ⟨x, hx⟩ := ApiElemV.of h hcl
  exact ⟨x, cs, hx, hcc⟩
end
structure ApiData where
  mode : Int
  mem : Int
  offset : List Ins
  bytes : List Int
  deriving Inhabited
/-- the cells cs read x -/
def ApiDataV (F : Nat → Prop) (w : World) (cs : List Value) (x : ApiData) : Prop :=
  ∃ v0 v1 : Value, cs = [.int .i64 x.mode, .int .i64 x.mem, v0, v1] ∧ BodyR F w v0 x.offset ∧ SlR 1 140737488351232 (IntAt .u8) F w v1 x.bytes ∧ R64 x.mode ∧ R64 x.mem
/-- 4 cells of memory from o on read x -/
def ApiDataR : ElR ApiData := fun F w b o x => ∃ cs, ApiDataV F w cs x ∧ ∀ j, j < 4 → w.cell? ⟨b, o + j, none⟩ = cs[j]?
section
variable {F S H : Nat → Prop} {w w' : World} {b o : Nat} {cs : List Value} {x : ApiData}
theorem ApiDataV.len (h : ApiDataV F w cs x) : cs.length = 4 := by
  obtain ⟨v0, v1, rfl, r0, r1, g0, g1⟩ := h
  rfl
theorem ApiDataV.chg (h : ApiDataV F w cs x) (hc : Chg S w w') (hd : ∀ k, k < w.heap.size → F k → ¬ S k) : ApiDataV F w' cs x := by
  obtain ⟨v0, v1, rfl, r0, r1, g0, g1⟩ := h
  exact ⟨v0, v1, rfl, r0.chg hc hd, SlR.chg (IntAt.fr _) (IntAt.ce _) r1 hc hd, g0, g1⟩
theorem ApiDataV.mono (h : ApiDataV F w cs x) (hd : ∀ k, k < w.heap.size → F k → H k) : ApiDataV H w cs x := by
  obtain ⟨v0, v1, rfl, r0, r1, g0, g1⟩ := h
  exact ⟨v0, v1, rfl, r0.mono hd, SlR.mono (IntAt.mo _) (IntAt.ce _) r1 hd, g0, g1⟩
theorem ApiDataV.at (h : ApiDataV F w cs x) (hc : ∀ j, j < 4 → w.cell? ⟨b, o + j, none⟩ = cs[j]?) : ApiDataR F w b o x := ⟨cs, h, hc⟩
theorem ApiDataR.ce : Ce ApiDataR := fun {F w b o x} ⟨cs, h, hc⟩ => by
  have h0 := hc 0 (by omega)
  have hl := h.len
  rw [List.getElem?_eq_getElem (by omega)] at h0
  exact cell_lt h0
theorem ApiDataR.fr : Fr ApiDataR := fun {F S w w' b o x} ⟨cs, h, hcc⟩ hc hF hd => ⟨cs, h.chg hc hd, fun j hj => by
  have h0 := hcc j hj
  have hl := h.len
  rw [List.getElem?_eq_getElem (by omega)] at h0 ⊢
  exact hc.cell (hd _ (cell_lt h0) hF) h0⟩
theorem ApiDataR.mo : Mo ApiDataR := fun ⟨cs, h, hcc⟩ hd => ⟨cs, h.mono hd, hcc⟩
theorem ApiDataR.mode (h : ApiDataR F w b o x) : w.cell? ⟨b, o, none⟩ = some (.int .i64 x.mode) := by
  obtain ⟨cs, hv, hc⟩ := h
  obtain ⟨v0, v1, rfl, r0, r1, g0, g1⟩ := hv
  exact hc 0 (by omega)
theorem ApiDataV.mode_r (h : ApiDataV F w cs x) : R64 x.mode := by
  obtain ⟨v0, v1, rfl, r0, r1, g0, g1⟩ := h
  exact g0
theorem ApiDataR.mode_r (h : ApiDataR F w b o x) : R64 x.mode := by
  obtain ⟨cs, hv, hc⟩ := h
  exact hv.mode_r
theorem ApiDataR.mem (h : ApiDataR F w b o x) : w.cell? ⟨b, o + 1, none⟩ = some (.int .i64 x.mem) := by
  obtain ⟨cs, hv, hc⟩ := h
  obtain ⟨v0, v1, rfl, r0, r1, g0, g1⟩ := hv
  exact hc 1 (by omega)
theorem ApiDataV.mem_r (h : ApiDataV F w cs x) : R64 x.mem := by
  obtain ⟨v0, v1, rfl, r0, r1, g0, g1⟩ := h
  exact g1
theorem ApiDataR.mem_r (h : ApiDataR F w b o x) : R64 x.mem := by
  obtain ⟨cs, hv, hc⟩ := h
  exact hv.mem_r
theorem ApiDataR.offset (h : ApiDataR F w b o x) : ∃ v, w.cell? ⟨b, o + 2, none⟩ = some v ∧ BodyR F w v x.offset := by
  obtain ⟨cs, hv, hc⟩ := h
  obtain ⟨v0, v1, rfl, r0, r1, g0, g1⟩ := hv
  exact ⟨_, hc 2 (by omega), r0⟩
theorem ApiDataR.bytes (h : ApiDataR F w b o x) : ∃ v, w.cell? ⟨b, o + 3, none⟩ = some v ∧ SlR 1 140737488351232 (IntAt .u8) F w v x.bytes := by
  obtain ⟨cs, hv, hc⟩ := h
  obtain ⟨v0, v1, rfl, r0, r1, g0, g1⟩ := hv
  exact ⟨_, hc 3 (by omega), r1⟩
set_option maxRecDepth 100000 in
theorem ApiDataV.of (h : Tr w 213 cs) (hcl : cs.length = 4) : ∃ x, ApiDataV (fun _ => True) w cs x := by
  obtain ⟨c0, c1, c2, c3, rfl⟩ := len4_ hcl
  obtain ⟨-, hf⟩ := h.struct Tryd.underlying213
  obtain ⟨y0, e0, z0⟩ := (show Tr w _ [c0] from Tr.fld hf 0 0 1 rfl (by kernel_rfl)).int Tryd.underlying3
  cases e0
  obtain ⟨y1, e1, z1⟩ := (show Tr w _ [c1] from Tr.fld hf 1 1 1 rfl (by kernel_rfl)).int Tryd.underlying3
  cases e1
  obtain ⟨u2, y2, e2, z2⟩ := (show Tr w _ [c2] from Tr.fld hf 2 2 1 rfl (by kernel_rfl)).body
  cases e2
  obtain ⟨u3, y3, e3, z3⟩ := (show Tr w _ [c3] from Tr.fld hf 3 3 1 rfl (by kernel_rfl)).sl (s := 1) (bt := 1) (N := 140737488351232) (IntAt .u8) Tryd.underlying211 (by kernel_rfl) (by kernel_rfl) (by omega) (fun n hn => by omega) (fun b o cs _ h2 h3 => by obtain ⟨n, rfl, _⟩ := h3.int Tryd.underlying5; exact ⟨n, h2 0 (by omega)⟩)
  cases e3
  exact ⟨⟨y0, y1, y2, y3⟩, ⟨_, _, rfl, z2, z3, R64_of z0, R64_of z1⟩⟩
theorem ApiDataR.of (b o : Nat) (cs : List Value) (hcl : cs.length = 4) (hcc : ∀ j, j < 4 → w.cell? ⟨b, o + j, none⟩ = cs[j]?) (h : Tr w 213 cs) : ∃ x, ApiDataR (fun _ => True) w b o x := by
  obtain ⟨x, hx⟩ := ApiDataV.of h hcl
  exact ⟨x, cs, hx, hcc⟩
end
structure ApiCustom where
  after : Int
  name : ByteArray
  bytes : List Int
  deriving Inhabited
/-- the cells cs read x -/
def ApiCustomV (F : Nat → Prop) (w : World) (cs : List Value) (x : ApiCustom) : Prop :=
  ∃ v0 : Value, cs = [.int .i64 x.after, .string x.name, v0] ∧ SlR 1 140737488351232 (IntAt .u8) F w v0 x.bytes ∧ R64 x.after ∧ x.name.size ≤ 140737488351232
/-- 3 cells of memory from o on read x -/
def ApiCustomR : ElR ApiCustom := fun F w b o x => ∃ cs, ApiCustomV F w cs x ∧ ∀ j, j < 3 → w.cell? ⟨b, o + j, none⟩ = cs[j]?
section
variable {F S H : Nat → Prop} {w w' : World} {b o : Nat} {cs : List Value} {x : ApiCustom}
theorem ApiCustomV.len (h : ApiCustomV F w cs x) : cs.length = 3 := by
  obtain ⟨v0, rfl, r0, g0, g1⟩ := h
  rfl
theorem ApiCustomV.chg (h : ApiCustomV F w cs x) (hc : Chg S w w') (hd : ∀ k, k < w.heap.size → F k → ¬ S k) : ApiCustomV F w' cs x := by
  obtain ⟨v0, rfl, r0, g0, g1⟩ := h
  exact ⟨v0, rfl, SlR.chg (IntAt.fr _) (IntAt.ce _) r0 hc hd, g0, g1⟩
theorem ApiCustomV.mono (h : ApiCustomV F w cs x) (hd : ∀ k, k < w.heap.size → F k → H k) : ApiCustomV H w cs x := by
  obtain ⟨v0, rfl, r0, g0, g1⟩ := h
  exact ⟨v0, rfl, SlR.mono (IntAt.mo _) (IntAt.ce _) r0 hd, g0, g1⟩
theorem ApiCustomV.at (h : ApiCustomV F w cs x) (hc : ∀ j, j < 3 → w.cell? ⟨b, o + j, none⟩ = cs[j]?) : ApiCustomR F w b o x := ⟨cs, h, hc⟩
theorem ApiCustomR.ce : Ce ApiCustomR := fun {F w b o x} ⟨cs, h, hc⟩ => by
  have h0 := hc 0 (by omega)
  have hl := h.len
  rw [List.getElem?_eq_getElem (by omega)] at h0
  exact cell_lt h0
theorem ApiCustomR.fr : Fr ApiCustomR := fun {F S w w' b o x} ⟨cs, h, hcc⟩ hc hF hd => ⟨cs, h.chg hc hd, fun j hj => by
  have h0 := hcc j hj
  have hl := h.len
  rw [List.getElem?_eq_getElem (by omega)] at h0 ⊢
  exact hc.cell (hd _ (cell_lt h0) hF) h0⟩
theorem ApiCustomR.mo : Mo ApiCustomR := fun ⟨cs, h, hcc⟩ hd => ⟨cs, h.mono hd, hcc⟩
theorem ApiCustomR.after (h : ApiCustomR F w b o x) : w.cell? ⟨b, o, none⟩ = some (.int .i64 x.after) := by
  obtain ⟨cs, hv, hc⟩ := h
  obtain ⟨v0, rfl, r0, g0, g1⟩ := hv
  exact hc 0 (by omega)
theorem ApiCustomV.after_r (h : ApiCustomV F w cs x) : R64 x.after := by
  obtain ⟨v0, rfl, r0, g0, g1⟩ := h
  exact g0
theorem ApiCustomR.after_r (h : ApiCustomR F w b o x) : R64 x.after := by
  obtain ⟨cs, hv, hc⟩ := h
  exact hv.after_r
theorem ApiCustomR.name (h : ApiCustomR F w b o x) : w.cell? ⟨b, o + 1, none⟩ = some (.string x.name) := by
  obtain ⟨cs, hv, hc⟩ := h
  obtain ⟨v0, rfl, r0, g0, g1⟩ := hv
  exact hc 1 (by omega)
theorem ApiCustomV.name_r (h : ApiCustomV F w cs x) : x.name.size ≤ 140737488351232 := by
  obtain ⟨v0, rfl, r0, g0, g1⟩ := h
  exact g1
theorem ApiCustomR.name_r (h : ApiCustomR F w b o x) : x.name.size ≤ 140737488351232 := by
  obtain ⟨cs, hv, hc⟩ := h
  exact hv.name_r
theorem ApiCustomR.bytes (h : ApiCustomR F w b o x) : ∃ v, w.cell? ⟨b, o + 2, none⟩ = some v ∧ SlR 1 140737488351232 (IntAt .u8) F w v x.bytes := by
  obtain ⟨cs, hv, hc⟩ := h
  obtain ⟨v0, rfl, r0, g0, g1⟩ := hv
  exact ⟨_, hc 2 (by omega), r0⟩
set_option maxRecDepth 100000 in
theorem ApiCustomV.of (h : Tr w 215 cs) (hcl : cs.length = 3) : ∃ x, ApiCustomV (fun _ => True) w cs x := by
  obtain ⟨c0, c1, c2, rfl⟩ := len3_ hcl
  obtain ⟨-, hf⟩ := h.struct Tryd.underlying215
  obtain ⟨y0, e0, z0⟩ := (show Tr w _ [c0] from Tr.fld hf 0 0 1 rfl (by kernel_rfl)).int Tryd.underlying3
  cases e0
  obtain ⟨y1, e1, z1⟩ := (show Tr w _ [c1] from Tr.fld hf 1 1 1 rfl (by kernel_rfl)).string Tryd.underlying9
  rw [reach_val] at z1
  cases e1
  obtain ⟨u2, y2, e2, z2⟩ := (show Tr w _ [c2] from Tr.fld hf 2 2 1 rfl (by kernel_rfl)).sl (s := 1) (bt := 1) (N := 140737488351232) (IntAt .u8) Tryd.underlying211 (by kernel_rfl) (by kernel_rfl) (by omega) (fun n hn => by omega) (fun b o cs _ h2 h3 => by obtain ⟨n, rfl, _⟩ := h3.int Tryd.underlying5; exact ⟨n, h2 0 (by omega)⟩)
  cases e2
  exact ⟨⟨y0, y1, y2⟩, ⟨_, rfl, z2, R64_of z0, z1⟩⟩
theorem ApiCustomR.of (b o : Nat) (cs : List Value) (hcl : cs.length = 3) (hcc : ∀ j, j < 3 → w.cell? ⟨b, o + j, none⟩ = cs[j]?) (h : Tr w 215 cs) : ∃ x, ApiCustomR (fun _ => True) w b o x := by
  obtain ⟨x, hx⟩ := ApiCustomV.of h hcl
  exact ⟨x, cs, hx, hcc⟩
end
structure ApiModule where
  types : List ApiFunc
  imports : List ApiImport
  funcs : List ApiCode
  tables : List ApiTable
  mems : List ApiLimits
  globals : List ApiGlobalDef
  exports : List ApiExport
  hasStart : Bool
  start : Int
  elems : List ApiElem
  datas : List ApiData
  customs : List ApiCustom
  deriving Inhabited
/-- the cells cs read x -/
def ApiModuleV (F : Nat → Prop) (w : World) (cs : List Value) (x : ApiModule) : Prop :=
  ∃ v0 v1 v2 v3 v4 v5 v6 v7 v8 v9 : Value, cs = [v0, v1, v2, v3, v4, v5, v6, .bool x.hasStart, .int .i64 x.start, v7, v8, v9] ∧ SlR 2 2932031007317 ApiFuncR F w v0 x.types ∧ SlR 13 1172812402926 ApiImportR F w v1 x.imports ∧ SlR 3 2513169434843 ApiCodeR F w v2 x.funcs ∧ SlR 4 4398046510976 ApiTableR F w v3 x.tables ∧ SlR 3 5864062014634 ApiLimitsR F w v4 x.mems ∧ SlR 3 3518437208780 ApiGlobalDefR F w v5 x.globals ∧ SlR 3 4398046510976 ApiExportR F w v6 x.exports ∧ SlR 5 1954687338211 ApiElemR F w v7 x.elems ∧ SlR 4 2199023255488 ApiDataR F w v8 x.datas ∧ SlR 3 2932031007317 ApiCustomR F w v9 x.customs ∧ R64 x.start
/-- 12 cells of memory from o on read x -/
def ApiModuleR : ElR ApiModule := fun F w b o x => ∃ cs, ApiModuleV F w cs x ∧ ∀ j, j < 12 → w.cell? ⟨b, o + j, none⟩ = cs[j]?
section
variable {F S H : Nat → Prop} {w w' : World} {b o : Nat} {cs : List Value} {x : ApiModule}
theorem ApiModuleV.len (h : ApiModuleV F w cs x) : cs.length = 12 := by
  obtain ⟨v0, v1, v2, v3, v4, v5, v6, v7, v8, v9, rfl, r0, r1, r2, r3, r4, r5, r6, r7, r8, r9, g0⟩ := h
  rfl
theorem ApiModuleV.chg (h : ApiModuleV F w cs x) (hc : Chg S w w') (hd : ∀ k, k < w.heap.size → F k → ¬ S k) : ApiModuleV F w' cs x := by
  obtain ⟨v0, v1, v2, v3, v4, v5, v6, v7, v8, v9, rfl, r0, r1, r2, r3, r4, r5, r6, r7, r8, r9, g0⟩ := h
  exact ⟨v0, v1, v2, v3, v4, v5, v6, v7, v8, v9, rfl, SlR.chg ApiFuncR.fr ApiFuncR.ce r0 hc hd, SlR.chg ApiImportR.fr ApiImportR.ce r1 hc hd, SlR.chg ApiCodeR.fr ApiCodeR.ce r2 hc hd, SlR.chg ApiTableR.fr ApiTableR.ce r3 hc hd, SlR.chg ApiLimitsR.fr ApiLimitsR.ce r4 hc hd, SlR.chg ApiGlobalDefR.fr ApiGlobalDefR.ce r5 hc hd, SlR.chg ApiExportR.fr ApiExportR.ce r6 hc hd, SlR.chg ApiElemR.fr ApiElemR.ce r7 hc hd, SlR.chg ApiDataR.fr ApiDataR.ce r8 hc hd, SlR.chg ApiCustomR.fr ApiCustomR.ce r9 hc hd, g0⟩
theorem ApiModuleV.mono (h : ApiModuleV F w cs x) (hd : ∀ k, k < w.heap.size → F k → H k) : ApiModuleV H w cs x := by
  obtain ⟨v0, v1, v2, v3, v4, v5, v6, v7, v8, v9, rfl, r0, r1, r2, r3, r4, r5, r6, r7, r8, r9, g0⟩ := h
  exact ⟨v0, v1, v2, v3, v4, v5, v6, v7, v8, v9, rfl, SlR.mono ApiFuncR.mo ApiFuncR.ce r0 hd, SlR.mono ApiImportR.mo ApiImportR.ce r1 hd, SlR.mono ApiCodeR.mo ApiCodeR.ce r2 hd, SlR.mono ApiTableR.mo ApiTableR.ce r3 hd, SlR.mono ApiLimitsR.mo ApiLimitsR.ce r4 hd, SlR.mono ApiGlobalDefR.mo ApiGlobalDefR.ce r5 hd, SlR.mono ApiExportR.mo ApiExportR.ce r6 hd, SlR.mono ApiElemR.mo ApiElemR.ce r7 hd, SlR.mono ApiDataR.mo ApiDataR.ce r8 hd, SlR.mono ApiCustomR.mo ApiCustomR.ce r9 hd, g0⟩
theorem ApiModuleV.at (h : ApiModuleV F w cs x) (hc : ∀ j, j < 12 → w.cell? ⟨b, o + j, none⟩ = cs[j]?) : ApiModuleR F w b o x := ⟨cs, h, hc⟩
theorem ApiModuleR.ce : Ce ApiModuleR := fun {F w b o x} ⟨cs, h, hc⟩ => by
  have h0 := hc 0 (by omega)
  have hl := h.len
  rw [List.getElem?_eq_getElem (by omega)] at h0
  exact cell_lt h0
theorem ApiModuleR.fr : Fr ApiModuleR := fun {F S w w' b o x} ⟨cs, h, hcc⟩ hc hF hd => ⟨cs, h.chg hc hd, fun j hj => by
  have h0 := hcc j hj
  have hl := h.len
  rw [List.getElem?_eq_getElem (by omega)] at h0 ⊢
  exact hc.cell (hd _ (cell_lt h0) hF) h0⟩
theorem ApiModuleR.mo : Mo ApiModuleR := fun ⟨cs, h, hcc⟩ hd => ⟨cs, h.mono hd, hcc⟩
theorem ApiModuleR.types (h : ApiModuleR F w b o x) : ∃ v, w.cell? ⟨b, o, none⟩ = some v ∧ SlR 2 2932031007317 ApiFuncR F w v x.types := by
  obtain ⟨cs, hv, hc⟩ := h
  obtain ⟨v0, v1, v2, v3, v4, v5, v6, v7, v8, v9, rfl, r0, r1, r2, r3, r4, r5, r6, r7, r8, r9, g0⟩ := hv
  exact ⟨_, hc 0 (by omega), r0⟩
theorem ApiModuleR.imports (h : ApiModuleR F w b o x) : ∃ v, w.cell? ⟨b, o + 1, none⟩ = some v ∧ SlR 13 1172812402926 ApiImportR F w v x.imports := by
  obtain ⟨cs, hv, hc⟩ := h
  obtain ⟨v0, v1, v2, v3, v4, v5, v6, v7, v8, v9, rfl, r0, r1, r2, r3, r4, r5, r6, r7, r8, r9, g0⟩ := hv
  exact ⟨_, hc 1 (by omega), r1⟩
theorem ApiModuleR.funcs (h : ApiModuleR F w b o x) : ∃ v, w.cell? ⟨b, o + 2, none⟩ = some v ∧ SlR 3 2513169434843 ApiCodeR F w v x.funcs := by
  obtain ⟨cs, hv, hc⟩ := h
  obtain ⟨v0, v1, v2, v3, v4, v5, v6, v7, v8, v9, rfl, r0, r1, r2, r3, r4, r5, r6, r7, r8, r9, g0⟩ := hv
  exact ⟨_, hc 2 (by omega), r2⟩
theorem ApiModuleR.tables (h : ApiModuleR F w b o x) : ∃ v, w.cell? ⟨b, o + 3, none⟩ = some v ∧ SlR 4 4398046510976 ApiTableR F w v x.tables := by
  obtain ⟨cs, hv, hc⟩ := h
  obtain ⟨v0, v1, v2, v3, v4, v5, v6, v7, v8, v9, rfl, r0, r1, r2, r3, r4, r5, r6, r7, r8, r9, g0⟩ := hv
  exact ⟨_, hc 3 (by omega), r3⟩
theorem ApiModuleR.mems (h : ApiModuleR F w b o x) : ∃ v, w.cell? ⟨b, o + 4, none⟩ = some v ∧ SlR 3 5864062014634 ApiLimitsR F w v x.mems := by
  obtain ⟨cs, hv, hc⟩ := h
  obtain ⟨v0, v1, v2, v3, v4, v5, v6, v7, v8, v9, rfl, r0, r1, r2, r3, r4, r5, r6, r7, r8, r9, g0⟩ := hv
  exact ⟨_, hc 4 (by omega), r4⟩
theorem ApiModuleR.globals (h : ApiModuleR F w b o x) : ∃ v, w.cell? ⟨b, o + 5, none⟩ = some v ∧ SlR 3 3518437208780 ApiGlobalDefR F w v x.globals := by
  obtain ⟨cs, hv, hc⟩ := h
  obtain ⟨v0, v1, v2, v3, v4, v5, v6, v7, v8, v9, rfl, r0, r1, r2, r3, r4, r5, r6, r7, r8, r9, g0⟩ := hv
  exact ⟨_, hc 5 (by omega), r5⟩
theorem ApiModuleR.exports (h : ApiModuleR F w b o x) : ∃ v, w.cell? ⟨b, o + 6, none⟩ = some v ∧ SlR 3 4398046510976 ApiExportR F w v x.exports := by
  obtain ⟨cs, hv, hc⟩ := h
  obtain ⟨v0, v1, v2, v3, v4, v5, v6, v7, v8, v9, rfl, r0, r1, r2, r3, r4, r5, r6, r7, r8, r9, g0⟩ := hv
  exact ⟨_, hc 6 (by omega), r6⟩
theorem ApiModuleR.hasStart (h : ApiModuleR F w b o x) : w.cell? ⟨b, o + 7, none⟩ = some (.bool x.hasStart) := by
  obtain ⟨cs, hv, hc⟩ := h
  obtain ⟨v0, v1, v2, v3, v4, v5, v6, v7, v8, v9, rfl, r0, r1, r2, r3, r4, r5, r6, r7, r8, r9, g0⟩ := hv
  exact hc 7 (by omega)
theorem ApiModuleR.start (h : ApiModuleR F w b o x) : w.cell? ⟨b, o + 8, none⟩ = some (.int .i64 x.start) := by
  obtain ⟨cs, hv, hc⟩ := h
  obtain ⟨v0, v1, v2, v3, v4, v5, v6, v7, v8, v9, rfl, r0, r1, r2, r3, r4, r5, r6, r7, r8, r9, g0⟩ := hv
  exact hc 8 (by omega)
theorem ApiModuleV.start_r (h : ApiModuleV F w cs x) : R64 x.start := by
  obtain ⟨v0, v1, v2, v3, v4, v5, v6, v7, v8, v9, rfl, r0, r1, r2, r3, r4, r5, r6, r7, r8, r9, g0⟩ := h
  exact g0
theorem ApiModuleR.start_r (h : ApiModuleR F w b o x) : R64 x.start := by
  obtain ⟨cs, hv, hc⟩ := h
  exact hv.start_r
theorem ApiModuleR.elems (h : ApiModuleR F w b o x) : ∃ v, w.cell? ⟨b, o + 9, none⟩ = some v ∧ SlR 5 1954687338211 ApiElemR F w v x.elems := by
  obtain ⟨cs, hv, hc⟩ := h
  obtain ⟨v0, v1, v2, v3, v4, v5, v6, v7, v8, v9, rfl, r0, r1, r2, r3, r4, r5, r6, r7, r8, r9, g0⟩ := hv
  exact ⟨_, hc 9 (by omega), r7⟩
theorem ApiModuleR.datas (h : ApiModuleR F w b o x) : ∃ v, w.cell? ⟨b, o + 10, none⟩ = some v ∧ SlR 4 2199023255488 ApiDataR F w v x.datas := by
  obtain ⟨cs, hv, hc⟩ := h
  obtain ⟨v0, v1, v2, v3, v4, v5, v6, v7, v8, v9, rfl, r0, r1, r2, r3, r4, r5, r6, r7, r8, r9, g0⟩ := hv
  exact ⟨_, hc 10 (by omega), r8⟩
theorem ApiModuleR.customs (h : ApiModuleR F w b o x) : ∃ v, w.cell? ⟨b, o + 11, none⟩ = some v ∧ SlR 3 2932031007317 ApiCustomR F w v x.customs := by
  obtain ⟨cs, hv, hc⟩ := h
  obtain ⟨v0, v1, v2, v3, v4, v5, v6, v7, v8, v9, rfl, r0, r1, r2, r3, r4, r5, r6, r7, r8, r9, g0⟩ := hv
  exact ⟨_, hc 11 (by omega), r9⟩
set_option maxRecDepth 100000 in
theorem ApiModuleV.of (h : Tr w 35 cs) (hcl : cs.length = 12) : ∃ x, ApiModuleV (fun _ => True) w cs x := by
  obtain ⟨c0, c1, c2, c3, c4, c5, c6, c7, c8, c9, c10, c11, rfl⟩ := len12_ hcl
  obtain ⟨-, hf⟩ := h.struct Tryd.underlying35
  obtain ⟨u0, y0, e0, z0⟩ := (show Tr w _ [c0] from Tr.fld hf 0 0 1 rfl (by kernel_rfl)).sl (s := 2) (bt := 48) (N := 2932031007317) ApiFuncR Tryd.underlying24 (by kernel_rfl) (by kernel_rfl) (by omega) (fun n hn => by omega) ApiFuncR.of
  cases e0
  obtain ⟨u1, y1, e1, z1⟩ := (show Tr w _ [c1] from Tr.fld hf 1 1 1 rfl (by kernel_rfl)).sl (s := 13) (bt := 120) (N := 1172812402926) ApiImportR Tryd.underlying25 (by kernel_rfl) (by kernel_rfl) (by omega) (fun n hn => by omega) ApiImportR.of
  cases e1
  obtain ⟨u2, y2, e2, z2⟩ := (show Tr w _ [c2] from Tr.fld hf 2 2 1 rfl (by kernel_rfl)).sl (s := 3) (bt := 56) (N := 2513169434843) ApiCodeR Tryd.underlying26 (by kernel_rfl) (by kernel_rfl) (by omega) (fun n hn => by omega) ApiCodeR.of
  cases e2
  obtain ⟨u3, y3, e3, z3⟩ := (show Tr w _ [c3] from Tr.fld hf 3 3 1 rfl (by kernel_rfl)).sl (s := 4) (bt := 32) (N := 4398046510976) ApiTableR Tryd.underlying27 (by kernel_rfl) (by kernel_rfl) (by omega) (fun n hn => by omega) ApiTableR.of
  cases e3
  obtain ⟨u4, y4, e4, z4⟩ := (show Tr w _ [c4] from Tr.fld hf 4 4 1 rfl (by kernel_rfl)).sl (s := 3) (bt := 24) (N := 5864062014634) ApiLimitsR Tryd.underlying28 (by kernel_rfl) (by kernel_rfl) (by omega) (fun n hn => by omega) ApiLimitsR.of
  cases e4
  obtain ⟨u5, y5, e5, z5⟩ := (show Tr w _ [c5] from Tr.fld hf 5 5 1 rfl (by kernel_rfl)).sl (s := 3) (bt := 40) (N := 3518437208780) ApiGlobalDefR Tryd.underlying29 (by kernel_rfl) (by kernel_rfl) (by omega) (fun n hn => by omega) ApiGlobalDefR.of
  cases e5
  obtain ⟨u6, y6, e6, z6⟩ := (show Tr w _ [c6] from Tr.fld hf 6 6 1 rfl (by kernel_rfl)).sl (s := 3) (bt := 32) (N := 4398046510976) ApiExportR Tryd.underlying30 (by kernel_rfl) (by kernel_rfl) (by omega) (fun n hn => by omega) ApiExportR.of
  cases e6
  obtain ⟨y7, e7⟩ := (show Tr w _ [c7] from Tr.fld hf 7 7 1 rfl (by kernel_rfl)).bool Tryd.underlying4
  cases e7
  obtain ⟨y8, e8, z8⟩ := (show Tr w _ [c8] from Tr.fld hf 8 8 1 rfl (by kernel_rfl)).int Tryd.underlying3
  cases e8
  obtain ⟨u9, y9, e9, z9⟩ := (show Tr w _ [c9] from Tr.fld hf 9 9 1 rfl (by kernel_rfl)).sl (s := 5) (bt := 72) (N := 1954687338211) ApiElemR Tryd.underlying31 (by kernel_rfl) (by kernel_rfl) (by omega) (fun n hn => by omega) ApiElemR.of
  cases e9
  obtain ⟨u10, y10, e10, z10⟩ := (show Tr w _ [c10] from Tr.fld hf 10 10 1 rfl (by kernel_rfl)).sl (s := 4) (bt := 64) (N := 2199023255488) ApiDataR Tryd.underlying32 (by kernel_rfl) (by kernel_rfl) (by omega) (fun n hn => by omega) ApiDataR.of
  cases e10
  obtain ⟨u11, y11, e11, z11⟩ := (show Tr w _ [c11] from Tr.fld hf 11 11 1 rfl (by kernel_rfl)).sl (s := 3) (bt := 48) (N := 2932031007317) ApiCustomR Tryd.underlying33 (by kernel_rfl) (by kernel_rfl) (by omega) (fun n hn => by omega) ApiCustomR.of
  cases e11
  exact ⟨⟨y0, y1, y2, y3, y4, y5, y6, y7, y8, y9, y10, y11⟩, ⟨_, _, _, _, _, _, _, _, _, _, rfl, z0, z1, z2, z3, z4, z5, z6, z9, z10, z11, R64_of z8⟩⟩
theorem ApiModuleR.of (b o : Nat) (cs : List Value) (hcl : cs.length = 12) (hcc : ∀ j, j < 12 → w.cell? ⟨b, o + j, none⟩ = cs[j]?) (h : Tr w 35 cs) : ∃ x, ApiModuleR (fun _ => True) w b o x := by
  obtain ⟨x, hx⟩ := ApiModuleV.of h hcl
  exact ⟨x, cs, hx, hcc⟩
end
structure ApiBlock where
  kind : Int
  val_ : Int
  index : Int
  deriving Inhabited
/-- the cells cs read x -/
def ApiBlockV (_F : Nat → Prop) (_w : World) (cs : List Value) (x : ApiBlock) : Prop :=
  cs = [.int .i64 x.kind, .int .i64 x.val_, .int .i64 x.index] ∧ R64 x.kind ∧ R64 x.val_ ∧ R64 x.index
/-- 3 cells of memory from o on read x -/
def ApiBlockR : ElR ApiBlock := fun F w b o x => ∃ cs, ApiBlockV F w cs x ∧ ∀ j, j < 3 → w.cell? ⟨b, o + j, none⟩ = cs[j]?
section
variable {F S H : Nat → Prop} {w w' : World} {b o : Nat} {cs : List Value} {x : ApiBlock}
theorem ApiBlockV.len (h : ApiBlockV F w cs x) : cs.length = 3 := by
  obtain ⟨rfl, g0, g1, g2⟩ := h
  rfl
theorem ApiBlockV.chg (h : ApiBlockV F w cs x) (_hc : Chg S w w') (_hd : ∀ k, k < w.heap.size → F k → ¬ S k) : ApiBlockV F w' cs x := by
  obtain ⟨rfl, g0, g1, g2⟩ := h
  exact ⟨rfl, g0, g1, g2⟩
theorem ApiBlockV.mono (h : ApiBlockV F w cs x) (_hd : ∀ k, k < w.heap.size → F k → H k) : ApiBlockV H w cs x := by
  obtain ⟨rfl, g0, g1, g2⟩ := h
  exact ⟨rfl, g0, g1, g2⟩
theorem ApiBlockV.at (h : ApiBlockV F w cs x) (hc : ∀ j, j < 3 → w.cell? ⟨b, o + j, none⟩ = cs[j]?) : ApiBlockR F w b o x := ⟨cs, h, hc⟩
theorem ApiBlockR.ce : Ce ApiBlockR := fun {F w b o x} ⟨cs, h, hc⟩ => by
  have h0 := hc 0 (by omega)
  have hl := h.len
  rw [List.getElem?_eq_getElem (by omega)] at h0
  exact cell_lt h0
theorem ApiBlockR.fr : Fr ApiBlockR := fun {F S w w' b o x} ⟨cs, h, hcc⟩ hc hF hd => ⟨cs, h.chg hc hd, fun j hj => by
  have h0 := hcc j hj
  have hl := h.len
  rw [List.getElem?_eq_getElem (by omega)] at h0 ⊢
  exact hc.cell (hd _ (cell_lt h0) hF) h0⟩
theorem ApiBlockR.mo : Mo ApiBlockR := fun ⟨cs, h, hcc⟩ hd => ⟨cs, h.mono hd, hcc⟩
theorem ApiBlockR.kind (h : ApiBlockR F w b o x) : w.cell? ⟨b, o, none⟩ = some (.int .i64 x.kind) := by
  obtain ⟨cs, hv, hc⟩ := h
  obtain ⟨rfl, g0, g1, g2⟩ := hv
  exact hc 0 (by omega)
theorem ApiBlockV.kind_r (h : ApiBlockV F w cs x) : R64 x.kind := by
  obtain ⟨rfl, g0, g1, g2⟩ := h
  exact g0
theorem ApiBlockR.kind_r (h : ApiBlockR F w b o x) : R64 x.kind := by
  obtain ⟨cs, hv, hc⟩ := h
  exact hv.kind_r
theorem ApiBlockR.val_ (h : ApiBlockR F w b o x) : w.cell? ⟨b, o + 1, none⟩ = some (.int .i64 x.val_) := by
  obtain ⟨cs, hv, hc⟩ := h
  obtain ⟨rfl, g0, g1, g2⟩ := hv
  exact hc 1 (by omega)
theorem ApiBlockV.val__r (h : ApiBlockV F w cs x) : R64 x.val_ := by
  obtain ⟨rfl, g0, g1, g2⟩ := h
  exact g1
theorem ApiBlockR.val__r (h : ApiBlockR F w b o x) : R64 x.val_ := by
  obtain ⟨cs, hv, hc⟩ := h
  exact hv.val__r
theorem ApiBlockR.index (h : ApiBlockR F w b o x) : w.cell? ⟨b, o + 2, none⟩ = some (.int .i64 x.index) := by
  obtain ⟨cs, hv, hc⟩ := h
  obtain ⟨rfl, g0, g1, g2⟩ := hv
  exact hc 2 (by omega)
theorem ApiBlockV.index_r (h : ApiBlockV F w cs x) : R64 x.index := by
  obtain ⟨rfl, g0, g1, g2⟩ := h
  exact g2
theorem ApiBlockR.index_r (h : ApiBlockR F w b o x) : R64 x.index := by
  obtain ⟨cs, hv, hc⟩ := h
  exact hv.index_r
set_option maxRecDepth 100000 in
theorem ApiBlockV.of (h : Tr w 49 cs) (hcl : cs.length = 3) : ∃ x, ApiBlockV (fun _ => True) w cs x := by
  obtain ⟨c0, c1, c2, rfl⟩ := len3_ hcl
  obtain ⟨-, hf⟩ := h.struct Tryd.underlying49
  obtain ⟨y0, e0, z0⟩ := (show Tr w _ [c0] from Tr.fld hf 0 0 1 rfl (by kernel_rfl)).int Tryd.underlying3
  cases e0
  obtain ⟨y1, e1, z1⟩ := (show Tr w _ [c1] from Tr.fld hf 1 1 1 rfl (by kernel_rfl)).int Tryd.underlying37
  cases e1
  obtain ⟨y2, e2, z2⟩ := (show Tr w _ [c2] from Tr.fld hf 2 2 1 rfl (by kernel_rfl)).int Tryd.underlying3
  cases e2
  exact ⟨⟨y0, y1, y2⟩, ⟨rfl, R64_of z0, R64_of z1, R64_of z2⟩⟩
theorem ApiBlockR.of (b o : Nat) (cs : List Value) (hcl : cs.length = 3) (hcc : ∀ j, j < 3 → w.cell? ⟨b, o + j, none⟩ = cs[j]?) (h : Tr w 49 cs) : ∃ x, ApiBlockR (fun _ => True) w b o x := by
  obtain ⟨x, hx⟩ := ApiBlockV.of h hcl
  exact ⟨x, cs, hx, hcc⟩
end
structure CensusCensus where
  funcs : Int
  instrs : Int
  blocks : Int
  loops : Int
  calls : Int
  loads : Int
  stores : Int
  consts : Int
  deriving Inhabited
/-- the cells cs read x -/
def CensusCensusV (_F : Nat → Prop) (_w : World) (cs : List Value) (x : CensusCensus) : Prop :=
  cs = [.int .i64 x.funcs, .int .i64 x.instrs, .int .i64 x.blocks, .int .i64 x.loops, .int .i64 x.calls, .int .i64 x.loads, .int .i64 x.stores, .int .i64 x.consts] ∧ R64 x.funcs ∧ R64 x.instrs ∧ R64 x.blocks ∧ R64 x.loops ∧ R64 x.calls ∧ R64 x.loads ∧ R64 x.stores ∧ R64 x.consts
/-- 8 cells of memory from o on read x -/
def CensusCensusR : ElR CensusCensus := fun F w b o x => ∃ cs, CensusCensusV F w cs x ∧ ∀ j, j < 8 → w.cell? ⟨b, o + j, none⟩ = cs[j]?
section
variable {F S H : Nat → Prop} {w w' : World} {b o : Nat} {cs : List Value} {x : CensusCensus}
theorem CensusCensusV.len (h : CensusCensusV F w cs x) : cs.length = 8 := by
  obtain ⟨rfl, g0, g1, g2, g3, g4, g5, g6, g7⟩ := h
  rfl
theorem CensusCensusV.chg (h : CensusCensusV F w cs x) (_hc : Chg S w w') (_hd : ∀ k, k < w.heap.size → F k → ¬ S k) : CensusCensusV F w' cs x := by
  obtain ⟨rfl, g0, g1, g2, g3, g4, g5, g6, g7⟩ := h
  exact ⟨rfl, g0, g1, g2, g3, g4, g5, g6, g7⟩
theorem CensusCensusV.mono (h : CensusCensusV F w cs x) (_hd : ∀ k, k < w.heap.size → F k → H k) : CensusCensusV H w cs x := by
  obtain ⟨rfl, g0, g1, g2, g3, g4, g5, g6, g7⟩ := h
  exact ⟨rfl, g0, g1, g2, g3, g4, g5, g6, g7⟩
theorem CensusCensusV.at (h : CensusCensusV F w cs x) (hc : ∀ j, j < 8 → w.cell? ⟨b, o + j, none⟩ = cs[j]?) : CensusCensusR F w b o x := ⟨cs, h, hc⟩
theorem CensusCensusR.ce : Ce CensusCensusR := fun {F w b o x} ⟨cs, h, hc⟩ => by
  have h0 := hc 0 (by omega)
  have hl := h.len
  rw [List.getElem?_eq_getElem (by omega)] at h0
  exact cell_lt h0
theorem CensusCensusR.fr : Fr CensusCensusR := fun {F S w w' b o x} ⟨cs, h, hcc⟩ hc hF hd => ⟨cs, h.chg hc hd, fun j hj => by
  have h0 := hcc j hj
  have hl := h.len
  rw [List.getElem?_eq_getElem (by omega)] at h0 ⊢
  exact hc.cell (hd _ (cell_lt h0) hF) h0⟩
theorem CensusCensusR.mo : Mo CensusCensusR := fun ⟨cs, h, hcc⟩ hd => ⟨cs, h.mono hd, hcc⟩
theorem CensusCensusR.funcs (h : CensusCensusR F w b o x) : w.cell? ⟨b, o, none⟩ = some (.int .i64 x.funcs) := by
  obtain ⟨cs, hv, hc⟩ := h
  obtain ⟨rfl, g0, g1, g2, g3, g4, g5, g6, g7⟩ := hv
  exact hc 0 (by omega)
theorem CensusCensusV.funcs_r (h : CensusCensusV F w cs x) : R64 x.funcs := by
  obtain ⟨rfl, g0, g1, g2, g3, g4, g5, g6, g7⟩ := h
  exact g0
theorem CensusCensusR.funcs_r (h : CensusCensusR F w b o x) : R64 x.funcs := by
  obtain ⟨cs, hv, hc⟩ := h
  exact hv.funcs_r
theorem CensusCensusR.instrs (h : CensusCensusR F w b o x) : w.cell? ⟨b, o + 1, none⟩ = some (.int .i64 x.instrs) := by
  obtain ⟨cs, hv, hc⟩ := h
  obtain ⟨rfl, g0, g1, g2, g3, g4, g5, g6, g7⟩ := hv
  exact hc 1 (by omega)
theorem CensusCensusV.instrs_r (h : CensusCensusV F w cs x) : R64 x.instrs := by
  obtain ⟨rfl, g0, g1, g2, g3, g4, g5, g6, g7⟩ := h
  exact g1
theorem CensusCensusR.instrs_r (h : CensusCensusR F w b o x) : R64 x.instrs := by
  obtain ⟨cs, hv, hc⟩ := h
  exact hv.instrs_r
theorem CensusCensusR.blocks (h : CensusCensusR F w b o x) : w.cell? ⟨b, o + 2, none⟩ = some (.int .i64 x.blocks) := by
  obtain ⟨cs, hv, hc⟩ := h
  obtain ⟨rfl, g0, g1, g2, g3, g4, g5, g6, g7⟩ := hv
  exact hc 2 (by omega)
theorem CensusCensusV.blocks_r (h : CensusCensusV F w cs x) : R64 x.blocks := by
  obtain ⟨rfl, g0, g1, g2, g3, g4, g5, g6, g7⟩ := h
  exact g2
theorem CensusCensusR.blocks_r (h : CensusCensusR F w b o x) : R64 x.blocks := by
  obtain ⟨cs, hv, hc⟩ := h
  exact hv.blocks_r
theorem CensusCensusR.loops (h : CensusCensusR F w b o x) : w.cell? ⟨b, o + 3, none⟩ = some (.int .i64 x.loops) := by
  obtain ⟨cs, hv, hc⟩ := h
  obtain ⟨rfl, g0, g1, g2, g3, g4, g5, g6, g7⟩ := hv
  exact hc 3 (by omega)
theorem CensusCensusV.loops_r (h : CensusCensusV F w cs x) : R64 x.loops := by
  obtain ⟨rfl, g0, g1, g2, g3, g4, g5, g6, g7⟩ := h
  exact g3
theorem CensusCensusR.loops_r (h : CensusCensusR F w b o x) : R64 x.loops := by
  obtain ⟨cs, hv, hc⟩ := h
  exact hv.loops_r
theorem CensusCensusR.calls (h : CensusCensusR F w b o x) : w.cell? ⟨b, o + 4, none⟩ = some (.int .i64 x.calls) := by
  obtain ⟨cs, hv, hc⟩ := h
  obtain ⟨rfl, g0, g1, g2, g3, g4, g5, g6, g7⟩ := hv
  exact hc 4 (by omega)
theorem CensusCensusV.calls_r (h : CensusCensusV F w cs x) : R64 x.calls := by
  obtain ⟨rfl, g0, g1, g2, g3, g4, g5, g6, g7⟩ := h
  exact g4
theorem CensusCensusR.calls_r (h : CensusCensusR F w b o x) : R64 x.calls := by
  obtain ⟨cs, hv, hc⟩ := h
  exact hv.calls_r
theorem CensusCensusR.loads (h : CensusCensusR F w b o x) : w.cell? ⟨b, o + 5, none⟩ = some (.int .i64 x.loads) := by
  obtain ⟨cs, hv, hc⟩ := h
  obtain ⟨rfl, g0, g1, g2, g3, g4, g5, g6, g7⟩ := hv
  exact hc 5 (by omega)
theorem CensusCensusV.loads_r (h : CensusCensusV F w cs x) : R64 x.loads := by
  obtain ⟨rfl, g0, g1, g2, g3, g4, g5, g6, g7⟩ := h
  exact g5
theorem CensusCensusR.loads_r (h : CensusCensusR F w b o x) : R64 x.loads := by
  obtain ⟨cs, hv, hc⟩ := h
  exact hv.loads_r
theorem CensusCensusR.stores (h : CensusCensusR F w b o x) : w.cell? ⟨b, o + 6, none⟩ = some (.int .i64 x.stores) := by
  obtain ⟨cs, hv, hc⟩ := h
  obtain ⟨rfl, g0, g1, g2, g3, g4, g5, g6, g7⟩ := hv
  exact hc 6 (by omega)
theorem CensusCensusV.stores_r (h : CensusCensusV F w cs x) : R64 x.stores := by
  obtain ⟨rfl, g0, g1, g2, g3, g4, g5, g6, g7⟩ := h
  exact g6
theorem CensusCensusR.stores_r (h : CensusCensusR F w b o x) : R64 x.stores := by
  obtain ⟨cs, hv, hc⟩ := h
  exact hv.stores_r
theorem CensusCensusR.consts (h : CensusCensusR F w b o x) : w.cell? ⟨b, o + 7, none⟩ = some (.int .i64 x.consts) := by
  obtain ⟨cs, hv, hc⟩ := h
  obtain ⟨rfl, g0, g1, g2, g3, g4, g5, g6, g7⟩ := hv
  exact hc 7 (by omega)
theorem CensusCensusV.consts_r (h : CensusCensusV F w cs x) : R64 x.consts := by
  obtain ⟨rfl, g0, g1, g2, g3, g4, g5, g6, g7⟩ := h
  exact g7
theorem CensusCensusR.consts_r (h : CensusCensusR F w b o x) : R64 x.consts := by
  obtain ⟨cs, hv, hc⟩ := h
  exact hv.consts_r
set_option maxRecDepth 100000 in
theorem CensusCensusV.of (h : Tr w 62 cs) (hcl : cs.length = 8) : ∃ x, CensusCensusV (fun _ => True) w cs x := by
  obtain ⟨c0, c1, c2, c3, c4, c5, c6, c7, rfl⟩ := len8_ hcl
  obtain ⟨-, hf⟩ := h.struct Tryd.underlying62
  obtain ⟨y0, e0, z0⟩ := (show Tr w _ [c0] from Tr.fld hf 0 0 1 rfl (by kernel_rfl)).int Tryd.underlying3
  cases e0
  obtain ⟨y1, e1, z1⟩ := (show Tr w _ [c1] from Tr.fld hf 1 1 1 rfl (by kernel_rfl)).int Tryd.underlying3
  cases e1
  obtain ⟨y2, e2, z2⟩ := (show Tr w _ [c2] from Tr.fld hf 2 2 1 rfl (by kernel_rfl)).int Tryd.underlying3
  cases e2
  obtain ⟨y3, e3, z3⟩ := (show Tr w _ [c3] from Tr.fld hf 3 3 1 rfl (by kernel_rfl)).int Tryd.underlying3
  cases e3
  obtain ⟨y4, e4, z4⟩ := (show Tr w _ [c4] from Tr.fld hf 4 4 1 rfl (by kernel_rfl)).int Tryd.underlying3
  cases e4
  obtain ⟨y5, e5, z5⟩ := (show Tr w _ [c5] from Tr.fld hf 5 5 1 rfl (by kernel_rfl)).int Tryd.underlying3
  cases e5
  obtain ⟨y6, e6, z6⟩ := (show Tr w _ [c6] from Tr.fld hf 6 6 1 rfl (by kernel_rfl)).int Tryd.underlying3
  cases e6
  obtain ⟨y7, e7, z7⟩ := (show Tr w _ [c7] from Tr.fld hf 7 7 1 rfl (by kernel_rfl)).int Tryd.underlying3
  cases e7
  exact ⟨⟨y0, y1, y2, y3, y4, y5, y6, y7⟩, ⟨rfl, R64_of z0, R64_of z1, R64_of z2, R64_of z3, R64_of z4, R64_of z5, R64_of z6, R64_of z7⟩⟩
theorem CensusCensusR.of (b o : Nat) (cs : List Value) (hcl : cs.length = 8) (hcc : ∀ j, j < 8 → w.cell? ⟨b, o + j, none⟩ = cs[j]?) (h : Tr w 62 cs) : ∃ x, CensusCensusR (fun _ => True) w b o x := by
  obtain ⟨x, hx⟩ := CensusCensusV.of h hcl
  exact ⟨x, cs, hx, hcc⟩
end
structure CensusWalk where
  calls : List (List Int)
  long : List Int
  open_ : List Bool
  ring : Bool
  deriving Inhabited
/-- the cells cs read x -/
def CensusWalkV (F : Nat → Prop) (w : World) (cs : List Value) (x : CensusWalk) : Prop :=
  ∃ v0 v1 v2 : Value, cs = [v0, v1, v2, .bool x.ring] ∧ SlR 1 5864062014634 (RowAt IntsR) F w v0 x.calls ∧ IntsR F w v1 x.long ∧ SlR 1 140737488351232 BoolAt F w v2 x.open_
/-- 4 cells of memory from o on read x -/
def CensusWalkR : ElR CensusWalk := fun F w b o x => ∃ cs, CensusWalkV F w cs x ∧ ∀ j, j < 4 → w.cell? ⟨b, o + j, none⟩ = cs[j]?
section
variable {F S H : Nat → Prop} {w w' : World} {b o : Nat} {cs : List Value} {x : CensusWalk}
theorem CensusWalkV.len (h : CensusWalkV F w cs x) : cs.length = 4 := by
  obtain ⟨v0, v1, v2, rfl, r0, r1, r2⟩ := h
  rfl
theorem CensusWalkV.chg (h : CensusWalkV F w cs x) (hc : Chg S w w') (hd : ∀ k, k < w.heap.size → F k → ¬ S k) : CensusWalkV F w' cs x := by
  obtain ⟨v0, v1, v2, rfl, r0, r1, r2⟩ := h
  exact ⟨v0, v1, v2, rfl, SlR.chg (RowAt.fr (fun h hc hd => h.chg hc hd)) RowAt.ce r0 hc hd, r1.chg hc hd, SlR.chg BoolAt.fr BoolAt.ce r2 hc hd⟩
theorem CensusWalkV.mono (h : CensusWalkV F w cs x) (hd : ∀ k, k < w.heap.size → F k → H k) : CensusWalkV H w cs x := by
  obtain ⟨v0, v1, v2, rfl, r0, r1, r2⟩ := h
  exact ⟨v0, v1, v2, rfl, SlR.mono (RowAt.mo (fun h hd => h.mono hd)) RowAt.ce r0 hd, r1.mono hd, SlR.mono BoolAt.mo BoolAt.ce r2 hd⟩
theorem CensusWalkV.at (h : CensusWalkV F w cs x) (hc : ∀ j, j < 4 → w.cell? ⟨b, o + j, none⟩ = cs[j]?) : CensusWalkR F w b o x := ⟨cs, h, hc⟩
theorem CensusWalkR.ce : Ce CensusWalkR := fun {F w b o x} ⟨cs, h, hc⟩ => by
  have h0 := hc 0 (by omega)
  have hl := h.len
  rw [List.getElem?_eq_getElem (by omega)] at h0
  exact cell_lt h0
theorem CensusWalkR.fr : Fr CensusWalkR := fun {F S w w' b o x} ⟨cs, h, hcc⟩ hc hF hd => ⟨cs, h.chg hc hd, fun j hj => by
  have h0 := hcc j hj
  have hl := h.len
  rw [List.getElem?_eq_getElem (by omega)] at h0 ⊢
  exact hc.cell (hd _ (cell_lt h0) hF) h0⟩
theorem CensusWalkR.mo : Mo CensusWalkR := fun ⟨cs, h, hcc⟩ hd => ⟨cs, h.mono hd, hcc⟩
theorem CensusWalkR.calls (h : CensusWalkR F w b o x) : ∃ v, w.cell? ⟨b, o, none⟩ = some v ∧ SlR 1 5864062014634 (RowAt IntsR) F w v x.calls := by
  obtain ⟨cs, hv, hc⟩ := h
  obtain ⟨v0, v1, v2, rfl, r0, r1, r2⟩ := hv
  exact ⟨_, hc 0 (by omega), r0⟩
theorem CensusWalkR.long (h : CensusWalkR F w b o x) : ∃ v, w.cell? ⟨b, o + 1, none⟩ = some v ∧ IntsR F w v x.long := by
  obtain ⟨cs, hv, hc⟩ := h
  obtain ⟨v0, v1, v2, rfl, r0, r1, r2⟩ := hv
  exact ⟨_, hc 1 (by omega), r1⟩
theorem CensusWalkR.open_ (h : CensusWalkR F w b o x) : ∃ v, w.cell? ⟨b, o + 2, none⟩ = some v ∧ SlR 1 140737488351232 BoolAt F w v x.open_ := by
  obtain ⟨cs, hv, hc⟩ := h
  obtain ⟨v0, v1, v2, rfl, r0, r1, r2⟩ := hv
  exact ⟨_, hc 2 (by omega), r2⟩
theorem CensusWalkR.ring (h : CensusWalkR F w b o x) : w.cell? ⟨b, o + 3, none⟩ = some (.bool x.ring) := by
  obtain ⟨cs, hv, hc⟩ := h
  obtain ⟨v0, v1, v2, rfl, r0, r1, r2⟩ := hv
  exact hc 3 (by omega)
set_option maxRecDepth 100000 in
theorem CensusWalkV.of (h : Tr w 69 cs) (hcl : cs.length = 4) : ∃ x, CensusWalkV (fun _ => True) w cs x := by
  obtain ⟨c0, c1, c2, c3, rfl⟩ := len4_ hcl
  obtain ⟨-, hf⟩ := h.struct Tryd.underlying69
  obtain ⟨u0, y0, e0, z0⟩ := (show Tr w _ [c0] from Tr.fld hf 0 0 1 rfl (by kernel_rfl)).sl (s := 1) (bt := 24) (N := 5864062014634) (RowAt IntsR) Tryd.underlying64 (by kernel_rfl) (by kernel_rfl) (by omega) (fun n hn => by omega) (fun b o cs _ h2 h3 => by obtain ⟨v, xs, rfl, h⟩ := (h3).ints Tryd.underlying51 Tryd.underlying3 (by kernel_rfl) (by kernel_rfl); exact ⟨xs, v, h2 0 (by omega), h⟩)
  cases e0
  obtain ⟨u1, y1, e1, z1⟩ := (show Tr w _ [c1] from Tr.fld hf 1 1 1 rfl (by kernel_rfl)).ints Tryd.underlying51 Tryd.underlying3 (by kernel_rfl) (by kernel_rfl)
  cases e1
  obtain ⟨u2, y2, e2, z2⟩ := (show Tr w _ [c2] from Tr.fld hf 2 2 1 rfl (by kernel_rfl)).sl (s := 1) (bt := 1) (N := 140737488351232) BoolAt Tryd.underlying67 (by kernel_rfl) (by kernel_rfl) (by omega) (fun n hn => by omega) (fun b o cs _ h2 h3 => by obtain ⟨n, rfl⟩ := h3.bool Tryd.underlying4; exact ⟨n, h2 0 (by omega)⟩)
  cases e2
  obtain ⟨y3, e3⟩ := (show Tr w _ [c3] from Tr.fld hf 3 3 1 rfl (by kernel_rfl)).bool Tryd.underlying4
  cases e3
  exact ⟨⟨y0, y1, y2, y3⟩, ⟨_, _, _, rfl, z0, z1, z2⟩⟩
theorem CensusWalkR.of (b o : Nat) (cs : List Value) (hcl : cs.length = 4) (hcc : ∀ j, j < 4 → w.cell? ⟨b, o + j, none⟩ = cs[j]?) (h : Tr w 69 cs) : ∃ x, CensusWalkR (fun _ => True) w b o x := by
  obtain ⟨x, hx⟩ := CensusWalkV.of h hcl
  exact ⟨x, cs, hx, hcc⟩
end
structure CfgGoer where
  body : List Ins
  elses : List Int
  ends : List Int
  heads : List Int
  deriving Inhabited
/-- the cells cs read x -/
def CfgGoerV (F : Nat → Prop) (w : World) (cs : List Value) (x : CfgGoer) : Prop :=
  ∃ v0 v1 v2 v3 : Value, cs = [v0, v1, v2, v3] ∧ BodyR F w v0 x.body ∧ IntsR F w v1 x.elses ∧ IntsR F w v2 x.ends ∧ IntsR F w v3 x.heads
/-- 4 cells of memory from o on read x -/
def CfgGoerR : ElR CfgGoer := fun F w b o x => ∃ cs, CfgGoerV F w cs x ∧ ∀ j, j < 4 → w.cell? ⟨b, o + j, none⟩ = cs[j]?
section
variable {F S H : Nat → Prop} {w w' : World} {b o : Nat} {cs : List Value} {x : CfgGoer}
theorem CfgGoerV.len (h : CfgGoerV F w cs x) : cs.length = 4 := by
  obtain ⟨v0, v1, v2, v3, rfl, r0, r1, r2, r3⟩ := h
  rfl
theorem CfgGoerV.chg (h : CfgGoerV F w cs x) (hc : Chg S w w') (hd : ∀ k, k < w.heap.size → F k → ¬ S k) : CfgGoerV F w' cs x := by
  obtain ⟨v0, v1, v2, v3, rfl, r0, r1, r2, r3⟩ := h
  exact ⟨v0, v1, v2, v3, rfl, r0.chg hc hd, r1.chg hc hd, r2.chg hc hd, r3.chg hc hd⟩
theorem CfgGoerV.mono (h : CfgGoerV F w cs x) (hd : ∀ k, k < w.heap.size → F k → H k) : CfgGoerV H w cs x := by
  obtain ⟨v0, v1, v2, v3, rfl, r0, r1, r2, r3⟩ := h
  exact ⟨v0, v1, v2, v3, rfl, r0.mono hd, r1.mono hd, r2.mono hd, r3.mono hd⟩
theorem CfgGoerV.at (h : CfgGoerV F w cs x) (hc : ∀ j, j < 4 → w.cell? ⟨b, o + j, none⟩ = cs[j]?) : CfgGoerR F w b o x := ⟨cs, h, hc⟩
theorem CfgGoerR.ce : Ce CfgGoerR := fun {F w b o x} ⟨cs, h, hc⟩ => by
  have h0 := hc 0 (by omega)
  have hl := h.len
  rw [List.getElem?_eq_getElem (by omega)] at h0
  exact cell_lt h0
theorem CfgGoerR.fr : Fr CfgGoerR := fun {F S w w' b o x} ⟨cs, h, hcc⟩ hc hF hd => ⟨cs, h.chg hc hd, fun j hj => by
  have h0 := hcc j hj
  have hl := h.len
  rw [List.getElem?_eq_getElem (by omega)] at h0 ⊢
  exact hc.cell (hd _ (cell_lt h0) hF) h0⟩
theorem CfgGoerR.mo : Mo CfgGoerR := fun ⟨cs, h, hcc⟩ hd => ⟨cs, h.mono hd, hcc⟩
theorem CfgGoerR.body (h : CfgGoerR F w b o x) : ∃ v, w.cell? ⟨b, o, none⟩ = some v ∧ BodyR F w v x.body := by
  obtain ⟨cs, hv, hc⟩ := h
  obtain ⟨v0, v1, v2, v3, rfl, r0, r1, r2, r3⟩ := hv
  exact ⟨_, hc 0 (by omega), r0⟩
theorem CfgGoerR.elses (h : CfgGoerR F w b o x) : ∃ v, w.cell? ⟨b, o + 1, none⟩ = some v ∧ IntsR F w v x.elses := by
  obtain ⟨cs, hv, hc⟩ := h
  obtain ⟨v0, v1, v2, v3, rfl, r0, r1, r2, r3⟩ := hv
  exact ⟨_, hc 1 (by omega), r1⟩
theorem CfgGoerR.ends (h : CfgGoerR F w b o x) : ∃ v, w.cell? ⟨b, o + 2, none⟩ = some v ∧ IntsR F w v x.ends := by
  obtain ⟨cs, hv, hc⟩ := h
  obtain ⟨v0, v1, v2, v3, rfl, r0, r1, r2, r3⟩ := hv
  exact ⟨_, hc 2 (by omega), r2⟩
theorem CfgGoerR.heads (h : CfgGoerR F w b o x) : ∃ v, w.cell? ⟨b, o + 3, none⟩ = some v ∧ IntsR F w v x.heads := by
  obtain ⟨cs, hv, hc⟩ := h
  obtain ⟨v0, v1, v2, v3, rfl, r0, r1, r2, r3⟩ := hv
  exact ⟨_, hc 3 (by omega), r3⟩
set_option maxRecDepth 100000 in
theorem CfgGoerV.of (h : Tr w 86 cs) (hcl : cs.length = 4) : ∃ x, CfgGoerV (fun _ => True) w cs x := by
  obtain ⟨c0, c1, c2, c3, rfl⟩ := len4_ hcl
  obtain ⟨-, hf⟩ := h.struct Tryd.underlying86
  obtain ⟨u0, y0, e0, z0⟩ := (show Tr w _ [c0] from Tr.fld hf 0 0 1 rfl (by kernel_rfl)).body
  cases e0
  obtain ⟨u1, y1, e1, z1⟩ := (show Tr w _ [c1] from Tr.fld hf 1 1 1 rfl (by kernel_rfl)).ints Tryd.underlying51 Tryd.underlying3 (by kernel_rfl) (by kernel_rfl)
  cases e1
  obtain ⟨u2, y2, e2, z2⟩ := (show Tr w _ [c2] from Tr.fld hf 2 2 1 rfl (by kernel_rfl)).ints Tryd.underlying51 Tryd.underlying3 (by kernel_rfl) (by kernel_rfl)
  cases e2
  obtain ⟨u3, y3, e3, z3⟩ := (show Tr w _ [c3] from Tr.fld hf 3 3 1 rfl (by kernel_rfl)).ints Tryd.underlying51 Tryd.underlying3 (by kernel_rfl) (by kernel_rfl)
  cases e3
  exact ⟨⟨y0, y1, y2, y3⟩, ⟨_, _, _, _, rfl, z0, z1, z2, z3⟩⟩
theorem CfgGoerR.of (b o : Nat) (cs : List Value) (hcl : cs.length = 4) (hcc : ∀ j, j < 4 → w.cell? ⟨b, o + j, none⟩ = cs[j]?) (h : Tr w 86 cs) : ∃ x, CfgGoerR (fun _ => True) w b o x := by
  obtain ⟨x, hx⟩ := CfgGoerV.of h hcl
  exact ⟨x, cs, hx, hcc⟩
end
structure NestShape where
  ends : List Int
  elses : List Int
  depths : List Int
  heads : List Int
  deriving Inhabited
/-- the cells cs read x -/
def NestShapeV (F : Nat → Prop) (w : World) (cs : List Value) (x : NestShape) : Prop :=
  ∃ v0 v1 v2 v3 : Value, cs = [v0, v1, v2, v3] ∧ IntsR F w v0 x.ends ∧ IntsR F w v1 x.elses ∧ IntsR F w v2 x.depths ∧ IntsR F w v3 x.heads
/-- 4 cells of memory from o on read x -/
def NestShapeR : ElR NestShape := fun F w b o x => ∃ cs, NestShapeV F w cs x ∧ ∀ j, j < 4 → w.cell? ⟨b, o + j, none⟩ = cs[j]?
section
variable {F S H : Nat → Prop} {w w' : World} {b o : Nat} {cs : List Value} {x : NestShape}
theorem NestShapeV.len (h : NestShapeV F w cs x) : cs.length = 4 := by
  obtain ⟨v0, v1, v2, v3, rfl, r0, r1, r2, r3⟩ := h
  rfl
theorem NestShapeV.chg (h : NestShapeV F w cs x) (hc : Chg S w w') (hd : ∀ k, k < w.heap.size → F k → ¬ S k) : NestShapeV F w' cs x := by
  obtain ⟨v0, v1, v2, v3, rfl, r0, r1, r2, r3⟩ := h
  exact ⟨v0, v1, v2, v3, rfl, r0.chg hc hd, r1.chg hc hd, r2.chg hc hd, r3.chg hc hd⟩
theorem NestShapeV.mono (h : NestShapeV F w cs x) (hd : ∀ k, k < w.heap.size → F k → H k) : NestShapeV H w cs x := by
  obtain ⟨v0, v1, v2, v3, rfl, r0, r1, r2, r3⟩ := h
  exact ⟨v0, v1, v2, v3, rfl, r0.mono hd, r1.mono hd, r2.mono hd, r3.mono hd⟩
theorem NestShapeV.at (h : NestShapeV F w cs x) (hc : ∀ j, j < 4 → w.cell? ⟨b, o + j, none⟩ = cs[j]?) : NestShapeR F w b o x := ⟨cs, h, hc⟩
theorem NestShapeR.ce : Ce NestShapeR := fun {F w b o x} ⟨cs, h, hc⟩ => by
  have h0 := hc 0 (by omega)
  have hl := h.len
  rw [List.getElem?_eq_getElem (by omega)] at h0
  exact cell_lt h0
theorem NestShapeR.fr : Fr NestShapeR := fun {F S w w' b o x} ⟨cs, h, hcc⟩ hc hF hd => ⟨cs, h.chg hc hd, fun j hj => by
  have h0 := hcc j hj
  have hl := h.len
  rw [List.getElem?_eq_getElem (by omega)] at h0 ⊢
  exact hc.cell (hd _ (cell_lt h0) hF) h0⟩
theorem NestShapeR.mo : Mo NestShapeR := fun ⟨cs, h, hcc⟩ hd => ⟨cs, h.mono hd, hcc⟩
theorem NestShapeR.ends (h : NestShapeR F w b o x) : ∃ v, w.cell? ⟨b, o, none⟩ = some v ∧ IntsR F w v x.ends := by
  obtain ⟨cs, hv, hc⟩ := h
  obtain ⟨v0, v1, v2, v3, rfl, r0, r1, r2, r3⟩ := hv
  exact ⟨_, hc 0 (by omega), r0⟩
theorem NestShapeR.elses (h : NestShapeR F w b o x) : ∃ v, w.cell? ⟨b, o + 1, none⟩ = some v ∧ IntsR F w v x.elses := by
  obtain ⟨cs, hv, hc⟩ := h
  obtain ⟨v0, v1, v2, v3, rfl, r0, r1, r2, r3⟩ := hv
  exact ⟨_, hc 1 (by omega), r1⟩
theorem NestShapeR.depths (h : NestShapeR F w b o x) : ∃ v, w.cell? ⟨b, o + 2, none⟩ = some v ∧ IntsR F w v x.depths := by
  obtain ⟨cs, hv, hc⟩ := h
  obtain ⟨v0, v1, v2, v3, rfl, r0, r1, r2, r3⟩ := hv
  exact ⟨_, hc 2 (by omega), r2⟩
theorem NestShapeR.heads (h : NestShapeR F w b o x) : ∃ v, w.cell? ⟨b, o + 3, none⟩ = some v ∧ IntsR F w v x.heads := by
  obtain ⟨cs, hv, hc⟩ := h
  obtain ⟨v0, v1, v2, v3, rfl, r0, r1, r2, r3⟩ := hv
  exact ⟨_, hc 3 (by omega), r3⟩
set_option maxRecDepth 100000 in
theorem NestShapeV.of (h : Tr w 123 cs) (hcl : cs.length = 4) : ∃ x, NestShapeV (fun _ => True) w cs x := by
  obtain ⟨c0, c1, c2, c3, rfl⟩ := len4_ hcl
  obtain ⟨-, hf⟩ := h.struct Tryd.underlying123
  obtain ⟨u0, y0, e0, z0⟩ := (show Tr w _ [c0] from Tr.fld hf 0 0 1 rfl (by kernel_rfl)).ints Tryd.underlying51 Tryd.underlying3 (by kernel_rfl) (by kernel_rfl)
  cases e0
  obtain ⟨u1, y1, e1, z1⟩ := (show Tr w _ [c1] from Tr.fld hf 1 1 1 rfl (by kernel_rfl)).ints Tryd.underlying51 Tryd.underlying3 (by kernel_rfl) (by kernel_rfl)
  cases e1
  obtain ⟨u2, y2, e2, z2⟩ := (show Tr w _ [c2] from Tr.fld hf 2 2 1 rfl (by kernel_rfl)).ints Tryd.underlying51 Tryd.underlying3 (by kernel_rfl) (by kernel_rfl)
  cases e2
  obtain ⟨u3, y3, e3, z3⟩ := (show Tr w _ [c3] from Tr.fld hf 3 3 1 rfl (by kernel_rfl)).ints Tryd.underlying51 Tryd.underlying3 (by kernel_rfl) (by kernel_rfl)
  cases e3
  exact ⟨⟨y0, y1, y2, y3⟩, ⟨_, _, _, _, rfl, z0, z1, z2, z3⟩⟩
theorem NestShapeR.of (b o : Nat) (cs : List Value) (hcl : cs.length = 4) (hcc : ∀ j, j < 4 → w.cell? ⟨b, o + j, none⟩ = cs[j]?) (h : Tr w 123 cs) : ∃ x, NestShapeR (fun _ => True) w b o x := by
  obtain ⟨x, hx⟩ := NestShapeV.of h hcl
  exact ⟨x, cs, hx, hcc⟩
end
structure NestBlock where
  at_ : Int
  had : Bool
  deriving Inhabited
/-- the cells cs read x -/
def NestBlockV (_F : Nat → Prop) (_w : World) (cs : List Value) (x : NestBlock) : Prop :=
  cs = [.int .i64 x.at_, .bool x.had] ∧ R64 x.at_
/-- 2 cells of memory from o on read x -/
def NestBlockR : ElR NestBlock := fun F w b o x => ∃ cs, NestBlockV F w cs x ∧ ∀ j, j < 2 → w.cell? ⟨b, o + j, none⟩ = cs[j]?
section
variable {F S H : Nat → Prop} {w w' : World} {b o : Nat} {cs : List Value} {x : NestBlock}
theorem NestBlockV.len (h : NestBlockV F w cs x) : cs.length = 2 := by
  obtain ⟨rfl, g0⟩ := h
  rfl
theorem NestBlockV.chg (h : NestBlockV F w cs x) (_hc : Chg S w w') (_hd : ∀ k, k < w.heap.size → F k → ¬ S k) : NestBlockV F w' cs x := by
  obtain ⟨rfl, g0⟩ := h
  exact ⟨rfl, g0⟩
theorem NestBlockV.mono (h : NestBlockV F w cs x) (_hd : ∀ k, k < w.heap.size → F k → H k) : NestBlockV H w cs x := by
  obtain ⟨rfl, g0⟩ := h
  exact ⟨rfl, g0⟩
theorem NestBlockV.at (h : NestBlockV F w cs x) (hc : ∀ j, j < 2 → w.cell? ⟨b, o + j, none⟩ = cs[j]?) : NestBlockR F w b o x := ⟨cs, h, hc⟩
theorem NestBlockR.ce : Ce NestBlockR := fun {F w b o x} ⟨cs, h, hc⟩ => by
  have h0 := hc 0 (by omega)
  have hl := h.len
  rw [List.getElem?_eq_getElem (by omega)] at h0
  exact cell_lt h0
theorem NestBlockR.fr : Fr NestBlockR := fun {F S w w' b o x} ⟨cs, h, hcc⟩ hc hF hd => ⟨cs, h.chg hc hd, fun j hj => by
  have h0 := hcc j hj
  have hl := h.len
  rw [List.getElem?_eq_getElem (by omega)] at h0 ⊢
  exact hc.cell (hd _ (cell_lt h0) hF) h0⟩
theorem NestBlockR.mo : Mo NestBlockR := fun ⟨cs, h, hcc⟩ hd => ⟨cs, h.mono hd, hcc⟩
theorem NestBlockR.at_ (h : NestBlockR F w b o x) : w.cell? ⟨b, o, none⟩ = some (.int .i64 x.at_) := by
  obtain ⟨cs, hv, hc⟩ := h
  obtain ⟨rfl, g0⟩ := hv
  exact hc 0 (by omega)
theorem NestBlockV.at__r (h : NestBlockV F w cs x) : R64 x.at_ := by
  obtain ⟨rfl, g0⟩ := h
  exact g0
theorem NestBlockR.at__r (h : NestBlockR F w b o x) : R64 x.at_ := by
  obtain ⟨cs, hv, hc⟩ := h
  exact hv.at__r
theorem NestBlockR.had (h : NestBlockR F w b o x) : w.cell? ⟨b, o + 1, none⟩ = some (.bool x.had) := by
  obtain ⟨cs, hv, hc⟩ := h
  obtain ⟨rfl, g0⟩ := hv
  exact hc 1 (by omega)
set_option maxRecDepth 100000 in
theorem NestBlockV.of (h : Tr w 150 cs) (hcl : cs.length = 2) : ∃ x, NestBlockV (fun _ => True) w cs x := by
  obtain ⟨c0, c1, rfl⟩ := len2_ hcl
  obtain ⟨-, hf⟩ := h.struct Tryd.underlying150
  obtain ⟨y0, e0, z0⟩ := (show Tr w _ [c0] from Tr.fld hf 0 0 1 rfl (by kernel_rfl)).int Tryd.underlying3
  cases e0
  obtain ⟨y1, e1⟩ := (show Tr w _ [c1] from Tr.fld hf 1 1 1 rfl (by kernel_rfl)).bool Tryd.underlying4
  cases e1
  exact ⟨⟨y0, y1⟩, ⟨rfl, R64_of z0⟩⟩
theorem NestBlockR.of (b o : Nat) (cs : List Value) (hcl : cs.length = 2) (hcc : ∀ j, j < 2 → w.cell? ⟨b, o + j, none⟩ = cs[j]?) (h : Tr w 150 cs) : ∃ x, NestBlockR (fun _ => True) w b o x := by
  obtain ⟨x, hx⟩ := NestBlockV.of h hcl
  exact ⟨x, cs, hx, hcc⟩
end
structure OpcodeRow where
  first : Int
  head : ByteArray
  tails : ByteArray
  deriving Inhabited
/-- the cells cs read x -/
def OpcodeRowV (_F : Nat → Prop) (_w : World) (cs : List Value) (x : OpcodeRow) : Prop :=
  cs = [.int .i64 x.first, .string x.head, .string x.tails] ∧ R64 x.first ∧ x.head.size ≤ 140737488351232 ∧ x.tails.size ≤ 140737488351232
/-- 3 cells of memory from o on read x -/
def OpcodeRowR : ElR OpcodeRow := fun F w b o x => ∃ cs, OpcodeRowV F w cs x ∧ ∀ j, j < 3 → w.cell? ⟨b, o + j, none⟩ = cs[j]?
section
variable {F S H : Nat → Prop} {w w' : World} {b o : Nat} {cs : List Value} {x : OpcodeRow}
theorem OpcodeRowV.len (h : OpcodeRowV F w cs x) : cs.length = 3 := by
  obtain ⟨rfl, g0, g1, g2⟩ := h
  rfl
theorem OpcodeRowV.chg (h : OpcodeRowV F w cs x) (_hc : Chg S w w') (_hd : ∀ k, k < w.heap.size → F k → ¬ S k) : OpcodeRowV F w' cs x := by
  obtain ⟨rfl, g0, g1, g2⟩ := h
  exact ⟨rfl, g0, g1, g2⟩
theorem OpcodeRowV.mono (h : OpcodeRowV F w cs x) (_hd : ∀ k, k < w.heap.size → F k → H k) : OpcodeRowV H w cs x := by
  obtain ⟨rfl, g0, g1, g2⟩ := h
  exact ⟨rfl, g0, g1, g2⟩
theorem OpcodeRowV.at (h : OpcodeRowV F w cs x) (hc : ∀ j, j < 3 → w.cell? ⟨b, o + j, none⟩ = cs[j]?) : OpcodeRowR F w b o x := ⟨cs, h, hc⟩
theorem OpcodeRowR.ce : Ce OpcodeRowR := fun {F w b o x} ⟨cs, h, hc⟩ => by
  have h0 := hc 0 (by omega)
  have hl := h.len
  rw [List.getElem?_eq_getElem (by omega)] at h0
  exact cell_lt h0
theorem OpcodeRowR.fr : Fr OpcodeRowR := fun {F S w w' b o x} ⟨cs, h, hcc⟩ hc hF hd => ⟨cs, h.chg hc hd, fun j hj => by
  have h0 := hcc j hj
  have hl := h.len
  rw [List.getElem?_eq_getElem (by omega)] at h0 ⊢
  exact hc.cell (hd _ (cell_lt h0) hF) h0⟩
theorem OpcodeRowR.mo : Mo OpcodeRowR := fun ⟨cs, h, hcc⟩ hd => ⟨cs, h.mono hd, hcc⟩
theorem OpcodeRowR.first (h : OpcodeRowR F w b o x) : w.cell? ⟨b, o, none⟩ = some (.int .i64 x.first) := by
  obtain ⟨cs, hv, hc⟩ := h
  obtain ⟨rfl, g0, g1, g2⟩ := hv
  exact hc 0 (by omega)
theorem OpcodeRowV.first_r (h : OpcodeRowV F w cs x) : R64 x.first := by
  obtain ⟨rfl, g0, g1, g2⟩ := h
  exact g0
theorem OpcodeRowR.first_r (h : OpcodeRowR F w b o x) : R64 x.first := by
  obtain ⟨cs, hv, hc⟩ := h
  exact hv.first_r
theorem OpcodeRowR.head (h : OpcodeRowR F w b o x) : w.cell? ⟨b, o + 1, none⟩ = some (.string x.head) := by
  obtain ⟨cs, hv, hc⟩ := h
  obtain ⟨rfl, g0, g1, g2⟩ := hv
  exact hc 1 (by omega)
theorem OpcodeRowV.head_r (h : OpcodeRowV F w cs x) : x.head.size ≤ 140737488351232 := by
  obtain ⟨rfl, g0, g1, g2⟩ := h
  exact g1
theorem OpcodeRowR.head_r (h : OpcodeRowR F w b o x) : x.head.size ≤ 140737488351232 := by
  obtain ⟨cs, hv, hc⟩ := h
  exact hv.head_r
theorem OpcodeRowR.tails (h : OpcodeRowR F w b o x) : w.cell? ⟨b, o + 2, none⟩ = some (.string x.tails) := by
  obtain ⟨cs, hv, hc⟩ := h
  obtain ⟨rfl, g0, g1, g2⟩ := hv
  exact hc 2 (by omega)
theorem OpcodeRowV.tails_r (h : OpcodeRowV F w cs x) : x.tails.size ≤ 140737488351232 := by
  obtain ⟨rfl, g0, g1, g2⟩ := h
  exact g2
theorem OpcodeRowR.tails_r (h : OpcodeRowR F w b o x) : x.tails.size ≤ 140737488351232 := by
  obtain ⟨cs, hv, hc⟩ := h
  exact hv.tails_r
set_option maxRecDepth 100000 in
theorem OpcodeRowV.of (h : Tr w 168 cs) (hcl : cs.length = 3) : ∃ x, OpcodeRowV (fun _ => True) w cs x := by
  obtain ⟨c0, c1, c2, rfl⟩ := len3_ hcl
  obtain ⟨-, hf⟩ := h.struct Tryd.underlying168
  obtain ⟨y0, e0, z0⟩ := (show Tr w _ [c0] from Tr.fld hf 0 0 1 rfl (by kernel_rfl)).int Tryd.underlying46
  cases e0
  obtain ⟨y1, e1, z1⟩ := (show Tr w _ [c1] from Tr.fld hf 1 1 1 rfl (by kernel_rfl)).string Tryd.underlying9
  rw [reach_val] at z1
  cases e1
  obtain ⟨y2, e2, z2⟩ := (show Tr w _ [c2] from Tr.fld hf 2 2 1 rfl (by kernel_rfl)).string Tryd.underlying9
  rw [reach_val] at z2
  cases e2
  exact ⟨⟨y0, y1, y2⟩, ⟨rfl, R64_of z0, z1, z2⟩⟩
theorem OpcodeRowR.of (b o : Nat) (cs : List Value) (hcl : cs.length = 3) (hcc : ∀ j, j < 3 → w.cell? ⟨b, o + j, none⟩ = cs[j]?) (h : Tr w 168 cs) : ∃ x, OpcodeRowR (fun _ => True) w b o x := by
  obtain ⟨x, hx⟩ := OpcodeRowV.of h hcl
  exact ⟨x, cs, hx, hcc⟩
end
end Go.Proofs.YtmkgfccfnpmcjaaDoor
