/- Records for the program's structs of plain data, and how they read; printed by gen_ty.py off the seat's translation. -/
import Derived.Test.YtgbgnipidakdhaaGreatDoorJU
namespace Go.Proofs.YtgbgnipidakdhaaGreatDoor
open Go.RowKit
theorem R64_of {n : Int} (h : (Lit.int .i64 n).wf = true) : R64 n := wf_R64 h
theorem len2_ {cs : List Value} (h : cs.length = 2) : ∃ c0 c1, cs = [c0, c1] := by
  match cs, h with | [c0, c1], _ => exact ⟨c0, c1, rfl⟩
theorem len3_ {cs : List Value} (h : cs.length = 3) : ∃ c0 c1 c2, cs = [c0, c1, c2] := by
  match cs, h with | [c0, c1, c2], _ => exact ⟨c0, c1, c2, rfl⟩
theorem len4_ {cs : List Value} (h : cs.length = 4) : ∃ c0 c1 c2 c3, cs = [c0, c1, c2, c3] := by
  match cs, h with | [c0, c1, c2, c3], _ => exact ⟨c0, c1, c2, c3, rfl⟩
theorem len5_ {cs : List Value} (h : cs.length = 5) : ∃ c0 c1 c2 c3 c4, cs = [c0, c1, c2, c3, c4] := by
  match cs, h with | [c0, c1, c2, c3, c4], _ => exact ⟨c0, c1, c2, c3, c4, rfl⟩
theorem len7_ {cs : List Value} (h : cs.length = 7) : ∃ c0 c1 c2 c3 c4 c5 c6, cs = [c0, c1, c2, c3, c4, c5, c6] := by
  match cs, h with | [c0, c1, c2, c3, c4, c5, c6], _ => exact ⟨c0, c1, c2, c3, c4, c5, c6, rfl⟩
theorem len12_ {cs : List Value} (h : cs.length = 12) : ∃ c0 c1 c2 c3 c4 c5 c6 c7 c8 c9 c10 c11, cs = [c0, c1, c2, c3, c4, c5, c6, c7, c8, c9, c10, c11] := by
  match cs, h with | [c0, c1, c2, c3, c4, c5, c6, c7, c8, c9, c10, c11], _ => exact ⟨c0, c1, c2, c3, c4, c5, c6, c7, c8, c9, c10, c11, rfl⟩
theorem len13_ {cs : List Value} (h : cs.length = 13) : ∃ c0 c1 c2 c3 c4 c5 c6 c7 c8 c9 c10 c11 c12, cs = [c0, c1, c2, c3, c4, c5, c6, c7, c8, c9, c10, c11, c12] := by
  match cs, h with | [c0, c1, c2, c3, c4, c5, c6, c7, c8, c9, c10, c11, c12], _ => exact ⟨c0, c1, c2, c3, c4, c5, c6, c7, c8, c9, c10, c11, c12, rfl⟩
structure ApiFunc where
  params : List Int
  results : List Int
  deriving Inhabited
def ApiFuncV (F : Nat → Prop) (w : World) (cs : List Value) (x : ApiFunc) : Prop :=
  ∃ v0 v1 : Value, cs = [v0, v1] ∧ IntsR F w v0 x.params ∧ IntsR F w v1 x.results
def ApiFuncR : ElR ApiFunc := fun F w b o x => ∃ cs, ApiFuncV F w cs x ∧ ∀ j, j < 2 → w.cell? ⟨b, o + j, none⟩ = cs[j]?
section
variable {F S H : Nat → Prop} {w w' : World} {b o : Nat} {cs : List Value} {x : ApiFunc}
theorem ApiFuncV.len (h : ApiFuncV F w cs x) : cs.length = 2 := by
  obtain ⟨v0, v1, rfl, r0, r1⟩ := h
  rfl
theorem ApiFuncV.chg (h : ApiFuncV F w cs x) (hc : Chg S w w') (hd : ∀ k, k < w.heap.size → F k → ¬ S k) : ApiFuncV F w' cs x := by
  obtain ⟨v0, v1, rfl, r0, r1⟩ := h
  exact ⟨v0, v1, rfl, r0.chg hc hd, r1.chg hc hd⟩
theorem ApiFuncV.mono (h : ApiFuncV F w cs x) (hd : ∀ k, k < w.heap.size → F k → H k) : ApiFuncV H w cs x := by
  obtain ⟨v0, v1, rfl, r0, r1⟩ := h
  exact ⟨v0, v1, rfl, r0.mono hd, r1.mono hd⟩
theorem ApiFuncV.at (h : ApiFuncV F w cs x) (hc : ∀ j, j < 2 → w.cell? ⟨b, o + j, none⟩ = cs[j]?) : ApiFuncR F w b o x := ⟨cs, h, hc⟩
theorem ApiFuncR.ce : Ce ApiFuncR := fun {F w b o x} ⟨cs, h, hc⟩ => by
  have h0 := hc 0 (by omega)
  have hl := h.len
  rw [List.getElem?_eq_getElem (by omega)] at h0
  exact cell_lt h0
theorem ApiFuncR.fr : Fr ApiFuncR := fun {F S w w' b o x} ⟨cs, h, hcc⟩ hc hF hd => ⟨cs, h.chg hc hd, fun j hj => by
  have h0 := hcc j hj
  have hl := h.len
  rw [List.getElem?_eq_getElem (by omega)] at h0 ⊢
  exact hc.cell (hd _ (cell_lt h0) hF) h0⟩
theorem ApiFuncR.mo : Mo ApiFuncR := fun ⟨cs, h, hcc⟩ hd => ⟨cs, h.mono hd, hcc⟩
theorem ApiFuncR.params (h : ApiFuncR F w b o x) : ∃ v, w.cell? ⟨b, o, none⟩ = some v ∧ IntsR F w v x.params := by
  obtain ⟨cs, hv, hc⟩ := h
  obtain ⟨v0, v1, rfl, r0, r1⟩ := hv
  exact ⟨_, hc 0 (by omega), r0⟩
theorem ApiFuncR.results (h : ApiFuncR F w b o x) : ∃ v, w.cell? ⟨b, o + 1, none⟩ = some v ∧ IntsR F w v x.results := by
  obtain ⟨cs, hv, hc⟩ := h
  obtain ⟨v0, v1, rfl, r0, r1⟩ := hv
  exact ⟨_, hc 1 (by omega), r1⟩
set_option maxRecDepth 100000 in
theorem ApiFuncV.of (h : Tr w 47 cs) (hcl : cs.length = 2) : ∃ x, ApiFuncV (fun _ => True) w cs x := by
  obtain ⟨c0, c1, rfl⟩ := len2_ hcl
  obtain ⟨-, hf⟩ := h.struct Tryz.underlying47
  obtain ⟨u0, y0, e0, z0⟩ := (show Tr w _ [c0] from Tr.fld hf 0 0 1 rfl (by kernel_rfl)).ints Tryz.underlying34 Tryz.underlying37 (by kernel_rfl) (by kernel_rfl)
  cases e0
  obtain ⟨u1, y1, e1, z1⟩ := (show Tr w _ [c1] from Tr.fld hf 1 1 1 rfl (by kernel_rfl)).ints Tryz.underlying34 Tryz.underlying37 (by kernel_rfl) (by kernel_rfl)
  cases e1
  exact ⟨⟨y0, y1⟩, ⟨_, _, rfl, z0, z1⟩⟩
theorem ApiFuncR.of (b o : Nat) (cs : List Value) (hcl : cs.length = 2) (hcc : ∀ j, j < 2 → w.cell? ⟨b, o + j, none⟩ = cs[j]?) (h : Tr w 47 cs) : ∃ x, ApiFuncR (fun _ => True) w b o x := by
  obtain ⟨x, hx⟩ := ApiFuncV.of h hcl
  exact ⟨x, cs, hx, hcc⟩
end
structure ApiLimits where
  min : Int
  max : Int
  has : Bool
  deriving Inhabited
def ApiLimitsV (_F : Nat → Prop) (_w : World) (cs : List Value) (x : ApiLimits) : Prop :=
  cs = [.int .i64 x.min, .int .i64 x.max, .bool x.has] ∧ R64 x.min ∧ R64 x.max
def ApiLimitsR : ElR ApiLimits := fun F w b o x => ∃ cs, ApiLimitsV F w cs x ∧ ∀ j, j < 3 → w.cell? ⟨b, o + j, none⟩ = cs[j]?
section
variable {F S H : Nat → Prop} {w w' : World} {b o : Nat} {cs : List Value} {x : ApiLimits}
theorem ApiLimitsV.len (h : ApiLimitsV F w cs x) : cs.length = 3 := by
  obtain ⟨rfl, g0, g1⟩ := h
  rfl
theorem ApiLimitsV.chg (h : ApiLimitsV F w cs x) (_hc : Chg S w w') (_hd : ∀ k, k < w.heap.size → F k → ¬ S k) : ApiLimitsV F w' cs x := by
  obtain ⟨rfl, g0, g1⟩ := h
  exact ⟨rfl, g0, g1⟩
theorem ApiLimitsV.mono (h : ApiLimitsV F w cs x) (_hd : ∀ k, k < w.heap.size → F k → H k) : ApiLimitsV H w cs x := by
  obtain ⟨rfl, g0, g1⟩ := h
  exact ⟨rfl, g0, g1⟩
theorem ApiLimitsV.at (h : ApiLimitsV F w cs x) (hc : ∀ j, j < 3 → w.cell? ⟨b, o + j, none⟩ = cs[j]?) : ApiLimitsR F w b o x := ⟨cs, h, hc⟩
theorem ApiLimitsR.ce : Ce ApiLimitsR := fun {F w b o x} ⟨cs, h, hc⟩ => by
  have h0 := hc 0 (by omega)
  have hl := h.len
  rw [List.getElem?_eq_getElem (by omega)] at h0
  exact cell_lt h0
theorem ApiLimitsR.fr : Fr ApiLimitsR := fun {F S w w' b o x} ⟨cs, h, hcc⟩ hc hF hd => ⟨cs, h.chg hc hd, fun j hj => by
  have h0 := hcc j hj
  have hl := h.len
  rw [List.getElem?_eq_getElem (by omega)] at h0 ⊢
  exact hc.cell (hd _ (cell_lt h0) hF) h0⟩
theorem ApiLimitsR.mo : Mo ApiLimitsR := fun ⟨cs, h, hcc⟩ hd => ⟨cs, h.mono hd, hcc⟩
theorem ApiLimitsR.min (h : ApiLimitsR F w b o x) : w.cell? ⟨b, o, none⟩ = some (.int .i64 x.min) := by
  obtain ⟨cs, hv, hc⟩ := h
  obtain ⟨rfl, g0, g1⟩ := hv
  exact hc 0 (by omega)
theorem ApiLimitsR.max (h : ApiLimitsR F w b o x) : w.cell? ⟨b, o + 1, none⟩ = some (.int .i64 x.max) := by
  obtain ⟨cs, hv, hc⟩ := h
  obtain ⟨rfl, g0, g1⟩ := hv
  exact hc 1 (by omega)
theorem ApiLimitsR.has (h : ApiLimitsR F w b o x) : w.cell? ⟨b, o + 2, none⟩ = some (.bool x.has) := by
  obtain ⟨cs, hv, hc⟩ := h
  obtain ⟨rfl, g0, g1⟩ := hv
  exact hc 2 (by omega)
set_option maxRecDepth 100000 in
theorem ApiLimitsV.of (h : Tr w 100 cs) (hcl : cs.length = 3) : ∃ x, ApiLimitsV (fun _ => True) w cs x := by
  obtain ⟨c0, c1, c2, rfl⟩ := len3_ hcl
  obtain ⟨-, hf⟩ := h.struct Tryz.underlying100
  obtain ⟨y0, e0, z0⟩ := (show Tr w _ [c0] from Tr.fld hf 0 0 1 rfl (by kernel_rfl)).int Tryz.underlying3
  cases e0
  obtain ⟨y1, e1, z1⟩ := (show Tr w _ [c1] from Tr.fld hf 1 1 1 rfl (by kernel_rfl)).int Tryz.underlying3
  cases e1
  obtain ⟨y2, e2⟩ := (show Tr w _ [c2] from Tr.fld hf 2 2 1 rfl (by kernel_rfl)).bool Tryz.underlying4
  cases e2
  exact ⟨⟨y0, y1, y2⟩, ⟨rfl, R64_of z0, R64_of z1⟩⟩
theorem ApiLimitsR.of (b o : Nat) (cs : List Value) (hcl : cs.length = 3) (hcc : ∀ j, j < 3 → w.cell? ⟨b, o + j, none⟩ = cs[j]?) (h : Tr w 100 cs) : ∃ x, ApiLimitsR (fun _ => True) w b o x := by
  obtain ⟨x, hx⟩ := ApiLimitsV.of h hcl
  exact ⟨x, cs, hx, hcc⟩
end
structure ApiTable where
  elem : Int
  lim : ApiLimits
  deriving Inhabited
def ApiTableV (_F : Nat → Prop) (_w : World) (cs : List Value) (x : ApiTable) : Prop :=
  cs = [.int .i64 x.elem, .int .i64 x.lim.min, .int .i64 x.lim.max, .bool x.lim.has] ∧ R64 x.elem ∧ R64 x.lim.min ∧ R64 x.lim.max
def ApiTableR : ElR ApiTable := fun F w b o x => ∃ cs, ApiTableV F w cs x ∧ ∀ j, j < 4 → w.cell? ⟨b, o + j, none⟩ = cs[j]?
section
variable {F S H : Nat → Prop} {w w' : World} {b o : Nat} {cs : List Value} {x : ApiTable}
theorem ApiTableV.len (h : ApiTableV F w cs x) : cs.length = 4 := by
  obtain ⟨rfl, g0, g1, g2⟩ := h
  rfl
theorem ApiTableV.chg (h : ApiTableV F w cs x) (_hc : Chg S w w') (_hd : ∀ k, k < w.heap.size → F k → ¬ S k) : ApiTableV F w' cs x := by
  obtain ⟨rfl, g0, g1, g2⟩ := h
  exact ⟨rfl, g0, g1, g2⟩
theorem ApiTableV.mono (h : ApiTableV F w cs x) (_hd : ∀ k, k < w.heap.size → F k → H k) : ApiTableV H w cs x := by
  obtain ⟨rfl, g0, g1, g2⟩ := h
  exact ⟨rfl, g0, g1, g2⟩
theorem ApiTableV.at (h : ApiTableV F w cs x) (hc : ∀ j, j < 4 → w.cell? ⟨b, o + j, none⟩ = cs[j]?) : ApiTableR F w b o x := ⟨cs, h, hc⟩
theorem ApiTableR.ce : Ce ApiTableR := fun {F w b o x} ⟨cs, h, hc⟩ => by
  have h0 := hc 0 (by omega)
  have hl := h.len
  rw [List.getElem?_eq_getElem (by omega)] at h0
  exact cell_lt h0
theorem ApiTableR.fr : Fr ApiTableR := fun {F S w w' b o x} ⟨cs, h, hcc⟩ hc hF hd => ⟨cs, h.chg hc hd, fun j hj => by
  have h0 := hcc j hj
  have hl := h.len
  rw [List.getElem?_eq_getElem (by omega)] at h0 ⊢
  exact hc.cell (hd _ (cell_lt h0) hF) h0⟩
theorem ApiTableR.mo : Mo ApiTableR := fun ⟨cs, h, hcc⟩ hd => ⟨cs, h.mono hd, hcc⟩
theorem ApiTableR.elem (h : ApiTableR F w b o x) : w.cell? ⟨b, o, none⟩ = some (.int .i64 x.elem) := by
  obtain ⟨cs, hv, hc⟩ := h
  obtain ⟨rfl, g0, g1, g2⟩ := hv
  exact hc 0 (by omega)
theorem ApiTableR.lim (h : ApiTableR F w b o x) : ApiLimitsR F w b (o + 1) x.lim := by
  obtain ⟨cs, hv, hc⟩ := h
  obtain ⟨rfl, g0, g1, g2⟩ := hv
  refine ⟨_, ⟨rfl, g1, g2⟩, fun j hj => ?_⟩
  match j, hj with
  | 0, _ => exact hc 1 (by omega)
  | 1, _ => exact hc 2 (by omega)
  | 2, _ => exact hc 3 (by omega)
set_option maxRecDepth 100000 in
theorem ApiTableV.of (h : Tr w 102 cs) (hcl : cs.length = 4) : ∃ x, ApiTableV (fun _ => True) w cs x := by
  obtain ⟨c0, c1, c2, c3, rfl⟩ := len4_ hcl
  obtain ⟨-, hf⟩ := h.struct Tryz.underlying102
  obtain ⟨y0, e0, z0⟩ := (show Tr w _ [c0] from Tr.fld hf 0 0 1 rfl (by kernel_rfl)).int Tryz.underlying37
  cases e0
  obtain ⟨y1, q1⟩ := ApiLimitsV.of (show Tr w _ [c1, c2, c3] from Tr.fld hf 1 1 3 rfl (by kernel_rfl)) rfl
  obtain ⟨e1, k1_0, k1_1⟩ := q1
  cases e1
  exact ⟨⟨y0, y1⟩, ⟨rfl, R64_of z0, k1_0, k1_1⟩⟩
theorem ApiTableR.of (b o : Nat) (cs : List Value) (hcl : cs.length = 4) (hcc : ∀ j, j < 4 → w.cell? ⟨b, o + j, none⟩ = cs[j]?) (h : Tr w 102 cs) : ∃ x, ApiTableR (fun _ => True) w b o x := by
  obtain ⟨x, hx⟩ := ApiTableV.of h hcl
  exact ⟨x, cs, hx, hcc⟩
end
structure ApiGlobal where
  val_ : Int
  mut_ : Bool
  deriving Inhabited
def ApiGlobalV (_F : Nat → Prop) (_w : World) (cs : List Value) (x : ApiGlobal) : Prop :=
  cs = [.int .i64 x.val_, .bool x.mut_] ∧ R64 x.val_
def ApiGlobalR : ElR ApiGlobal := fun F w b o x => ∃ cs, ApiGlobalV F w cs x ∧ ∀ j, j < 2 → w.cell? ⟨b, o + j, none⟩ = cs[j]?
section
variable {F S H : Nat → Prop} {w w' : World} {b o : Nat} {cs : List Value} {x : ApiGlobal}
theorem ApiGlobalV.len (h : ApiGlobalV F w cs x) : cs.length = 2 := by
  obtain ⟨rfl, g0⟩ := h
  rfl
theorem ApiGlobalV.chg (h : ApiGlobalV F w cs x) (_hc : Chg S w w') (_hd : ∀ k, k < w.heap.size → F k → ¬ S k) : ApiGlobalV F w' cs x := by
  obtain ⟨rfl, g0⟩ := h
  exact ⟨rfl, g0⟩
theorem ApiGlobalV.mono (h : ApiGlobalV F w cs x) (_hd : ∀ k, k < w.heap.size → F k → H k) : ApiGlobalV H w cs x := by
  obtain ⟨rfl, g0⟩ := h
  exact ⟨rfl, g0⟩
theorem ApiGlobalV.at (h : ApiGlobalV F w cs x) (hc : ∀ j, j < 2 → w.cell? ⟨b, o + j, none⟩ = cs[j]?) : ApiGlobalR F w b o x := ⟨cs, h, hc⟩
theorem ApiGlobalR.ce : Ce ApiGlobalR := fun {F w b o x} ⟨cs, h, hc⟩ => by
  have h0 := hc 0 (by omega)
  have hl := h.len
  rw [List.getElem?_eq_getElem (by omega)] at h0
  exact cell_lt h0
theorem ApiGlobalR.fr : Fr ApiGlobalR := fun {F S w w' b o x} ⟨cs, h, hcc⟩ hc hF hd => ⟨cs, h.chg hc hd, fun j hj => by
  have h0 := hcc j hj
  have hl := h.len
  rw [List.getElem?_eq_getElem (by omega)] at h0 ⊢
  exact hc.cell (hd _ (cell_lt h0) hF) h0⟩
theorem ApiGlobalR.mo : Mo ApiGlobalR := fun ⟨cs, h, hcc⟩ hd => ⟨cs, h.mono hd, hcc⟩
theorem ApiGlobalR.val_ (h : ApiGlobalR F w b o x) : w.cell? ⟨b, o, none⟩ = some (.int .i64 x.val_) := by
  obtain ⟨cs, hv, hc⟩ := h
  obtain ⟨rfl, g0⟩ := hv
  exact hc 0 (by omega)
theorem ApiGlobalR.mut_ (h : ApiGlobalR F w b o x) : w.cell? ⟨b, o + 1, none⟩ = some (.bool x.mut_) := by
  obtain ⟨cs, hv, hc⟩ := h
  obtain ⟨rfl, g0⟩ := hv
  exact hc 1 (by omega)
set_option maxRecDepth 100000 in
theorem ApiGlobalV.of (h : Tr w 104 cs) (hcl : cs.length = 2) : ∃ x, ApiGlobalV (fun _ => True) w cs x := by
  obtain ⟨c0, c1, rfl⟩ := len2_ hcl
  obtain ⟨-, hf⟩ := h.struct Tryz.underlying104
  obtain ⟨y0, e0, z0⟩ := (show Tr w _ [c0] from Tr.fld hf 0 0 1 rfl (by kernel_rfl)).int Tryz.underlying37
  cases e0
  obtain ⟨y1, e1⟩ := (show Tr w _ [c1] from Tr.fld hf 1 1 1 rfl (by kernel_rfl)).bool Tryz.underlying4
  cases e1
  exact ⟨⟨y0, y1⟩, ⟨rfl, R64_of z0⟩⟩
theorem ApiGlobalR.of (b o : Nat) (cs : List Value) (hcl : cs.length = 2) (hcc : ∀ j, j < 2 → w.cell? ⟨b, o + j, none⟩ = cs[j]?) (h : Tr w 104 cs) : ∃ x, ApiGlobalR (fun _ => True) w b o x := by
  obtain ⟨x, hx⟩ := ApiGlobalV.of h hcl
  exact ⟨x, cs, hx, hcc⟩
end
structure ApiImport where
  module : ByteArray
  name : ByteArray
  kind : Int
  func : Int
  table : ApiTable
  mem : ApiLimits
  global_ : ApiGlobal
  deriving Inhabited
def ApiImportV (_F : Nat → Prop) (_w : World) (cs : List Value) (x : ApiImport) : Prop :=
  cs = [.string x.module, .string x.name, .int .i64 x.kind, .int .i64 x.func, .int .i64 x.table.elem, .int .i64 x.table.lim.min, .int .i64 x.table.lim.max, .bool x.table.lim.has, .int .i64 x.mem.min, .int .i64 x.mem.max, .bool x.mem.has, .int .i64 x.global_.val_, .bool x.global_.mut_] ∧ x.module.size ≤ 140737488351232 ∧ x.name.size ≤ 140737488351232 ∧ R64 x.kind ∧ R64 x.func ∧ R64 x.table.elem ∧ R64 x.table.lim.min ∧ R64 x.table.lim.max ∧ R64 x.mem.min ∧ R64 x.mem.max ∧ R64 x.global_.val_
def ApiImportR : ElR ApiImport := fun F w b o x => ∃ cs, ApiImportV F w cs x ∧ ∀ j, j < 13 → w.cell? ⟨b, o + j, none⟩ = cs[j]?
section
variable {F S H : Nat → Prop} {w w' : World} {b o : Nat} {cs : List Value} {x : ApiImport}
theorem ApiImportV.len (h : ApiImportV F w cs x) : cs.length = 13 := by
  obtain ⟨rfl, g0, g1, g2, g3, g4, g5, g6, g7, g8, g9⟩ := h
  rfl
theorem ApiImportV.chg (h : ApiImportV F w cs x) (_hc : Chg S w w') (_hd : ∀ k, k < w.heap.size → F k → ¬ S k) : ApiImportV F w' cs x := by
  obtain ⟨rfl, g0, g1, g2, g3, g4, g5, g6, g7, g8, g9⟩ := h
  exact ⟨rfl, g0, g1, g2, g3, g4, g5, g6, g7, g8, g9⟩
theorem ApiImportV.mono (h : ApiImportV F w cs x) (_hd : ∀ k, k < w.heap.size → F k → H k) : ApiImportV H w cs x := by
  obtain ⟨rfl, g0, g1, g2, g3, g4, g5, g6, g7, g8, g9⟩ := h
  exact ⟨rfl, g0, g1, g2, g3, g4, g5, g6, g7, g8, g9⟩
theorem ApiImportV.at (h : ApiImportV F w cs x) (hc : ∀ j, j < 13 → w.cell? ⟨b, o + j, none⟩ = cs[j]?) : ApiImportR F w b o x := ⟨cs, h, hc⟩
theorem ApiImportR.ce : Ce ApiImportR := fun {F w b o x} ⟨cs, h, hc⟩ => by
  have h0 := hc 0 (by omega)
  have hl := h.len
  rw [List.getElem?_eq_getElem (by omega)] at h0
  exact cell_lt h0
theorem ApiImportR.fr : Fr ApiImportR := fun {F S w w' b o x} ⟨cs, h, hcc⟩ hc hF hd => ⟨cs, h.chg hc hd, fun j hj => by
  have h0 := hcc j hj
  have hl := h.len
  rw [List.getElem?_eq_getElem (by omega)] at h0 ⊢
  exact hc.cell (hd _ (cell_lt h0) hF) h0⟩
theorem ApiImportR.mo : Mo ApiImportR := fun ⟨cs, h, hcc⟩ hd => ⟨cs, h.mono hd, hcc⟩
theorem ApiImportR.module (h : ApiImportR F w b o x) : w.cell? ⟨b, o, none⟩ = some (.string x.module) := by
  obtain ⟨cs, hv, hc⟩ := h
  obtain ⟨rfl, g0, g1, g2, g3, g4, g5, g6, g7, g8, g9⟩ := hv
  exact hc 0 (by omega)
theorem ApiImportR.name (h : ApiImportR F w b o x) : w.cell? ⟨b, o + 1, none⟩ = some (.string x.name) := by
  obtain ⟨cs, hv, hc⟩ := h
  obtain ⟨rfl, g0, g1, g2, g3, g4, g5, g6, g7, g8, g9⟩ := hv
  exact hc 1 (by omega)
theorem ApiImportR.kind (h : ApiImportR F w b o x) : w.cell? ⟨b, o + 2, none⟩ = some (.int .i64 x.kind) := by
  obtain ⟨cs, hv, hc⟩ := h
  obtain ⟨rfl, g0, g1, g2, g3, g4, g5, g6, g7, g8, g9⟩ := hv
  exact hc 2 (by omega)
theorem ApiImportV.kind_r (h : ApiImportV F w cs x) : R64 x.kind := by
  obtain ⟨rfl, g0, g1, g2, g3, g4, g5, g6, g7, g8, g9⟩ := h
  exact g2
theorem ApiImportR.kind_r (h : ApiImportR F w b o x) : R64 x.kind := by
  obtain ⟨cs, hv, hc⟩ := h
  exact hv.kind_r
theorem ApiImportR.func (h : ApiImportR F w b o x) : w.cell? ⟨b, o + 3, none⟩ = some (.int .i64 x.func) := by
  obtain ⟨cs, hv, hc⟩ := h
  obtain ⟨rfl, g0, g1, g2, g3, g4, g5, g6, g7, g8, g9⟩ := hv
  exact hc 3 (by omega)
theorem ApiImportR.table (h : ApiImportR F w b o x) : ApiTableR F w b (o + 4) x.table := by
  obtain ⟨cs, hv, hc⟩ := h
  obtain ⟨rfl, g0, g1, g2, g3, g4, g5, g6, g7, g8, g9⟩ := hv
  refine ⟨_, ⟨rfl, g4, g5, g6⟩, fun j hj => ?_⟩
  match j, hj with
  | 0, _ => exact hc 4 (by omega)
  | 1, _ => exact hc 5 (by omega)
  | 2, _ => exact hc 6 (by omega)
  | 3, _ => exact hc 7 (by omega)
theorem ApiImportR.mem (h : ApiImportR F w b o x) : ApiLimitsR F w b (o + 8) x.mem := by
  obtain ⟨cs, hv, hc⟩ := h
  obtain ⟨rfl, g0, g1, g2, g3, g4, g5, g6, g7, g8, g9⟩ := hv
  refine ⟨_, ⟨rfl, g7, g8⟩, fun j hj => ?_⟩
  match j, hj with
  | 0, _ => exact hc 8 (by omega)
  | 1, _ => exact hc 9 (by omega)
  | 2, _ => exact hc 10 (by omega)
theorem ApiImportR.global_ (h : ApiImportR F w b o x) : ApiGlobalR F w b (o + 11) x.global_ := by
  obtain ⟨cs, hv, hc⟩ := h
  obtain ⟨rfl, g0, g1, g2, g3, g4, g5, g6, g7, g8, g9⟩ := hv
  refine ⟨_, ⟨rfl, g9⟩, fun j hj => ?_⟩
  match j, hj with
  | 0, _ => exact hc 11 (by omega)
  | 1, _ => exact hc 12 (by omega)
set_option maxRecDepth 100000 in
theorem ApiImportV.of (h : Tr w 106 cs) (hcl : cs.length = 13) : ∃ x, ApiImportV (fun _ => True) w cs x := by
  obtain ⟨c0, c1, c2, c3, c4, c5, c6, c7, c8, c9, c10, c11, c12, rfl⟩ := len13_ hcl
  obtain ⟨-, hf⟩ := h.struct Tryz.underlying106
  obtain ⟨y0, e0, z0⟩ := (show Tr w _ [c0] from Tr.fld hf 0 0 1 rfl (by kernel_rfl)).string Tryz.underlying9
  rw [reach_val] at z0
  cases e0
  obtain ⟨y1, e1, z1⟩ := (show Tr w _ [c1] from Tr.fld hf 1 1 1 rfl (by kernel_rfl)).string Tryz.underlying9
  rw [reach_val] at z1
  cases e1
  obtain ⟨y2, e2, z2⟩ := (show Tr w _ [c2] from Tr.fld hf 2 2 1 rfl (by kernel_rfl)).int Tryz.underlying98
  cases e2
  obtain ⟨y3, e3, z3⟩ := (show Tr w _ [c3] from Tr.fld hf 3 3 1 rfl (by kernel_rfl)).int Tryz.underlying3
  cases e3
  obtain ⟨y4, q4⟩ := ApiTableV.of (show Tr w _ [c4, c5, c6, c7] from Tr.fld hf 4 4 4 rfl (by kernel_rfl)) rfl
  obtain ⟨e4, k4_0, k4_1, k4_2⟩ := q4
  cases e4
  obtain ⟨y5, q5⟩ := ApiLimitsV.of (show Tr w _ [c8, c9, c10] from Tr.fld hf 5 8 3 rfl (by kernel_rfl)) rfl
  obtain ⟨e5, k5_0, k5_1⟩ := q5
  cases e5
  obtain ⟨y6, q6⟩ := ApiGlobalV.of (show Tr w _ [c11, c12] from Tr.fld hf 6 11 2 rfl (by kernel_rfl)) rfl
  obtain ⟨e6, k6_0⟩ := q6
  cases e6
  exact ⟨⟨y0, y1, y2, y3, y4, y5, y6⟩, ⟨rfl, z0, z1, R64_of z2, R64_of z3, k4_0, k4_1, k4_2, k5_0, k5_1, k6_0⟩⟩
theorem ApiImportR.of (b o : Nat) (cs : List Value) (hcl : cs.length = 13) (hcc : ∀ j, j < 13 → w.cell? ⟨b, o + j, none⟩ = cs[j]?) (h : Tr w 106 cs) : ∃ x, ApiImportR (fun _ => True) w b o x := by
  obtain ⟨x, hx⟩ := ApiImportV.of h hcl
  exact ⟨x, cs, hx, hcc⟩
end
structure ApiCode where
  type_ : Int
  locals : List Int
  body : List Ins
  deriving Inhabited
def ApiCodeV (F : Nat → Prop) (w : World) (cs : List Value) (x : ApiCode) : Prop :=
  ∃ v0 v1 : Value, cs = [.int .i64 x.type_, v0, v1] ∧ IntsR F w v0 x.locals ∧ BodyR F w v1 x.body ∧ R64 x.type_
def ApiCodeR : ElR ApiCode := fun F w b o x => ∃ cs, ApiCodeV F w cs x ∧ ∀ j, j < 3 → w.cell? ⟨b, o + j, none⟩ = cs[j]?
section
variable {F S H : Nat → Prop} {w w' : World} {b o : Nat} {cs : List Value} {x : ApiCode}
theorem ApiCodeV.len (h : ApiCodeV F w cs x) : cs.length = 3 := by
  obtain ⟨v0, v1, rfl, r0, r1, g0⟩ := h
  rfl
theorem ApiCodeV.chg (h : ApiCodeV F w cs x) (hc : Chg S w w') (hd : ∀ k, k < w.heap.size → F k → ¬ S k) : ApiCodeV F w' cs x := by
  obtain ⟨v0, v1, rfl, r0, r1, g0⟩ := h
  exact ⟨v0, v1, rfl, r0.chg hc hd, r1.chg hc hd, g0⟩
theorem ApiCodeV.mono (h : ApiCodeV F w cs x) (hd : ∀ k, k < w.heap.size → F k → H k) : ApiCodeV H w cs x := by
  obtain ⟨v0, v1, rfl, r0, r1, g0⟩ := h
  exact ⟨v0, v1, rfl, r0.mono hd, r1.mono hd, g0⟩
theorem ApiCodeV.at (h : ApiCodeV F w cs x) (hc : ∀ j, j < 3 → w.cell? ⟨b, o + j, none⟩ = cs[j]?) : ApiCodeR F w b o x := ⟨cs, h, hc⟩
theorem ApiCodeR.ce : Ce ApiCodeR := fun {F w b o x} ⟨cs, h, hc⟩ => by
  have h0 := hc 0 (by omega)
  have hl := h.len
  rw [List.getElem?_eq_getElem (by omega)] at h0
  exact cell_lt h0
theorem ApiCodeR.fr : Fr ApiCodeR := fun {F S w w' b o x} ⟨cs, h, hcc⟩ hc hF hd => ⟨cs, h.chg hc hd, fun j hj => by
  have h0 := hcc j hj
  have hl := h.len
  rw [List.getElem?_eq_getElem (by omega)] at h0 ⊢
  exact hc.cell (hd _ (cell_lt h0) hF) h0⟩
theorem ApiCodeR.mo : Mo ApiCodeR := fun ⟨cs, h, hcc⟩ hd => ⟨cs, h.mono hd, hcc⟩
theorem ApiCodeR.type_ (h : ApiCodeR F w b o x) : w.cell? ⟨b, o, none⟩ = some (.int .i64 x.type_) := by
  obtain ⟨cs, hv, hc⟩ := h
  obtain ⟨v0, v1, rfl, r0, r1, g0⟩ := hv
  exact hc 0 (by omega)
theorem ApiCodeR.locals (h : ApiCodeR F w b o x) : ∃ v, w.cell? ⟨b, o + 1, none⟩ = some v ∧ IntsR F w v x.locals := by
  obtain ⟨cs, hv, hc⟩ := h
  obtain ⟨v0, v1, rfl, r0, r1, g0⟩ := hv
  exact ⟨_, hc 1 (by omega), r0⟩
theorem ApiCodeR.body (h : ApiCodeR F w b o x) : ∃ v, w.cell? ⟨b, o + 2, none⟩ = some v ∧ BodyR F w v x.body := by
  obtain ⟨cs, hv, hc⟩ := h
  obtain ⟨v0, v1, rfl, r0, r1, g0⟩ := hv
  exact ⟨_, hc 2 (by omega), r1⟩
set_option maxRecDepth 100000 in
theorem ApiCodeV.of (h : Tr w 109 cs) (hcl : cs.length = 3) : ∃ x, ApiCodeV (fun _ => True) w cs x := by
  obtain ⟨c0, c1, c2, rfl⟩ := len3_ hcl
  obtain ⟨-, hf⟩ := h.struct Tryz.underlying109
  obtain ⟨y0, e0, z0⟩ := (show Tr w _ [c0] from Tr.fld hf 0 0 1 rfl (by kernel_rfl)).int Tryz.underlying3
  cases e0
  obtain ⟨u1, y1, e1, z1⟩ := (show Tr w _ [c1] from Tr.fld hf 1 1 1 rfl (by kernel_rfl)).ints Tryz.underlying34 Tryz.underlying37 (by kernel_rfl) (by kernel_rfl)
  cases e1
  obtain ⟨u2, y2, e2, z2⟩ := (show Tr w _ [c2] from Tr.fld hf 2 2 1 rfl (by kernel_rfl)).body
  cases e2
  exact ⟨⟨y0, y1, y2⟩, ⟨_, _, rfl, z1, z2, R64_of z0⟩⟩
theorem ApiCodeR.of (b o : Nat) (cs : List Value) (hcl : cs.length = 3) (hcc : ∀ j, j < 3 → w.cell? ⟨b, o + j, none⟩ = cs[j]?) (h : Tr w 109 cs) : ∃ x, ApiCodeR (fun _ => True) w b o x := by
  obtain ⟨x, hx⟩ := ApiCodeV.of h hcl
  exact ⟨x, cs, hx, hcc⟩
end
structure ApiGlobalDef where
  type_ : ApiGlobal
  init_ : List Ins
  deriving Inhabited
def ApiGlobalDefV (F : Nat → Prop) (w : World) (cs : List Value) (x : ApiGlobalDef) : Prop :=
  ∃ v0 : Value, cs = [.int .i64 x.type_.val_, .bool x.type_.mut_, v0] ∧ BodyR F w v0 x.init_ ∧ R64 x.type_.val_
def ApiGlobalDefR : ElR ApiGlobalDef := fun F w b o x => ∃ cs, ApiGlobalDefV F w cs x ∧ ∀ j, j < 3 → w.cell? ⟨b, o + j, none⟩ = cs[j]?
section
variable {F S H : Nat → Prop} {w w' : World} {b o : Nat} {cs : List Value} {x : ApiGlobalDef}
theorem ApiGlobalDefV.len (h : ApiGlobalDefV F w cs x) : cs.length = 3 := by
  obtain ⟨v0, rfl, r0, g0⟩ := h
  rfl
theorem ApiGlobalDefV.chg (h : ApiGlobalDefV F w cs x) (hc : Chg S w w') (hd : ∀ k, k < w.heap.size → F k → ¬ S k) : ApiGlobalDefV F w' cs x := by
  obtain ⟨v0, rfl, r0, g0⟩ := h
  exact ⟨v0, rfl, r0.chg hc hd, g0⟩
theorem ApiGlobalDefV.mono (h : ApiGlobalDefV F w cs x) (hd : ∀ k, k < w.heap.size → F k → H k) : ApiGlobalDefV H w cs x := by
  obtain ⟨v0, rfl, r0, g0⟩ := h
  exact ⟨v0, rfl, r0.mono hd, g0⟩
theorem ApiGlobalDefV.at (h : ApiGlobalDefV F w cs x) (hc : ∀ j, j < 3 → w.cell? ⟨b, o + j, none⟩ = cs[j]?) : ApiGlobalDefR F w b o x := ⟨cs, h, hc⟩
theorem ApiGlobalDefR.ce : Ce ApiGlobalDefR := fun {F w b o x} ⟨cs, h, hc⟩ => by
  have h0 := hc 0 (by omega)
  have hl := h.len
  rw [List.getElem?_eq_getElem (by omega)] at h0
  exact cell_lt h0
theorem ApiGlobalDefR.fr : Fr ApiGlobalDefR := fun {F S w w' b o x} ⟨cs, h, hcc⟩ hc hF hd => ⟨cs, h.chg hc hd, fun j hj => by
  have h0 := hcc j hj
  have hl := h.len
  rw [List.getElem?_eq_getElem (by omega)] at h0 ⊢
  exact hc.cell (hd _ (cell_lt h0) hF) h0⟩
theorem ApiGlobalDefR.mo : Mo ApiGlobalDefR := fun ⟨cs, h, hcc⟩ hd => ⟨cs, h.mono hd, hcc⟩
theorem ApiGlobalDefR.type_ (h : ApiGlobalDefR F w b o x) : ApiGlobalR F w b (o) x.type_ := by
  obtain ⟨cs, hv, hc⟩ := h
  obtain ⟨v0, rfl, r0, g0⟩ := hv
  refine ⟨_, ⟨rfl, g0⟩, fun j hj => ?_⟩
  match j, hj with
  | 0, _ => exact hc 0 (by omega)
  | 1, _ => exact hc 1 (by omega)
theorem ApiGlobalDefR.init_ (h : ApiGlobalDefR F w b o x) : ∃ v, w.cell? ⟨b, o + 2, none⟩ = some v ∧ BodyR F w v x.init_ := by
  obtain ⟨cs, hv, hc⟩ := h
  obtain ⟨v0, rfl, r0, g0⟩ := hv
  exact ⟨_, hc 2 (by omega), r0⟩
set_option maxRecDepth 100000 in
theorem ApiGlobalDefV.of (h : Tr w 112 cs) (hcl : cs.length = 3) : ∃ x, ApiGlobalDefV (fun _ => True) w cs x := by
  obtain ⟨c0, c1, c2, rfl⟩ := len3_ hcl
  obtain ⟨-, hf⟩ := h.struct Tryz.underlying112
  obtain ⟨y0, q0⟩ := ApiGlobalV.of (show Tr w _ [c0, c1] from Tr.fld hf 0 0 2 rfl (by kernel_rfl)) rfl
  obtain ⟨e0, k0_0⟩ := q0
  cases e0
  obtain ⟨u1, y1, e1, z1⟩ := (show Tr w _ [c2] from Tr.fld hf 1 2 1 rfl (by kernel_rfl)).body
  cases e1
  exact ⟨⟨y0, y1⟩, ⟨_, rfl, z1, k0_0⟩⟩
theorem ApiGlobalDefR.of (b o : Nat) (cs : List Value) (hcl : cs.length = 3) (hcc : ∀ j, j < 3 → w.cell? ⟨b, o + j, none⟩ = cs[j]?) (h : Tr w 112 cs) : ∃ x, ApiGlobalDefR (fun _ => True) w b o x := by
  obtain ⟨x, hx⟩ := ApiGlobalDefV.of h hcl
  exact ⟨x, cs, hx, hcc⟩
end
structure ApiExport where
  name : ByteArray
  kind : Int
  index : Int
  deriving Inhabited
def ApiExportV (_F : Nat → Prop) (_w : World) (cs : List Value) (x : ApiExport) : Prop :=
  cs = [.string x.name, .int .i64 x.kind, .int .i64 x.index] ∧ x.name.size ≤ 140737488351232 ∧ R64 x.kind ∧ R64 x.index
def ApiExportR : ElR ApiExport := fun F w b o x => ∃ cs, ApiExportV F w cs x ∧ ∀ j, j < 3 → w.cell? ⟨b, o + j, none⟩ = cs[j]?
section
variable {F S H : Nat → Prop} {w w' : World} {b o : Nat} {cs : List Value} {x : ApiExport}
theorem ApiExportV.len (h : ApiExportV F w cs x) : cs.length = 3 := by
  obtain ⟨rfl, g0, g1, g2⟩ := h
  rfl
theorem ApiExportV.chg (h : ApiExportV F w cs x) (_hc : Chg S w w') (_hd : ∀ k, k < w.heap.size → F k → ¬ S k) : ApiExportV F w' cs x := by
  obtain ⟨rfl, g0, g1, g2⟩ := h
  exact ⟨rfl, g0, g1, g2⟩
theorem ApiExportV.mono (h : ApiExportV F w cs x) (_hd : ∀ k, k < w.heap.size → F k → H k) : ApiExportV H w cs x := by
  obtain ⟨rfl, g0, g1, g2⟩ := h
  exact ⟨rfl, g0, g1, g2⟩
theorem ApiExportV.at (h : ApiExportV F w cs x) (hc : ∀ j, j < 3 → w.cell? ⟨b, o + j, none⟩ = cs[j]?) : ApiExportR F w b o x := ⟨cs, h, hc⟩
theorem ApiExportR.ce : Ce ApiExportR := fun {F w b o x} ⟨cs, h, hc⟩ => by
  have h0 := hc 0 (by omega)
  have hl := h.len
  rw [List.getElem?_eq_getElem (by omega)] at h0
  exact cell_lt h0
theorem ApiExportR.fr : Fr ApiExportR := fun {F S w w' b o x} ⟨cs, h, hcc⟩ hc hF hd => ⟨cs, h.chg hc hd, fun j hj => by
  have h0 := hcc j hj
  have hl := h.len
  rw [List.getElem?_eq_getElem (by omega)] at h0 ⊢
  exact hc.cell (hd _ (cell_lt h0) hF) h0⟩
theorem ApiExportR.mo : Mo ApiExportR := fun ⟨cs, h, hcc⟩ hd => ⟨cs, h.mono hd, hcc⟩
theorem ApiExportR.name (h : ApiExportR F w b o x) : w.cell? ⟨b, o, none⟩ = some (.string x.name) := by
  obtain ⟨cs, hv, hc⟩ := h
  obtain ⟨rfl, g0, g1, g2⟩ := hv
  exact hc 0 (by omega)
theorem ApiExportR.kind (h : ApiExportR F w b o x) : w.cell? ⟨b, o + 1, none⟩ = some (.int .i64 x.kind) := by
  obtain ⟨cs, hv, hc⟩ := h
  obtain ⟨rfl, g0, g1, g2⟩ := hv
  exact hc 1 (by omega)
theorem ApiExportV.kind_r (h : ApiExportV F w cs x) : R64 x.kind := by
  obtain ⟨rfl, g0, g1, g2⟩ := h
  exact g1
theorem ApiExportR.kind_r (h : ApiExportR F w b o x) : R64 x.kind := by
  obtain ⟨cs, hv, hc⟩ := h
  exact hv.kind_r
theorem ApiExportR.index (h : ApiExportR F w b o x) : w.cell? ⟨b, o + 2, none⟩ = some (.int .i64 x.index) := by
  obtain ⟨cs, hv, hc⟩ := h
  obtain ⟨rfl, g0, g1, g2⟩ := hv
  exact hc 2 (by omega)
theorem ApiExportV.index_r (h : ApiExportV F w cs x) : R64 x.index := by
  obtain ⟨rfl, g0, g1, g2⟩ := h
  exact g2
theorem ApiExportR.index_r (h : ApiExportR F w b o x) : R64 x.index := by
  obtain ⟨cs, hv, hc⟩ := h
  exact hv.index_r
set_option maxRecDepth 100000 in
theorem ApiExportV.of (h : Tr w 117 cs) (hcl : cs.length = 3) : ∃ x, ApiExportV (fun _ => True) w cs x := by
  obtain ⟨c0, c1, c2, rfl⟩ := len3_ hcl
  obtain ⟨-, hf⟩ := h.struct Tryz.underlying117
  obtain ⟨y0, e0, z0⟩ := (show Tr w _ [c0] from Tr.fld hf 0 0 1 rfl (by kernel_rfl)).string Tryz.underlying9
  rw [reach_val] at z0
  cases e0
  obtain ⟨y1, e1, z1⟩ := (show Tr w _ [c1] from Tr.fld hf 1 1 1 rfl (by kernel_rfl)).int Tryz.underlying98
  cases e1
  obtain ⟨y2, e2, z2⟩ := (show Tr w _ [c2] from Tr.fld hf 2 2 1 rfl (by kernel_rfl)).int Tryz.underlying3
  cases e2
  exact ⟨⟨y0, y1, y2⟩, ⟨rfl, z0, R64_of z1, R64_of z2⟩⟩
theorem ApiExportR.of (b o : Nat) (cs : List Value) (hcl : cs.length = 3) (hcc : ∀ j, j < 3 → w.cell? ⟨b, o + j, none⟩ = cs[j]?) (h : Tr w 117 cs) : ∃ x, ApiExportR (fun _ => True) w b o x := by
  obtain ⟨x, hx⟩ := ApiExportV.of h hcl
  exact ⟨x, cs, hx, hcc⟩
end
structure ApiElem where
  mode : Int
  table : Int
  offset : List Ins
  type_ : Int
  items : List (List Ins)
  deriving Inhabited
def ApiElemV (F : Nat → Prop) (w : World) (cs : List Value) (x : ApiElem) : Prop :=
  ∃ v0 v1 : Value, cs = [.int .i64 x.mode, .int .i64 x.table, v0, .int .i64 x.type_, v1] ∧ BodyR F w v0 x.offset ∧ SlR 1 5864062014634 (RowAt BodyR) F w v1 x.items ∧ R64 x.mode ∧ R64 x.table ∧ R64 x.type_
def ApiElemR : ElR ApiElem := fun F w b o x => ∃ cs, ApiElemV F w cs x ∧ ∀ j, j < 5 → w.cell? ⟨b, o + j, none⟩ = cs[j]?
section
variable {F S H : Nat → Prop} {w w' : World} {b o : Nat} {cs : List Value} {x : ApiElem}
theorem ApiElemV.len (h : ApiElemV F w cs x) : cs.length = 5 := by
  obtain ⟨v0, v1, rfl, r0, r1, g0, g1, g2⟩ := h
  rfl
theorem ApiElemV.chg (h : ApiElemV F w cs x) (hc : Chg S w w') (hd : ∀ k, k < w.heap.size → F k → ¬ S k) : ApiElemV F w' cs x := by
  obtain ⟨v0, v1, rfl, r0, r1, g0, g1, g2⟩ := h
  exact ⟨v0, v1, rfl, r0.chg hc hd, SlR.chg (RowAt.fr (fun h hc hd => h.chg hc hd)) RowAt.ce r1 hc hd, g0, g1, g2⟩
theorem ApiElemV.mono (h : ApiElemV F w cs x) (hd : ∀ k, k < w.heap.size → F k → H k) : ApiElemV H w cs x := by
  obtain ⟨v0, v1, rfl, r0, r1, g0, g1, g2⟩ := h
  exact ⟨v0, v1, rfl, r0.mono hd, SlR.mono (RowAt.mo (fun h hd => h.mono hd)) RowAt.ce r1 hd, g0, g1, g2⟩
theorem ApiElemV.at (h : ApiElemV F w cs x) (hc : ∀ j, j < 5 → w.cell? ⟨b, o + j, none⟩ = cs[j]?) : ApiElemR F w b o x := ⟨cs, h, hc⟩
theorem ApiElemR.ce : Ce ApiElemR := fun {F w b o x} ⟨cs, h, hc⟩ => by
  have h0 := hc 0 (by omega)
  have hl := h.len
  rw [List.getElem?_eq_getElem (by omega)] at h0
  exact cell_lt h0
theorem ApiElemR.fr : Fr ApiElemR := fun {F S w w' b o x} ⟨cs, h, hcc⟩ hc hF hd => ⟨cs, h.chg hc hd, fun j hj => by
  have h0 := hcc j hj
  have hl := h.len
  rw [List.getElem?_eq_getElem (by omega)] at h0 ⊢
  exact hc.cell (hd _ (cell_lt h0) hF) h0⟩
theorem ApiElemR.mo : Mo ApiElemR := fun ⟨cs, h, hcc⟩ hd => ⟨cs, h.mono hd, hcc⟩
theorem ApiElemR.mode (h : ApiElemR F w b o x) : w.cell? ⟨b, o, none⟩ = some (.int .i64 x.mode) := by
  obtain ⟨cs, hv, hc⟩ := h
  obtain ⟨v0, v1, rfl, r0, r1, g0, g1, g2⟩ := hv
  exact hc 0 (by omega)
theorem ApiElemR.table (h : ApiElemR F w b o x) : w.cell? ⟨b, o + 1, none⟩ = some (.int .i64 x.table) := by
  obtain ⟨cs, hv, hc⟩ := h
  obtain ⟨v0, v1, rfl, r0, r1, g0, g1, g2⟩ := hv
  exact hc 1 (by omega)
theorem ApiElemR.offset (h : ApiElemR F w b o x) : ∃ v, w.cell? ⟨b, o + 2, none⟩ = some v ∧ BodyR F w v x.offset := by
  obtain ⟨cs, hv, hc⟩ := h
  obtain ⟨v0, v1, rfl, r0, r1, g0, g1, g2⟩ := hv
  exact ⟨_, hc 2 (by omega), r0⟩
theorem ApiElemR.type_ (h : ApiElemR F w b o x) : w.cell? ⟨b, o + 3, none⟩ = some (.int .i64 x.type_) := by
  obtain ⟨cs, hv, hc⟩ := h
  obtain ⟨v0, v1, rfl, r0, r1, g0, g1, g2⟩ := hv
  exact hc 3 (by omega)
theorem ApiElemR.items (h : ApiElemR F w b o x) : ∃ v, w.cell? ⟨b, o + 4, none⟩ = some v ∧ SlR 1 5864062014634 (RowAt BodyR) F w v x.items := by
  obtain ⟨cs, hv, hc⟩ := h
  obtain ⟨v0, v1, rfl, r0, r1, g0, g1, g2⟩ := hv
  exact ⟨_, hc 4 (by omega), r1⟩
set_option maxRecDepth 100000 in
theorem ApiElemV.of (h : Tr w 115 cs) (hcl : cs.length = 5) : ∃ x, ApiElemV (fun _ => True) w cs x := by
  obtain ⟨c0, c1, c2, c3, c4, rfl⟩ := len5_ hcl
  obtain ⟨-, hf⟩ := h.struct Tryz.underlying115
  obtain ⟨y0, e0, z0⟩ := (show Tr w _ [c0] from Tr.fld hf 0 0 1 rfl (by kernel_rfl)).int Tryz.underlying3
  cases e0
  obtain ⟨y1, e1, z1⟩ := (show Tr w _ [c1] from Tr.fld hf 1 1 1 rfl (by kernel_rfl)).int Tryz.underlying3
  cases e1
  obtain ⟨u2, y2, e2, z2⟩ := (show Tr w _ [c2] from Tr.fld hf 2 2 1 rfl (by kernel_rfl)).body
  cases e2
  obtain ⟨y3, e3, z3⟩ := (show Tr w _ [c3] from Tr.fld hf 3 3 1 rfl (by kernel_rfl)).int Tryz.underlying37
  cases e3
  obtain ⟨u4, y4, e4, z4⟩ := (show Tr w _ [c4] from Tr.fld hf 4 4 1 rfl (by kernel_rfl)).sl (s := 1) (bt := 24) (N := 5864062014634) (RowAt BodyR) Tryz.underlying113 (by kernel_rfl) (by kernel_rfl) (by omega) (fun n hn => by omega) (fun b o cs _ h2 h3 => by obtain ⟨v, xs, rfl, h⟩ := (h3).body; exact ⟨xs, v, h2 0 (by omega), h⟩)
  cases e4
  exact ⟨⟨y0, y1, y2, y3, y4⟩, ⟨_, _, rfl, z2, z4, R64_of z0, R64_of z1, R64_of z3⟩⟩
theorem ApiElemR.of (b o : Nat) (cs : List Value) (hcl : cs.length = 5) (hcc : ∀ j, j < 5 → w.cell? ⟨b, o + j, none⟩ = cs[j]?) (h : Tr w 115 cs) : ∃ x, ApiElemR (fun _ => True) w b o x := by
  obtain ⟨x, hx⟩ := ApiElemV.of h hcl
  exact ⟨x, cs, hx, hcc⟩
end
structure ApiData where
  mode : Int
  mem : Int
  offset : List Ins
  bytes : List Int
  deriving Inhabited
def ApiDataV (F : Nat → Prop) (w : World) (cs : List Value) (x : ApiData) : Prop :=
  ∃ v0 v1 : Value, cs = [.int .i64 x.mode, .int .i64 x.mem, v0, v1] ∧ BodyR F w v0 x.offset ∧ SlR 1 140737488351232 (IntAt .u8) F w v1 x.bytes ∧ R64 x.mode ∧ R64 x.mem
def ApiDataR : ElR ApiData := fun F w b o x => ∃ cs, ApiDataV F w cs x ∧ ∀ j, j < 4 → w.cell? ⟨b, o + j, none⟩ = cs[j]?
section
variable {F S H : Nat → Prop} {w w' : World} {b o : Nat} {cs : List Value} {x : ApiData}
theorem ApiDataV.len (h : ApiDataV F w cs x) : cs.length = 4 := by
  obtain ⟨v0, v1, rfl, r0, r1, g0, g1⟩ := h
  rfl
theorem ApiDataV.chg (h : ApiDataV F w cs x) (hc : Chg S w w') (hd : ∀ k, k < w.heap.size → F k → ¬ S k) : ApiDataV F w' cs x := by
  obtain ⟨v0, v1, rfl, r0, r1, g0, g1⟩ := h
  exact ⟨v0, v1, rfl, r0.chg hc hd, SlR.chg (IntAt.fr _) (IntAt.ce _) r1 hc hd, g0, g1⟩
theorem ApiDataV.mono (h : ApiDataV F w cs x) (hd : ∀ k, k < w.heap.size → F k → H k) : ApiDataV H w cs x := by
  obtain ⟨v0, v1, rfl, r0, r1, g0, g1⟩ := h
  exact ⟨v0, v1, rfl, r0.mono hd, SlR.mono (IntAt.mo _) (IntAt.ce _) r1 hd, g0, g1⟩
theorem ApiDataV.at (h : ApiDataV F w cs x) (hc : ∀ j, j < 4 → w.cell? ⟨b, o + j, none⟩ = cs[j]?) : ApiDataR F w b o x := ⟨cs, h, hc⟩
theorem ApiDataR.ce : Ce ApiDataR := fun {F w b o x} ⟨cs, h, hc⟩ => by
  have h0 := hc 0 (by omega)
  have hl := h.len
  rw [List.getElem?_eq_getElem (by omega)] at h0
  exact cell_lt h0
theorem ApiDataR.fr : Fr ApiDataR := fun {F S w w' b o x} ⟨cs, h, hcc⟩ hc hF hd => ⟨cs, h.chg hc hd, fun j hj => by
  have h0 := hcc j hj
  have hl := h.len
  rw [List.getElem?_eq_getElem (by omega)] at h0 ⊢
  exact hc.cell (hd _ (cell_lt h0) hF) h0⟩
theorem ApiDataR.mo : Mo ApiDataR := fun ⟨cs, h, hcc⟩ hd => ⟨cs, h.mono hd, hcc⟩
theorem ApiDataR.mode (h : ApiDataR F w b o x) : w.cell? ⟨b, o, none⟩ = some (.int .i64 x.mode) := by
  obtain ⟨cs, hv, hc⟩ := h
  obtain ⟨v0, v1, rfl, r0, r1, g0, g1⟩ := hv
  exact hc 0 (by omega)
theorem ApiDataR.mem (h : ApiDataR F w b o x) : w.cell? ⟨b, o + 1, none⟩ = some (.int .i64 x.mem) := by
  obtain ⟨cs, hv, hc⟩ := h
  obtain ⟨v0, v1, rfl, r0, r1, g0, g1⟩ := hv
  exact hc 1 (by omega)
theorem ApiDataR.offset (h : ApiDataR F w b o x) : ∃ v, w.cell? ⟨b, o + 2, none⟩ = some v ∧ BodyR F w v x.offset := by
  obtain ⟨cs, hv, hc⟩ := h
  obtain ⟨v0, v1, rfl, r0, r1, g0, g1⟩ := hv
  exact ⟨_, hc 2 (by omega), r0⟩
theorem ApiDataR.bytes (h : ApiDataR F w b o x) : ∃ v, w.cell? ⟨b, o + 3, none⟩ = some v ∧ SlR 1 140737488351232 (IntAt .u8) F w v x.bytes := by
  obtain ⟨cs, hv, hc⟩ := h
  obtain ⟨v0, v1, rfl, r0, r1, g0, g1⟩ := hv
  exact ⟨_, hc 3 (by omega), r1⟩
set_option maxRecDepth 100000 in
theorem ApiDataV.of (h : Tr w 295 cs) (hcl : cs.length = 4) : ∃ x, ApiDataV (fun _ => True) w cs x := by
  obtain ⟨c0, c1, c2, c3, rfl⟩ := len4_ hcl
  obtain ⟨-, hf⟩ := h.struct Tryz.underlying295
  obtain ⟨y0, e0, z0⟩ := (show Tr w _ [c0] from Tr.fld hf 0 0 1 rfl (by kernel_rfl)).int Tryz.underlying3
  cases e0
  obtain ⟨y1, e1, z1⟩ := (show Tr w _ [c1] from Tr.fld hf 1 1 1 rfl (by kernel_rfl)).int Tryz.underlying3
  cases e1
  obtain ⟨u2, y2, e2, z2⟩ := (show Tr w _ [c2] from Tr.fld hf 2 2 1 rfl (by kernel_rfl)).body
  cases e2
  obtain ⟨u3, y3, e3, z3⟩ := (show Tr w _ [c3] from Tr.fld hf 3 3 1 rfl (by kernel_rfl)).sl (s := 1) (bt := 1) (N := 140737488351232) (IntAt .u8) Tryz.underlying293 (by kernel_rfl) (by kernel_rfl) (by omega) (fun n hn => by omega) (fun b o cs _ h2 h3 => by obtain ⟨n, rfl, _⟩ := h3.int Tryz.underlying5; exact ⟨n, h2 0 (by omega)⟩)
  cases e3
  exact ⟨⟨y0, y1, y2, y3⟩, ⟨_, _, rfl, z2, z3, R64_of z0, R64_of z1⟩⟩
theorem ApiDataR.of (b o : Nat) (cs : List Value) (hcl : cs.length = 4) (hcc : ∀ j, j < 4 → w.cell? ⟨b, o + j, none⟩ = cs[j]?) (h : Tr w 295 cs) : ∃ x, ApiDataR (fun _ => True) w b o x := by
  obtain ⟨x, hx⟩ := ApiDataV.of h hcl
  exact ⟨x, cs, hx, hcc⟩
end
structure ApiCustom where
  after : Int
  name : ByteArray
  bytes : List Int
  deriving Inhabited
def ApiCustomV (F : Nat → Prop) (w : World) (cs : List Value) (x : ApiCustom) : Prop :=
  ∃ v0 : Value, cs = [.int .i64 x.after, .string x.name, v0] ∧ SlR 1 140737488351232 (IntAt .u8) F w v0 x.bytes ∧ R64 x.after ∧ x.name.size ≤ 140737488351232
def ApiCustomR : ElR ApiCustom := fun F w b o x => ∃ cs, ApiCustomV F w cs x ∧ ∀ j, j < 3 → w.cell? ⟨b, o + j, none⟩ = cs[j]?
section
variable {F S H : Nat → Prop} {w w' : World} {b o : Nat} {cs : List Value} {x : ApiCustom}
theorem ApiCustomV.len (h : ApiCustomV F w cs x) : cs.length = 3 := by
  obtain ⟨v0, rfl, r0, g0, g1⟩ := h
  rfl
theorem ApiCustomV.chg (h : ApiCustomV F w cs x) (hc : Chg S w w') (hd : ∀ k, k < w.heap.size → F k → ¬ S k) : ApiCustomV F w' cs x := by
  obtain ⟨v0, rfl, r0, g0, g1⟩ := h
  exact ⟨v0, rfl, SlR.chg (IntAt.fr _) (IntAt.ce _) r0 hc hd, g0, g1⟩
theorem ApiCustomV.mono (h : ApiCustomV F w cs x) (hd : ∀ k, k < w.heap.size → F k → H k) : ApiCustomV H w cs x := by
  obtain ⟨v0, rfl, r0, g0, g1⟩ := h
  exact ⟨v0, rfl, SlR.mono (IntAt.mo _) (IntAt.ce _) r0 hd, g0, g1⟩
theorem ApiCustomV.at (h : ApiCustomV F w cs x) (hc : ∀ j, j < 3 → w.cell? ⟨b, o + j, none⟩ = cs[j]?) : ApiCustomR F w b o x := ⟨cs, h, hc⟩
theorem ApiCustomR.ce : Ce ApiCustomR := fun {F w b o x} ⟨cs, h, hc⟩ => by
  have h0 := hc 0 (by omega)
  have hl := h.len
  rw [List.getElem?_eq_getElem (by omega)] at h0
  exact cell_lt h0
theorem ApiCustomR.fr : Fr ApiCustomR := fun {F S w w' b o x} ⟨cs, h, hcc⟩ hc hF hd => ⟨cs, h.chg hc hd, fun j hj => by
  have h0 := hcc j hj
  have hl := h.len
  rw [List.getElem?_eq_getElem (by omega)] at h0 ⊢
  exact hc.cell (hd _ (cell_lt h0) hF) h0⟩
theorem ApiCustomR.mo : Mo ApiCustomR := fun ⟨cs, h, hcc⟩ hd => ⟨cs, h.mono hd, hcc⟩
theorem ApiCustomR.after (h : ApiCustomR F w b o x) : w.cell? ⟨b, o, none⟩ = some (.int .i64 x.after) := by
  obtain ⟨cs, hv, hc⟩ := h
  obtain ⟨v0, rfl, r0, g0, g1⟩ := hv
  exact hc 0 (by omega)
theorem ApiCustomR.name (h : ApiCustomR F w b o x) : w.cell? ⟨b, o + 1, none⟩ = some (.string x.name) := by
  obtain ⟨cs, hv, hc⟩ := h
  obtain ⟨v0, rfl, r0, g0, g1⟩ := hv
  exact hc 1 (by omega)
theorem ApiCustomR.bytes (h : ApiCustomR F w b o x) : ∃ v, w.cell? ⟨b, o + 2, none⟩ = some v ∧ SlR 1 140737488351232 (IntAt .u8) F w v x.bytes := by
  obtain ⟨cs, hv, hc⟩ := h
  obtain ⟨v0, rfl, r0, g0, g1⟩ := hv
  exact ⟨_, hc 2 (by omega), r0⟩
set_option maxRecDepth 100000 in
theorem ApiCustomV.of (h : Tr w 297 cs) (hcl : cs.length = 3) : ∃ x, ApiCustomV (fun _ => True) w cs x := by
  obtain ⟨c0, c1, c2, rfl⟩ := len3_ hcl
  obtain ⟨-, hf⟩ := h.struct Tryz.underlying297
  obtain ⟨y0, e0, z0⟩ := (show Tr w _ [c0] from Tr.fld hf 0 0 1 rfl (by kernel_rfl)).int Tryz.underlying3
  cases e0
  obtain ⟨y1, e1, z1⟩ := (show Tr w _ [c1] from Tr.fld hf 1 1 1 rfl (by kernel_rfl)).string Tryz.underlying9
  rw [reach_val] at z1
  cases e1
  obtain ⟨u2, y2, e2, z2⟩ := (show Tr w _ [c2] from Tr.fld hf 2 2 1 rfl (by kernel_rfl)).sl (s := 1) (bt := 1) (N := 140737488351232) (IntAt .u8) Tryz.underlying293 (by kernel_rfl) (by kernel_rfl) (by omega) (fun n hn => by omega) (fun b o cs _ h2 h3 => by obtain ⟨n, rfl, _⟩ := h3.int Tryz.underlying5; exact ⟨n, h2 0 (by omega)⟩)
  cases e2
  exact ⟨⟨y0, y1, y2⟩, ⟨_, rfl, z2, R64_of z0, z1⟩⟩
theorem ApiCustomR.of (b o : Nat) (cs : List Value) (hcl : cs.length = 3) (hcc : ∀ j, j < 3 → w.cell? ⟨b, o + j, none⟩ = cs[j]?) (h : Tr w 297 cs) : ∃ x, ApiCustomR (fun _ => True) w b o x := by
  obtain ⟨x, hx⟩ := ApiCustomV.of h hcl
  exact ⟨x, cs, hx, hcc⟩
end
structure ApiModule where
  types : List ApiFunc
  imports : List ApiImport
  funcs : List ApiCode
  tables : List ApiTable
  mems : List ApiLimits
  globals : List ApiGlobalDef
  exports : List ApiExport
  hasStart : Bool
  start : Int
  elems : List ApiElem
  datas : List ApiData
  customs : List ApiCustom
  deriving Inhabited
def ApiModuleV (F : Nat → Prop) (w : World) (cs : List Value) (x : ApiModule) : Prop :=
  ∃ v0 v1 v2 v3 v4 v5 v6 v7 v8 v9 : Value, cs = [v0, v1, v2, v3, v4, v5, v6, .bool x.hasStart, .int .i64 x.start, v7, v8, v9] ∧ SlR 2 2932031007317 ApiFuncR F w v0 x.types ∧ SlR 13 1172812402926 ApiImportR F w v1 x.imports ∧ SlR 3 2513169434843 ApiCodeR F w v2 x.funcs ∧ SlR 4 4398046510976 ApiTableR F w v3 x.tables ∧ SlR 3 5864062014634 ApiLimitsR F w v4 x.mems ∧ SlR 3 3518437208780 ApiGlobalDefR F w v5 x.globals ∧ SlR 3 4398046510976 ApiExportR F w v6 x.exports ∧ SlR 5 1954687338211 ApiElemR F w v7 x.elems ∧ SlR 4 2199023255488 ApiDataR F w v8 x.datas ∧ SlR 3 2932031007317 ApiCustomR F w v9 x.customs ∧ R64 x.start
def ApiModuleR : ElR ApiModule := fun F w b o x => ∃ cs, ApiModuleV F w cs x ∧ ∀ j, j < 12 → w.cell? ⟨b, o + j, none⟩ = cs[j]?
section
variable {F S H : Nat → Prop} {w w' : World} {b o : Nat} {cs : List Value} {x : ApiModule}
theorem ApiModuleV.len (h : ApiModuleV F w cs x) : cs.length = 12 := by
  obtain ⟨v0, v1, v2, v3, v4, v5, v6, v7, v8, v9, rfl, r0, r1, r2, r3, r4, r5, r6, r7, r8, r9, g0⟩ := h
  rfl
theorem ApiModuleV.chg (h : ApiModuleV F w cs x) (hc : Chg S w w') (hd : ∀ k, k < w.heap.size → F k → ¬ S k) : ApiModuleV F w' cs x := by
  obtain ⟨v0, v1, v2, v3, v4, v5, v6, v7, v8, v9, rfl, r0, r1, r2, r3, r4, r5, r6, r7, r8, r9, g0⟩ := h
  exact ⟨v0, v1, v2, v3, v4, v5, v6, v7, v8, v9, rfl, SlR.chg ApiFuncR.fr ApiFuncR.ce r0 hc hd, SlR.chg ApiImportR.fr ApiImportR.ce r1 hc hd, SlR.chg ApiCodeR.fr ApiCodeR.ce r2 hc hd, SlR.chg ApiTableR.fr ApiTableR.ce r3 hc hd, SlR.chg ApiLimitsR.fr ApiLimitsR.ce r4 hc hd, SlR.chg ApiGlobalDefR.fr ApiGlobalDefR.ce r5 hc hd, SlR.chg ApiExportR.fr ApiExportR.ce r6 hc hd, SlR.chg ApiElemR.fr ApiElemR.ce r7 hc hd, SlR.chg ApiDataR.fr ApiDataR.ce r8 hc hd, SlR.chg ApiCustomR.fr ApiCustomR.ce r9 hc hd, g0⟩
theorem ApiModuleV.mono (h : ApiModuleV F w cs x) (hd : ∀ k, k < w.heap.size → F k → H k) : ApiModuleV H w cs x := by
  obtain ⟨v0, v1, v2, v3, v4, v5, v6, v7, v8, v9, rfl, r0, r1, r2, r3, r4, r5, r6, r7, r8, r9, g0⟩ := h
  exact ⟨v0, v1, v2, v3, v4, v5, v6, v7, v8, v9, rfl, SlR.mono ApiFuncR.mo ApiFuncR.ce r0 hd, SlR.mono ApiImportR.mo ApiImportR.ce r1 hd, SlR.mono ApiCodeR.mo ApiCodeR.ce r2 hd, SlR.mono ApiTableR.mo ApiTableR.ce r3 hd, SlR.mono ApiLimitsR.mo ApiLimitsR.ce r4 hd, SlR.mono ApiGlobalDefR.mo ApiGlobalDefR.ce r5 hd, SlR.mono ApiExportR.mo ApiExportR.ce r6 hd, SlR.mono ApiElemR.mo ApiElemR.ce r7 hd, SlR.mono ApiDataR.mo ApiDataR.ce r8 hd, SlR.mono ApiCustomR.mo ApiCustomR.ce r9 hd, g0⟩
theorem ApiModuleV.at (h : ApiModuleV F w cs x) (hc : ∀ j, j < 12 → w.cell? ⟨b, o + j, none⟩ = cs[j]?) : ApiModuleR F w b o x := ⟨cs, h, hc⟩
theorem ApiModuleR.ce : Ce ApiModuleR := fun {F w b o x} ⟨cs, h, hc⟩ => by
  have h0 := hc 0 (by omega)
  have hl := h.len
  rw [List.getElem?_eq_getElem (by omega)] at h0
  exact cell_lt h0
theorem ApiModuleR.fr : Fr ApiModuleR := fun {F S w w' b o x} ⟨cs, h, hcc⟩ hc hF hd => ⟨cs, h.chg hc hd, fun j hj => by
  have h0 := hcc j hj
  have hl := h.len
  rw [List.getElem?_eq_getElem (by omega)] at h0 ⊢
  exact hc.cell (hd _ (cell_lt h0) hF) h0⟩
theorem ApiModuleR.mo : Mo ApiModuleR := fun ⟨cs, h, hcc⟩ hd => ⟨cs, h.mono hd, hcc⟩
theorem ApiModuleR.types (h : ApiModuleR F w b o x) : ∃ v, w.cell? ⟨b, o, none⟩ = some v ∧ SlR 2 2932031007317 ApiFuncR F w v x.types := by
  obtain ⟨cs, hv, hc⟩ := h
  obtain ⟨v0, v1, v2, v3, v4, v5, v6, v7, v8, v9, rfl, r0, r1, r2, r3, r4, r5, r6, r7, r8, r9, g0⟩ := hv
  exact ⟨_, hc 0 (by omega), r0⟩
theorem ApiModuleR.imports (h : ApiModuleR F w b o x) : ∃ v, w.cell? ⟨b, o + 1, none⟩ = some v ∧ SlR 13 1172812402926 ApiImportR F w v x.imports := by
  obtain ⟨cs, hv, hc⟩ := h
  obtain ⟨v0, v1, v2, v3, v4, v5, v6, v7, v8, v9, rfl, r0, r1, r2, r3, r4, r5, r6, r7, r8, r9, g0⟩ := hv
  exact ⟨_, hc 1 (by omega), r1⟩
theorem ApiModuleR.funcs (h : ApiModuleR F w b o x) : ∃ v, w.cell? ⟨b, o + 2, none⟩ = some v ∧ SlR 3 2513169434843 ApiCodeR F w v x.funcs := by
  obtain ⟨cs, hv, hc⟩ := h
  obtain ⟨v0, v1, v2, v3, v4, v5, v6, v7, v8, v9, rfl, r0, r1, r2, r3, r4, r5, r6, r7, r8, r9, g0⟩ := hv
  exact ⟨_, hc 2 (by omega), r2⟩
theorem ApiModuleR.tables (h : ApiModuleR F w b o x) : ∃ v, w.cell? ⟨b, o + 3, none⟩ = some v ∧ SlR 4 4398046510976 ApiTableR F w v x.tables := by
  obtain ⟨cs, hv, hc⟩ := h
  obtain ⟨v0, v1, v2, v3, v4, v5, v6, v7, v8, v9, rfl, r0, r1, r2, r3, r4, r5, r6, r7, r8, r9, g0⟩ := hv
  exact ⟨_, hc 3 (by omega), r3⟩
theorem ApiModuleR.mems (h : ApiModuleR F w b o x) : ∃ v, w.cell? ⟨b, o + 4, none⟩ = some v ∧ SlR 3 5864062014634 ApiLimitsR F w v x.mems := by
  obtain ⟨cs, hv, hc⟩ := h
  obtain ⟨v0, v1, v2, v3, v4, v5, v6, v7, v8, v9, rfl, r0, r1, r2, r3, r4, r5, r6, r7, r8, r9, g0⟩ := hv
  exact ⟨_, hc 4 (by omega), r4⟩
theorem ApiModuleR.globals (h : ApiModuleR F w b o x) : ∃ v, w.cell? ⟨b, o + 5, none⟩ = some v ∧ SlR 3 3518437208780 ApiGlobalDefR F w v x.globals := by
  obtain ⟨cs, hv, hc⟩ := h
  obtain ⟨v0, v1, v2, v3, v4, v5, v6, v7, v8, v9, rfl, r0, r1, r2, r3, r4, r5, r6, r7, r8, r9, g0⟩ := hv
  exact ⟨_, hc 5 (by omega), r5⟩
theorem ApiModuleR.exports (h : ApiModuleR F w b o x) : ∃ v, w.cell? ⟨b, o + 6, none⟩ = some v ∧ SlR 3 4398046510976 ApiExportR F w v x.exports := by
  obtain ⟨cs, hv, hc⟩ := h
  obtain ⟨v0, v1, v2, v3, v4, v5, v6, v7, v8, v9, rfl, r0, r1, r2, r3, r4, r5, r6, r7, r8, r9, g0⟩ := hv
  exact ⟨_, hc 6 (by omega), r6⟩
theorem ApiModuleR.hasStart (h : ApiModuleR F w b o x) : w.cell? ⟨b, o + 7, none⟩ = some (.bool x.hasStart) := by
  obtain ⟨cs, hv, hc⟩ := h
  obtain ⟨v0, v1, v2, v3, v4, v5, v6, v7, v8, v9, rfl, r0, r1, r2, r3, r4, r5, r6, r7, r8, r9, g0⟩ := hv
  exact hc 7 (by omega)
theorem ApiModuleR.start (h : ApiModuleR F w b o x) : w.cell? ⟨b, o + 8, none⟩ = some (.int .i64 x.start) := by
  obtain ⟨cs, hv, hc⟩ := h
  obtain ⟨v0, v1, v2, v3, v4, v5, v6, v7, v8, v9, rfl, r0, r1, r2, r3, r4, r5, r6, r7, r8, r9, g0⟩ := hv
  exact hc 8 (by omega)
theorem ApiModuleR.elems (h : ApiModuleR F w b o x) : ∃ v, w.cell? ⟨b, o + 9, none⟩ = some v ∧ SlR 5 1954687338211 ApiElemR F w v x.elems := by
  obtain ⟨cs, hv, hc⟩ := h
  obtain ⟨v0, v1, v2, v3, v4, v5, v6, v7, v8, v9, rfl, r0, r1, r2, r3, r4, r5, r6, r7, r8, r9, g0⟩ := hv
  exact ⟨_, hc 9 (by omega), r7⟩
theorem ApiModuleR.datas (h : ApiModuleR F w b o x) : ∃ v, w.cell? ⟨b, o + 10, none⟩ = some v ∧ SlR 4 2199023255488 ApiDataR F w v x.datas := by
  obtain ⟨cs, hv, hc⟩ := h
  obtain ⟨v0, v1, v2, v3, v4, v5, v6, v7, v8, v9, rfl, r0, r1, r2, r3, r4, r5, r6, r7, r8, r9, g0⟩ := hv
  exact ⟨_, hc 10 (by omega), r8⟩
theorem ApiModuleR.customs (h : ApiModuleR F w b o x) : ∃ v, w.cell? ⟨b, o + 11, none⟩ = some v ∧ SlR 3 2932031007317 ApiCustomR F w v x.customs := by
  obtain ⟨cs, hv, hc⟩ := h
  obtain ⟨v0, v1, v2, v3, v4, v5, v6, v7, v8, v9, rfl, r0, r1, r2, r3, r4, r5, r6, r7, r8, r9, g0⟩ := hv
  exact ⟨_, hc 11 (by omega), r9⟩
set_option maxRecDepth 100000 in
theorem ApiModuleV.of (h : Tr w 33 cs) (hcl : cs.length = 12) : ∃ x, ApiModuleV (fun _ => True) w cs x := by
  obtain ⟨c0, c1, c2, c3, c4, c5, c6, c7, c8, c9, c10, c11, rfl⟩ := len12_ hcl
  obtain ⟨-, hf⟩ := h.struct Tryz.underlying33
  obtain ⟨u0, y0, e0, z0⟩ := (show Tr w _ [c0] from Tr.fld hf 0 0 1 rfl (by kernel_rfl)).sl (s := 2) (bt := 48) (N := 2932031007317) ApiFuncR Tryz.underlying22 (by kernel_rfl) (by kernel_rfl) (by omega) (fun n hn => by omega) ApiFuncR.of
  cases e0
  obtain ⟨u1, y1, e1, z1⟩ := (show Tr w _ [c1] from Tr.fld hf 1 1 1 rfl (by kernel_rfl)).sl (s := 13) (bt := 120) (N := 1172812402926) ApiImportR Tryz.underlying23 (by kernel_rfl) (by kernel_rfl) (by omega) (fun n hn => by omega) ApiImportR.of
  cases e1
  obtain ⟨u2, y2, e2, z2⟩ := (show Tr w _ [c2] from Tr.fld hf 2 2 1 rfl (by kernel_rfl)).sl (s := 3) (bt := 56) (N := 2513169434843) ApiCodeR Tryz.underlying24 (by kernel_rfl) (by kernel_rfl) (by omega) (fun n hn => by omega) ApiCodeR.of
  cases e2
  obtain ⟨u3, y3, e3, z3⟩ := (show Tr w _ [c3] from Tr.fld hf 3 3 1 rfl (by kernel_rfl)).sl (s := 4) (bt := 32) (N := 4398046510976) ApiTableR Tryz.underlying25 (by kernel_rfl) (by kernel_rfl) (by omega) (fun n hn => by omega) ApiTableR.of
  cases e3
  obtain ⟨u4, y4, e4, z4⟩ := (show Tr w _ [c4] from Tr.fld hf 4 4 1 rfl (by kernel_rfl)).sl (s := 3) (bt := 24) (N := 5864062014634) ApiLimitsR Tryz.underlying26 (by kernel_rfl) (by kernel_rfl) (by omega) (fun n hn => by omega) ApiLimitsR.of
  cases e4
  obtain ⟨u5, y5, e5, z5⟩ := (show Tr w _ [c5] from Tr.fld hf 5 5 1 rfl (by kernel_rfl)).sl (s := 3) (bt := 40) (N := 3518437208780) ApiGlobalDefR Tryz.underlying27 (by kernel_rfl) (by kernel_rfl) (by omega) (fun n hn => by omega) ApiGlobalDefR.of
  cases e5
  obtain ⟨u6, y6, e6, z6⟩ := (show Tr w _ [c6] from Tr.fld hf 6 6 1 rfl (by kernel_rfl)).sl (s := 3) (bt := 32) (N := 4398046510976) ApiExportR Tryz.underlying28 (by kernel_rfl) (by kernel_rfl) (by omega) (fun n hn => by omega) ApiExportR.of
  cases e6
  obtain ⟨y7, e7⟩ := (show Tr w _ [c7] from Tr.fld hf 7 7 1 rfl (by kernel_rfl)).bool Tryz.underlying4
  cases e7
  obtain ⟨y8, e8, z8⟩ := (show Tr w _ [c8] from Tr.fld hf 8 8 1 rfl (by kernel_rfl)).int Tryz.underlying3
  cases e8
  obtain ⟨u9, y9, e9, z9⟩ := (show Tr w _ [c9] from Tr.fld hf 9 9 1 rfl (by kernel_rfl)).sl (s := 5) (bt := 72) (N := 1954687338211) ApiElemR Tryz.underlying29 (by kernel_rfl) (by kernel_rfl) (by omega) (fun n hn => by omega) ApiElemR.of
  cases e9
  obtain ⟨u10, y10, e10, z10⟩ := (show Tr w _ [c10] from Tr.fld hf 10 10 1 rfl (by kernel_rfl)).sl (s := 4) (bt := 64) (N := 2199023255488) ApiDataR Tryz.underlying30 (by kernel_rfl) (by kernel_rfl) (by omega) (fun n hn => by omega) ApiDataR.of
  cases e10
  obtain ⟨u11, y11, e11, z11⟩ := (show Tr w _ [c11] from Tr.fld hf 11 11 1 rfl (by kernel_rfl)).sl (s := 3) (bt := 48) (N := 2932031007317) ApiCustomR Tryz.underlying31 (by kernel_rfl) (by kernel_rfl) (by omega) (fun n hn => by omega) ApiCustomR.of
  cases e11
  exact ⟨⟨y0, y1, y2, y3, y4, y5, y6, y7, y8, y9, y10, y11⟩, ⟨_, _, _, _, _, _, _, _, _, _, rfl, z0, z1, z2, z3, z4, z5, z6, z9, z10, z11, R64_of z8⟩⟩
theorem ApiModuleR.of (b o : Nat) (cs : List Value) (hcl : cs.length = 12) (hcc : ∀ j, j < 12 → w.cell? ⟨b, o + j, none⟩ = cs[j]?) (h : Tr w 33 cs) : ∃ x, ApiModuleR (fun _ => True) w b o x := by
  obtain ⟨x, hx⟩ := ApiModuleV.of h hcl
  exact ⟨x, cs, hx, hcc⟩
end
structure ApiBlock where
  kind : Int
  val_ : Int
  index : Int
  deriving Inhabited
def ApiBlockV (_F : Nat → Prop) (_w : World) (cs : List Value) (x : ApiBlock) : Prop :=
  cs = [.int .i64 x.kind, .int .i64 x.val_, .int .i64 x.index] ∧ R64 x.kind ∧ R64 x.val_ ∧ R64 x.index
def ApiBlockR : ElR ApiBlock := fun F w b o x => ∃ cs, ApiBlockV F w cs x ∧ ∀ j, j < 3 → w.cell? ⟨b, o + j, none⟩ = cs[j]?
section
variable {F S H : Nat → Prop} {w w' : World} {b o : Nat} {cs : List Value} {x : ApiBlock}
theorem ApiBlockV.len (h : ApiBlockV F w cs x) : cs.length = 3 := by
  obtain ⟨rfl, g0, g1, g2⟩ := h
  rfl
theorem ApiBlockV.chg (h : ApiBlockV F w cs x) (_hc : Chg S w w') (_hd : ∀ k, k < w.heap.size → F k → ¬ S k) : ApiBlockV F w' cs x := by
  obtain ⟨rfl, g0, g1, g2⟩ := h
  exact ⟨rfl, g0, g1, g2⟩
theorem ApiBlockV.mono (h : ApiBlockV F w cs x) (_hd : ∀ k, k < w.heap.size → F k → H k) : ApiBlockV H w cs x := by
  obtain ⟨rfl, g0, g1, g2⟩ := h
  exact ⟨rfl, g0, g1, g2⟩
theorem ApiBlockV.at (h : ApiBlockV F w cs x) (hc : ∀ j, j < 3 → w.cell? ⟨b, o + j, none⟩ = cs[j]?) : ApiBlockR F w b o x := ⟨cs, h, hc⟩
theorem ApiBlockR.ce : Ce ApiBlockR := fun {F w b o x} ⟨cs, h, hc⟩ => by
  have h0 := hc 0 (by omega)
  have hl := h.len
  rw [List.getElem?_eq_getElem (by omega)] at h0
  exact cell_lt h0
theorem ApiBlockR.fr : Fr ApiBlockR := fun {F S w w' b o x} ⟨cs, h, hcc⟩ hc hF hd => ⟨cs, h.chg hc hd, fun j hj => by
  have h0 := hcc j hj
  have hl := h.len
  rw [List.getElem?_eq_getElem (by omega)] at h0 ⊢
  exact hc.cell (hd _ (cell_lt h0) hF) h0⟩
theorem ApiBlockR.mo : Mo ApiBlockR := fun ⟨cs, h, hcc⟩ hd => ⟨cs, h.mono hd, hcc⟩
theorem ApiBlockR.kind (h : ApiBlockR F w b o x) : w.cell? ⟨b, o, none⟩ = some (.int .i64 x.kind) := by
  obtain ⟨cs, hv, hc⟩ := h
  obtain ⟨rfl, g0, g1, g2⟩ := hv
  exact hc 0 (by omega)
theorem ApiBlockV.kind_r (h : ApiBlockV F w cs x) : R64 x.kind := by
  obtain ⟨rfl, g0, g1, g2⟩ := h
  exact g0
theorem ApiBlockR.kind_r (h : ApiBlockR F w b o x) : R64 x.kind := by
  obtain ⟨cs, hv, hc⟩ := h
  exact hv.kind_r
theorem ApiBlockR.val_ (h : ApiBlockR F w b o x) : w.cell? ⟨b, o + 1, none⟩ = some (.int .i64 x.val_) := by
  obtain ⟨cs, hv, hc⟩ := h
  obtain ⟨rfl, g0, g1, g2⟩ := hv
  exact hc 1 (by omega)
theorem ApiBlockR.index (h : ApiBlockR F w b o x) : w.cell? ⟨b, o + 2, none⟩ = some (.int .i64 x.index) := by
  obtain ⟨cs, hv, hc⟩ := h
  obtain ⟨rfl, g0, g1, g2⟩ := hv
  exact hc 2 (by omega)
theorem ApiBlockV.index_r (h : ApiBlockV F w cs x) : R64 x.index := by
  obtain ⟨rfl, g0, g1, g2⟩ := h
  exact g2
theorem ApiBlockR.index_r (h : ApiBlockR F w b o x) : R64 x.index := by
  obtain ⟨cs, hv, hc⟩ := h
  exact hv.index_r
set_option maxRecDepth 100000 in
theorem ApiBlockV.of (h : Tr w 39 cs) (hcl : cs.length = 3) : ∃ x, ApiBlockV (fun _ => True) w cs x := by
  obtain ⟨c0, c1, c2, rfl⟩ := len3_ hcl
  obtain ⟨-, hf⟩ := h.struct Tryz.underlying39
  obtain ⟨y0, e0, z0⟩ := (show Tr w _ [c0] from Tr.fld hf 0 0 1 rfl (by kernel_rfl)).int Tryz.underlying3
  cases e0
  obtain ⟨y1, e1, z1⟩ := (show Tr w _ [c1] from Tr.fld hf 1 1 1 rfl (by kernel_rfl)).int Tryz.underlying37
  cases e1
  obtain ⟨y2, e2, z2⟩ := (show Tr w _ [c2] from Tr.fld hf 2 2 1 rfl (by kernel_rfl)).int Tryz.underlying3
  cases e2
  exact ⟨⟨y0, y1, y2⟩, ⟨rfl, R64_of z0, R64_of z1, R64_of z2⟩⟩
theorem ApiBlockR.of (b o : Nat) (cs : List Value) (hcl : cs.length = 3) (hcc : ∀ j, j < 3 → w.cell? ⟨b, o + j, none⟩ = cs[j]?) (h : Tr w 39 cs) : ∃ x, ApiBlockR (fun _ => True) w b o x := by
  obtain ⟨x, hx⟩ := ApiBlockV.of h hcl
  exact ⟨x, cs, hx, hcc⟩
end
structure R21Stack where
  l : List Int
  marks : List Int
  loose : List Bool
  most : Int
  deriving Inhabited
def R21StackV (F : Nat → Prop) (w : World) (cs : List Value) (x : R21Stack) : Prop :=
  ∃ v0 v1 v2 : Value, cs = [v0, v1, v2, .int .i64 x.most] ∧ IntsR F w v0 x.l ∧ IntsR F w v1 x.marks ∧ SlR 1 140737488351232 BoolAt F w v2 x.loose ∧ R64 x.most
def R21StackR : ElR R21Stack := fun F w b o x => ∃ cs, R21StackV F w cs x ∧ ∀ j, j < 4 → w.cell? ⟨b, o + j, none⟩ = cs[j]?
section
variable {F S H : Nat → Prop} {w w' : World} {b o : Nat} {cs : List Value} {x : R21Stack}
theorem R21StackV.len (h : R21StackV F w cs x) : cs.length = 4 := by
  obtain ⟨v0, v1, v2, rfl, r0, r1, r2, g0⟩ := h
  rfl
theorem R21StackV.chg (h : R21StackV F w cs x) (hc : Chg S w w') (hd : ∀ k, k < w.heap.size → F k → ¬ S k) : R21StackV F w' cs x := by
  obtain ⟨v0, v1, v2, rfl, r0, r1, r2, g0⟩ := h
  exact ⟨v0, v1, v2, rfl, r0.chg hc hd, r1.chg hc hd, SlR.chg BoolAt.fr BoolAt.ce r2 hc hd, g0⟩
theorem R21StackV.mono (h : R21StackV F w cs x) (hd : ∀ k, k < w.heap.size → F k → H k) : R21StackV H w cs x := by
  obtain ⟨v0, v1, v2, rfl, r0, r1, r2, g0⟩ := h
  exact ⟨v0, v1, v2, rfl, r0.mono hd, r1.mono hd, SlR.mono BoolAt.mo BoolAt.ce r2 hd, g0⟩
theorem R21StackV.at (h : R21StackV F w cs x) (hc : ∀ j, j < 4 → w.cell? ⟨b, o + j, none⟩ = cs[j]?) : R21StackR F w b o x := ⟨cs, h, hc⟩
theorem R21StackR.ce : Ce R21StackR := fun {F w b o x} ⟨cs, h, hc⟩ => by
  have h0 := hc 0 (by omega)
  have hl := h.len
  rw [List.getElem?_eq_getElem (by omega)] at h0
  exact cell_lt h0
theorem R21StackR.fr : Fr R21StackR := fun {F S w w' b o x} ⟨cs, h, hcc⟩ hc hF hd => ⟨cs, h.chg hc hd, fun j hj => by
  have h0 := hcc j hj
  have hl := h.len
  rw [List.getElem?_eq_getElem (by omega)] at h0 ⊢
  exact hc.cell (hd _ (cell_lt h0) hF) h0⟩
theorem R21StackR.mo : Mo R21StackR := fun ⟨cs, h, hcc⟩ hd => ⟨cs, h.mono hd, hcc⟩
theorem R21StackR.l (h : R21StackR F w b o x) : ∃ v, w.cell? ⟨b, o, none⟩ = some v ∧ IntsR F w v x.l := by
  obtain ⟨cs, hv, hc⟩ := h
  obtain ⟨v0, v1, v2, rfl, r0, r1, r2, g0⟩ := hv
  exact ⟨_, hc 0 (by omega), r0⟩
theorem R21StackR.marks (h : R21StackR F w b o x) : ∃ v, w.cell? ⟨b, o + 1, none⟩ = some v ∧ IntsR F w v x.marks := by
  obtain ⟨cs, hv, hc⟩ := h
  obtain ⟨v0, v1, v2, rfl, r0, r1, r2, g0⟩ := hv
  exact ⟨_, hc 1 (by omega), r1⟩
theorem R21StackR.loose (h : R21StackR F w b o x) : ∃ v, w.cell? ⟨b, o + 2, none⟩ = some v ∧ SlR 1 140737488351232 BoolAt F w v x.loose := by
  obtain ⟨cs, hv, hc⟩ := h
  obtain ⟨v0, v1, v2, rfl, r0, r1, r2, g0⟩ := hv
  exact ⟨_, hc 2 (by omega), r2⟩
theorem R21StackR.most (h : R21StackR F w b o x) : w.cell? ⟨b, o + 3, none⟩ = some (.int .i64 x.most) := by
  obtain ⟨cs, hv, hc⟩ := h
  obtain ⟨v0, v1, v2, rfl, r0, r1, r2, g0⟩ := hv
  exact hc 3 (by omega)
set_option maxRecDepth 100000 in
theorem R21StackV.of (h : Tr w 70 cs) (hcl : cs.length = 4) : ∃ x, R21StackV (fun _ => True) w cs x := by
  obtain ⟨c0, c1, c2, c3, rfl⟩ := len4_ hcl
  obtain ⟨-, hf⟩ := h.struct Tryz.underlying70
  obtain ⟨u0, y0, e0, z0⟩ := (show Tr w _ [c0] from Tr.fld hf 0 0 1 rfl (by kernel_rfl)).ints Tryz.underlying34 Tryz.underlying37 (by kernel_rfl) (by kernel_rfl)
  cases e0
  obtain ⟨u1, y1, e1, z1⟩ := (show Tr w _ [c1] from Tr.fld hf 1 1 1 rfl (by kernel_rfl)).ints Tryz.underlying40 Tryz.underlying3 (by kernel_rfl) (by kernel_rfl)
  cases e1
  obtain ⟨u2, y2, e2, z2⟩ := (show Tr w _ [c2] from Tr.fld hf 2 2 1 rfl (by kernel_rfl)).sl (s := 1) (bt := 1) (N := 140737488351232) BoolAt Tryz.underlying68 (by kernel_rfl) (by kernel_rfl) (by omega) (fun n hn => by omega) (fun b o cs _ h2 h3 => by obtain ⟨n, rfl⟩ := h3.bool Tryz.underlying4; exact ⟨n, h2 0 (by omega)⟩)
  cases e2
  obtain ⟨y3, e3, z3⟩ := (show Tr w _ [c3] from Tr.fld hf 3 3 1 rfl (by kernel_rfl)).int Tryz.underlying3
  cases e3
  exact ⟨⟨y0, y1, y2, y3⟩, ⟨_, _, _, rfl, z0, z1, z2, R64_of z3⟩⟩
theorem R21StackR.of (b o : Nat) (cs : List Value) (hcl : cs.length = 4) (hcc : ∀ j, j < 4 → w.cell? ⟨b, o + j, none⟩ = cs[j]?) (h : Tr w 70 cs) : ∃ x, R21StackR (fun _ => True) w b o x := by
  obtain ⟨x, hx⟩ := R21StackV.of h hcl
  exact ⟨x, cs, hx, hcc⟩
end
structure R22Frame where
  op : Int
  t : ApiFunc
  live : Bool
  was : Bool
  deriving Inhabited
def R22FrameV (F : Nat → Prop) (w : World) (cs : List Value) (x : R22Frame) : Prop :=
  ∃ v0 v1 : Value, cs = [.int .i64 x.op, v0, v1, .bool x.live, .bool x.was] ∧ IntsR F w v0 x.t.params ∧ IntsR F w v1 x.t.results ∧ R64 x.op
def R22FrameR : ElR R22Frame := fun F w b o x => ∃ cs, R22FrameV F w cs x ∧ ∀ j, j < 5 → w.cell? ⟨b, o + j, none⟩ = cs[j]?
section
variable {F S H : Nat → Prop} {w w' : World} {b o : Nat} {cs : List Value} {x : R22Frame}
theorem R22FrameV.len (h : R22FrameV F w cs x) : cs.length = 5 := by
  obtain ⟨v0, v1, rfl, r0, r1, g0⟩ := h
  rfl
theorem R22FrameV.chg (h : R22FrameV F w cs x) (hc : Chg S w w') (hd : ∀ k, k < w.heap.size → F k → ¬ S k) : R22FrameV F w' cs x := by
  obtain ⟨v0, v1, rfl, r0, r1, g0⟩ := h
  exact ⟨v0, v1, rfl, r0.chg hc hd, r1.chg hc hd, g0⟩
theorem R22FrameV.mono (h : R22FrameV F w cs x) (hd : ∀ k, k < w.heap.size → F k → H k) : R22FrameV H w cs x := by
  obtain ⟨v0, v1, rfl, r0, r1, g0⟩ := h
  exact ⟨v0, v1, rfl, r0.mono hd, r1.mono hd, g0⟩
theorem R22FrameV.at (h : R22FrameV F w cs x) (hc : ∀ j, j < 5 → w.cell? ⟨b, o + j, none⟩ = cs[j]?) : R22FrameR F w b o x := ⟨cs, h, hc⟩
theorem R22FrameR.ce : Ce R22FrameR := fun {F w b o x} ⟨cs, h, hc⟩ => by
  have h0 := hc 0 (by omega)
  have hl := h.len
  rw [List.getElem?_eq_getElem (by omega)] at h0
  exact cell_lt h0
theorem R22FrameR.fr : Fr R22FrameR := fun {F S w w' b o x} ⟨cs, h, hcc⟩ hc hF hd => ⟨cs, h.chg hc hd, fun j hj => by
  have h0 := hcc j hj
  have hl := h.len
  rw [List.getElem?_eq_getElem (by omega)] at h0 ⊢
  exact hc.cell (hd _ (cell_lt h0) hF) h0⟩
theorem R22FrameR.mo : Mo R22FrameR := fun ⟨cs, h, hcc⟩ hd => ⟨cs, h.mono hd, hcc⟩
theorem R22FrameR.op (h : R22FrameR F w b o x) : w.cell? ⟨b, o, none⟩ = some (.int .i64 x.op) := by
  obtain ⟨cs, hv, hc⟩ := h
  obtain ⟨v0, v1, rfl, r0, r1, g0⟩ := hv
  exact hc 0 (by omega)
theorem R22FrameR.t (h : R22FrameR F w b o x) : ApiFuncR F w b (o + 1) x.t := by
  obtain ⟨cs, hv, hc⟩ := h
  obtain ⟨v0, v1, rfl, r0, r1, g0⟩ := hv
  refine ⟨_, ⟨v0, v1, rfl, r0, r1⟩, fun j hj => ?_⟩
  match j, hj with
  | 0, _ => exact hc 1 (by omega)
  | 1, _ => exact hc 2 (by omega)
theorem R22FrameR.live (h : R22FrameR F w b o x) : w.cell? ⟨b, o + 3, none⟩ = some (.bool x.live) := by
  obtain ⟨cs, hv, hc⟩ := h
  obtain ⟨v0, v1, rfl, r0, r1, g0⟩ := hv
  exact hc 3 (by omega)
theorem R22FrameR.was (h : R22FrameR F w b o x) : w.cell? ⟨b, o + 4, none⟩ = some (.bool x.was) := by
  obtain ⟨cs, hv, hc⟩ := h
  obtain ⟨v0, v1, rfl, r0, r1, g0⟩ := hv
  exact hc 4 (by omega)
set_option maxRecDepth 100000 in
theorem R22FrameV.of (h : Tr w 132 cs) (hcl : cs.length = 5) : ∃ x, R22FrameV (fun _ => True) w cs x := by
  obtain ⟨c0, c1, c2, c3, c4, rfl⟩ := len5_ hcl
  obtain ⟨-, hf⟩ := h.struct Tryz.underlying132
  obtain ⟨y0, e0, z0⟩ := (show Tr w _ [c0] from Tr.fld hf 0 0 1 rfl (by kernel_rfl)).int Tryz.underlying35
  cases e0
  obtain ⟨y1, q1⟩ := ApiFuncV.of (show Tr w _ [c1, c2] from Tr.fld hf 1 1 2 rfl (by kernel_rfl)) rfl
  obtain ⟨s1_0, s1_1, e1, t1_0, t1_1⟩ := q1
  cases e1
  obtain ⟨y2, e2⟩ := (show Tr w _ [c3] from Tr.fld hf 2 3 1 rfl (by kernel_rfl)).bool Tryz.underlying4
  cases e2
  obtain ⟨y3, e3⟩ := (show Tr w _ [c4] from Tr.fld hf 3 4 1 rfl (by kernel_rfl)).bool Tryz.underlying4
  cases e3
  exact ⟨⟨y0, y1, y2, y3⟩, ⟨_, _, rfl, t1_0, t1_1, R64_of z0⟩⟩
theorem R22FrameR.of (b o : Nat) (cs : List Value) (hcl : cs.length = 5) (hcc : ∀ j, j < 5 → w.cell? ⟨b, o + j, none⟩ = cs[j]?) (h : Tr w 132 cs) : ∃ x, R22FrameR (fun _ => True) w b o x := by
  obtain ⟨x, hx⟩ := R22FrameV.of h hcl
  exact ⟨x, cs, hx, hcc⟩
end
structure R22State where
  s : R21Stack
  frames : List R22Frame
  results : List Int
  broken : Int
  deriving Inhabited
def R22StateV (F : Nat → Prop) (w : World) (cs : List Value) (x : R22State) : Prop :=
  ∃ v0 v1 v2 v3 v4 : Value, cs = [v0, v1, v2, .int .i64 x.s.most, v3, v4, .int .i64 x.broken] ∧ IntsR F w v0 x.s.l ∧ IntsR F w v1 x.s.marks ∧ SlR 1 140737488351232 BoolAt F w v2 x.s.loose ∧ SlR 5 2199023255488 R22FrameR F w v3 x.frames ∧ IntsR F w v4 x.results ∧ R64 x.s.most ∧ R64 x.broken
def R22StateR : ElR R22State := fun F w b o x => ∃ cs, R22StateV F w cs x ∧ ∀ j, j < 7 → w.cell? ⟨b, o + j, none⟩ = cs[j]?
section
variable {F S H : Nat → Prop} {w w' : World} {b o : Nat} {cs : List Value} {x : R22State}
theorem R22StateV.len (h : R22StateV F w cs x) : cs.length = 7 := by
  obtain ⟨v0, v1, v2, v3, v4, rfl, r0, r1, r2, r3, r4, g0, g1⟩ := h
  rfl
theorem R22StateV.chg (h : R22StateV F w cs x) (hc : Chg S w w') (hd : ∀ k, k < w.heap.size → F k → ¬ S k) : R22StateV F w' cs x := by
  obtain ⟨v0, v1, v2, v3, v4, rfl, r0, r1, r2, r3, r4, g0, g1⟩ := h
  exact ⟨v0, v1, v2, v3, v4, rfl, r0.chg hc hd, r1.chg hc hd, SlR.chg BoolAt.fr BoolAt.ce r2 hc hd, SlR.chg R22FrameR.fr R22FrameR.ce r3 hc hd, r4.chg hc hd, g0, g1⟩
theorem R22StateV.mono (h : R22StateV F w cs x) (hd : ∀ k, k < w.heap.size → F k → H k) : R22StateV H w cs x := by
  obtain ⟨v0, v1, v2, v3, v4, rfl, r0, r1, r2, r3, r4, g0, g1⟩ := h
  exact ⟨v0, v1, v2, v3, v4, rfl, r0.mono hd, r1.mono hd, SlR.mono BoolAt.mo BoolAt.ce r2 hd, SlR.mono R22FrameR.mo R22FrameR.ce r3 hd, r4.mono hd, g0, g1⟩
theorem R22StateV.at (h : R22StateV F w cs x) (hc : ∀ j, j < 7 → w.cell? ⟨b, o + j, none⟩ = cs[j]?) : R22StateR F w b o x := ⟨cs, h, hc⟩
theorem R22StateR.ce : Ce R22StateR := fun {F w b o x} ⟨cs, h, hc⟩ => by
  have h0 := hc 0 (by omega)
  have hl := h.len
  rw [List.getElem?_eq_getElem (by omega)] at h0
  exact cell_lt h0
theorem R22StateR.fr : Fr R22StateR := fun {F S w w' b o x} ⟨cs, h, hcc⟩ hc hF hd => ⟨cs, h.chg hc hd, fun j hj => by
  have h0 := hcc j hj
  have hl := h.len
  rw [List.getElem?_eq_getElem (by omega)] at h0 ⊢
  exact hc.cell (hd _ (cell_lt h0) hF) h0⟩
theorem R22StateR.mo : Mo R22StateR := fun ⟨cs, h, hcc⟩ hd => ⟨cs, h.mono hd, hcc⟩
theorem R22StateR.s (h : R22StateR F w b o x) : R21StackR F w b (o) x.s := by
  obtain ⟨cs, hv, hc⟩ := h
  obtain ⟨v0, v1, v2, v3, v4, rfl, r0, r1, r2, r3, r4, g0, g1⟩ := hv
  refine ⟨_, ⟨v0, v1, v2, rfl, r0, r1, r2, g0⟩, fun j hj => ?_⟩
  match j, hj with
  | 0, _ => exact hc 0 (by omega)
  | 1, _ => exact hc 1 (by omega)
  | 2, _ => exact hc 2 (by omega)
  | 3, _ => exact hc 3 (by omega)
theorem R22StateR.frames (h : R22StateR F w b o x) : ∃ v, w.cell? ⟨b, o + 4, none⟩ = some v ∧ SlR 5 2199023255488 R22FrameR F w v x.frames := by
  obtain ⟨cs, hv, hc⟩ := h
  obtain ⟨v0, v1, v2, v3, v4, rfl, r0, r1, r2, r3, r4, g0, g1⟩ := hv
  exact ⟨_, hc 4 (by omega), r3⟩
theorem R22StateR.results (h : R22StateR F w b o x) : ∃ v, w.cell? ⟨b, o + 5, none⟩ = some v ∧ IntsR F w v x.results := by
  obtain ⟨cs, hv, hc⟩ := h
  obtain ⟨v0, v1, v2, v3, v4, rfl, r0, r1, r2, r3, r4, g0, g1⟩ := hv
  exact ⟨_, hc 5 (by omega), r4⟩
theorem R22StateR.broken (h : R22StateR F w b o x) : w.cell? ⟨b, o + 6, none⟩ = some (.int .i64 x.broken) := by
  obtain ⟨cs, hv, hc⟩ := h
  obtain ⟨v0, v1, v2, v3, v4, rfl, r0, r1, r2, r3, r4, g0, g1⟩ := hv
  exact hc 6 (by omega)
set_option maxRecDepth 100000 in
theorem R22StateV.of (h : Tr w 73 cs) (hcl : cs.length = 7) : ∃ x, R22StateV (fun _ => True) w cs x := by
  obtain ⟨c0, c1, c2, c3, c4, c5, c6, rfl⟩ := len7_ hcl
  obtain ⟨-, hf⟩ := h.struct Tryz.underlying73
  obtain ⟨y0, q0⟩ := R21StackV.of (show Tr w _ [c0, c1, c2, c3] from Tr.fld hf 0 0 4 rfl (by kernel_rfl)) rfl
  obtain ⟨s0_0, s0_1, s0_2, e0, t0_0, t0_1, t0_2, k0_0⟩ := q0
  cases e0
  obtain ⟨u1, y1, e1, z1⟩ := (show Tr w _ [c4] from Tr.fld hf 1 4 1 rfl (by kernel_rfl)).sl (s := 5) (bt := 64) (N := 2199023255488) R22FrameR Tryz.underlying71 (by kernel_rfl) (by kernel_rfl) (by omega) (fun n hn => by omega) R22FrameR.of
  cases e1
  obtain ⟨u2, y2, e2, z2⟩ := (show Tr w _ [c5] from Tr.fld hf 2 5 1 rfl (by kernel_rfl)).ints Tryz.underlying34 Tryz.underlying37 (by kernel_rfl) (by kernel_rfl)
  cases e2
  obtain ⟨y3, e3, z3⟩ := (show Tr w _ [c6] from Tr.fld hf 3 6 1 rfl (by kernel_rfl)).int Tryz.underlying48
  cases e3
  exact ⟨⟨y0, y1, y2, y3⟩, ⟨_, _, _, _, _, rfl, t0_0, t0_1, t0_2, z1, z2, k0_0, R64_of z3⟩⟩
theorem R22StateR.of (b o : Nat) (cs : List Value) (hcl : cs.length = 7) (hcc : ∀ j, j < 7 → w.cell? ⟨b, o + j, none⟩ = cs[j]?) (h : Tr w 73 cs) : ∃ x, R22StateR (fun _ => True) w b o x := by
  obtain ⟨x, hx⟩ := R22StateV.of h hcl
  exact ⟨x, cs, hx, hcc⟩
end
structure R23Want where
  f : ApiFunc
  e : Int
  deriving Inhabited
def R23WantV (F : Nat → Prop) (w : World) (cs : List Value) (x : R23Want) : Prop :=
  ∃ v0 v1 : Value, cs = [v0, v1, .int .i64 x.e] ∧ IntsR F w v0 x.f.params ∧ IntsR F w v1 x.f.results ∧ R64 x.e
def R23WantR : ElR R23Want := fun F w b o x => ∃ cs, R23WantV F w cs x ∧ ∀ j, j < 3 → w.cell? ⟨b, o + j, none⟩ = cs[j]?
section
variable {F S H : Nat → Prop} {w w' : World} {b o : Nat} {cs : List Value} {x : R23Want}
theorem R23WantV.len (h : R23WantV F w cs x) : cs.length = 3 := by
  obtain ⟨v0, v1, rfl, r0, r1, g0⟩ := h
  rfl
theorem R23WantV.chg (h : R23WantV F w cs x) (hc : Chg S w w') (hd : ∀ k, k < w.heap.size → F k → ¬ S k) : R23WantV F w' cs x := by
  obtain ⟨v0, v1, rfl, r0, r1, g0⟩ := h
  exact ⟨v0, v1, rfl, r0.chg hc hd, r1.chg hc hd, g0⟩
theorem R23WantV.mono (h : R23WantV F w cs x) (hd : ∀ k, k < w.heap.size → F k → H k) : R23WantV H w cs x := by
  obtain ⟨v0, v1, rfl, r0, r1, g0⟩ := h
  exact ⟨v0, v1, rfl, r0.mono hd, r1.mono hd, g0⟩
theorem R23WantV.at (h : R23WantV F w cs x) (hc : ∀ j, j < 3 → w.cell? ⟨b, o + j, none⟩ = cs[j]?) : R23WantR F w b o x := ⟨cs, h, hc⟩
theorem R23WantR.ce : Ce R23WantR := fun {F w b o x} ⟨cs, h, hc⟩ => by
  have h0 := hc 0 (by omega)
  have hl := h.len
  rw [List.getElem?_eq_getElem (by omega)] at h0
  exact cell_lt h0
theorem R23WantR.fr : Fr R23WantR := fun {F S w w' b o x} ⟨cs, h, hcc⟩ hc hF hd => ⟨cs, h.chg hc hd, fun j hj => by
  have h0 := hcc j hj
  have hl := h.len
  rw [List.getElem?_eq_getElem (by omega)] at h0 ⊢
  exact hc.cell (hd _ (cell_lt h0) hF) h0⟩
theorem R23WantR.mo : Mo R23WantR := fun ⟨cs, h, hcc⟩ hd => ⟨cs, h.mono hd, hcc⟩
theorem R23WantR.f (h : R23WantR F w b o x) : ApiFuncR F w b (o) x.f := by
  obtain ⟨cs, hv, hc⟩ := h
  obtain ⟨v0, v1, rfl, r0, r1, g0⟩ := hv
  refine ⟨_, ⟨v0, v1, rfl, r0, r1⟩, fun j hj => ?_⟩
  match j, hj with
  | 0, _ => exact hc 0 (by omega)
  | 1, _ => exact hc 1 (by omega)
theorem R23WantR.e (h : R23WantR F w b o x) : w.cell? ⟨b, o + 2, none⟩ = some (.int .i64 x.e) := by
  obtain ⟨cs, hv, hc⟩ := h
  obtain ⟨v0, v1, rfl, r0, r1, g0⟩ := hv
  exact hc 2 (by omega)
set_option maxRecDepth 100000 in
theorem R23WantV.of (h : Tr w 120 cs) (hcl : cs.length = 3) : ∃ x, R23WantV (fun _ => True) w cs x := by
  obtain ⟨c0, c1, c2, rfl⟩ := len3_ hcl
  obtain ⟨-, hf⟩ := h.struct Tryz.underlying120
  obtain ⟨y0, q0⟩ := ApiFuncV.of (show Tr w _ [c0, c1] from Tr.fld hf 0 0 2 rfl (by kernel_rfl)) rfl
  obtain ⟨s0_0, s0_1, e0, t0_0, t0_1⟩ := q0
  cases e0
  obtain ⟨y1, e1, z1⟩ := (show Tr w _ [c2] from Tr.fld hf 1 2 1 rfl (by kernel_rfl)).int Tryz.underlying48
  cases e1
  exact ⟨⟨y0, y1⟩, ⟨_, _, rfl, t0_0, t0_1, R64_of z1⟩⟩
theorem R23WantR.of (b o : Nat) (cs : List Value) (hcl : cs.length = 3) (hcc : ∀ j, j < 3 → w.cell? ⟨b, o + j, none⟩ = cs[j]?) (h : Tr w 120 cs) : ∃ x, R23WantR (fun _ => True) w b o x := by
  obtain ⟨x, hx⟩ := R23WantV.of h hcl
  exact ⟨x, cs, hx, hcc⟩
end
structure CtrlBlock where
  kind : Int
  t : ApiFunc
  other : Bool
  live : Bool
  deriving Inhabited
def CtrlBlockV (F : Nat → Prop) (w : World) (cs : List Value) (x : CtrlBlock) : Prop :=
  ∃ v0 v1 : Value, cs = [.int .i64 x.kind, v0, v1, .bool x.other, .bool x.live] ∧ IntsR F w v0 x.t.params ∧ IntsR F w v1 x.t.results ∧ R64 x.kind
def CtrlBlockR : ElR CtrlBlock := fun F w b o x => ∃ cs, CtrlBlockV F w cs x ∧ ∀ j, j < 5 → w.cell? ⟨b, o + j, none⟩ = cs[j]?
section
variable {F S H : Nat → Prop} {w w' : World} {b o : Nat} {cs : List Value} {x : CtrlBlock}
theorem CtrlBlockV.len (h : CtrlBlockV F w cs x) : cs.length = 5 := by
  obtain ⟨v0, v1, rfl, r0, r1, g0⟩ := h
  rfl
theorem CtrlBlockV.chg (h : CtrlBlockV F w cs x) (hc : Chg S w w') (hd : ∀ k, k < w.heap.size → F k → ¬ S k) : CtrlBlockV F w' cs x := by
  obtain ⟨v0, v1, rfl, r0, r1, g0⟩ := h
  exact ⟨v0, v1, rfl, r0.chg hc hd, r1.chg hc hd, g0⟩
theorem CtrlBlockV.mono (h : CtrlBlockV F w cs x) (hd : ∀ k, k < w.heap.size → F k → H k) : CtrlBlockV H w cs x := by
  obtain ⟨v0, v1, rfl, r0, r1, g0⟩ := h
  exact ⟨v0, v1, rfl, r0.mono hd, r1.mono hd, g0⟩
theorem CtrlBlockV.at (h : CtrlBlockV F w cs x) (hc : ∀ j, j < 5 → w.cell? ⟨b, o + j, none⟩ = cs[j]?) : CtrlBlockR F w b o x := ⟨cs, h, hc⟩
theorem CtrlBlockR.ce : Ce CtrlBlockR := fun {F w b o x} ⟨cs, h, hc⟩ => by
  have h0 := hc 0 (by omega)
  have hl := h.len
  rw [List.getElem?_eq_getElem (by omega)] at h0
  exact cell_lt h0
theorem CtrlBlockR.fr : Fr CtrlBlockR := fun {F S w w' b o x} ⟨cs, h, hcc⟩ hc hF hd => ⟨cs, h.chg hc hd, fun j hj => by
  have h0 := hcc j hj
  have hl := h.len
  rw [List.getElem?_eq_getElem (by omega)] at h0 ⊢
  exact hc.cell (hd _ (cell_lt h0) hF) h0⟩
theorem CtrlBlockR.mo : Mo CtrlBlockR := fun ⟨cs, h, hcc⟩ hd => ⟨cs, h.mono hd, hcc⟩
theorem CtrlBlockR.kind (h : CtrlBlockR F w b o x) : w.cell? ⟨b, o, none⟩ = some (.int .i64 x.kind) := by
  obtain ⟨cs, hv, hc⟩ := h
  obtain ⟨v0, v1, rfl, r0, r1, g0⟩ := hv
  exact hc 0 (by omega)
theorem CtrlBlockV.kind_r (h : CtrlBlockV F w cs x) : R64 x.kind := by
  obtain ⟨v0, v1, rfl, r0, r1, g0⟩ := h
  exact g0
theorem CtrlBlockR.kind_r (h : CtrlBlockR F w b o x) : R64 x.kind := by
  obtain ⟨cs, hv, hc⟩ := h
  exact hv.kind_r
theorem CtrlBlockR.t (h : CtrlBlockR F w b o x) : ApiFuncR F w b (o + 1) x.t := by
  obtain ⟨cs, hv, hc⟩ := h
  obtain ⟨v0, v1, rfl, r0, r1, g0⟩ := hv
  refine ⟨_, ⟨v0, v1, rfl, r0, r1⟩, fun j hj => ?_⟩
  match j, hj with
  | 0, _ => exact hc 1 (by omega)
  | 1, _ => exact hc 2 (by omega)
theorem CtrlBlockR.other (h : CtrlBlockR F w b o x) : w.cell? ⟨b, o + 3, none⟩ = some (.bool x.other) := by
  obtain ⟨cs, hv, hc⟩ := h
  obtain ⟨v0, v1, rfl, r0, r1, g0⟩ := hv
  exact hc 3 (by omega)
theorem CtrlBlockR.live (h : CtrlBlockR F w b o x) : w.cell? ⟨b, o + 4, none⟩ = some (.bool x.live) := by
  obtain ⟨cs, hv, hc⟩ := h
  obtain ⟨v0, v1, rfl, r0, r1, g0⟩ := hv
  exact hc 4 (by omega)
set_option maxRecDepth 100000 in
theorem CtrlBlockV.of (h : Tr w 130 cs) (hcl : cs.length = 5) : ∃ x, CtrlBlockV (fun _ => True) w cs x := by
  obtain ⟨c0, c1, c2, c3, c4, rfl⟩ := len5_ hcl
  obtain ⟨-, hf⟩ := h.struct Tryz.underlying130
  obtain ⟨y0, e0, z0⟩ := (show Tr w _ [c0] from Tr.fld hf 0 0 1 rfl (by kernel_rfl)).int Tryz.underlying35
  cases e0
  obtain ⟨y1, q1⟩ := ApiFuncV.of (show Tr w _ [c1, c2] from Tr.fld hf 1 1 2 rfl (by kernel_rfl)) rfl
  obtain ⟨s1_0, s1_1, e1, t1_0, t1_1⟩ := q1
  cases e1
  obtain ⟨y2, e2⟩ := (show Tr w _ [c3] from Tr.fld hf 2 3 1 rfl (by kernel_rfl)).bool Tryz.underlying4
  cases e2
  obtain ⟨y3, e3⟩ := (show Tr w _ [c4] from Tr.fld hf 3 4 1 rfl (by kernel_rfl)).bool Tryz.underlying4
  cases e3
  exact ⟨⟨y0, y1, y2, y3⟩, ⟨_, _, rfl, t1_0, t1_1, R64_of z0⟩⟩
theorem CtrlBlockR.of (b o : Nat) (cs : List Value) (hcl : cs.length = 5) (hcc : ∀ j, j < 5 → w.cell? ⟨b, o + j, none⟩ = cs[j]?) (h : Tr w 130 cs) : ∃ x, CtrlBlockR (fun _ => True) w b o x := by
  obtain ⟨x, hx⟩ := CtrlBlockV.of h hcl
  exact ⟨x, cs, hx, hcc⟩
end
structure StackPart where
  at_ : Int
  loose : Bool
  deriving Inhabited
def StackPartV (_F : Nat → Prop) (_w : World) (cs : List Value) (x : StackPart) : Prop :=
  cs = [.int .i64 x.at_, .bool x.loose] ∧ R64 x.at_
def StackPartR : ElR StackPart := fun F w b o x => ∃ cs, StackPartV F w cs x ∧ ∀ j, j < 2 → w.cell? ⟨b, o + j, none⟩ = cs[j]?
section
variable {F S H : Nat → Prop} {w w' : World} {b o : Nat} {cs : List Value} {x : StackPart}
theorem StackPartV.len (h : StackPartV F w cs x) : cs.length = 2 := by
  obtain ⟨rfl, g0⟩ := h
  rfl
theorem StackPartV.chg (h : StackPartV F w cs x) (_hc : Chg S w w') (_hd : ∀ k, k < w.heap.size → F k → ¬ S k) : StackPartV F w' cs x := by
  obtain ⟨rfl, g0⟩ := h
  exact ⟨rfl, g0⟩
theorem StackPartV.mono (h : StackPartV F w cs x) (_hd : ∀ k, k < w.heap.size → F k → H k) : StackPartV H w cs x := by
  obtain ⟨rfl, g0⟩ := h
  exact ⟨rfl, g0⟩
theorem StackPartV.at (h : StackPartV F w cs x) (hc : ∀ j, j < 2 → w.cell? ⟨b, o + j, none⟩ = cs[j]?) : StackPartR F w b o x := ⟨cs, h, hc⟩
theorem StackPartR.ce : Ce StackPartR := fun {F w b o x} ⟨cs, h, hc⟩ => by
  have h0 := hc 0 (by omega)
  have hl := h.len
  rw [List.getElem?_eq_getElem (by omega)] at h0
  exact cell_lt h0
theorem StackPartR.fr : Fr StackPartR := fun {F S w w' b o x} ⟨cs, h, hcc⟩ hc hF hd => ⟨cs, h.chg hc hd, fun j hj => by
  have h0 := hcc j hj
  have hl := h.len
  rw [List.getElem?_eq_getElem (by omega)] at h0 ⊢
  exact hc.cell (hd _ (cell_lt h0) hF) h0⟩
theorem StackPartR.mo : Mo StackPartR := fun ⟨cs, h, hcc⟩ hd => ⟨cs, h.mono hd, hcc⟩
theorem StackPartR.at_ (h : StackPartR F w b o x) : w.cell? ⟨b, o, none⟩ = some (.int .i64 x.at_) := by
  obtain ⟨cs, hv, hc⟩ := h
  obtain ⟨rfl, g0⟩ := hv
  exact hc 0 (by omega)
theorem StackPartR.loose (h : StackPartR F w b o x) : w.cell? ⟨b, o + 1, none⟩ = some (.bool x.loose) := by
  obtain ⟨cs, hv, hc⟩ := h
  obtain ⟨rfl, g0⟩ := hv
  exact hc 1 (by omega)
set_option maxRecDepth 100000 in
theorem StackPartV.of (h : Tr w 184 cs) (hcl : cs.length = 2) : ∃ x, StackPartV (fun _ => True) w cs x := by
  obtain ⟨c0, c1, rfl⟩ := len2_ hcl
  obtain ⟨-, hf⟩ := h.struct Tryz.underlying184
  obtain ⟨y0, e0, z0⟩ := (show Tr w _ [c0] from Tr.fld hf 0 0 1 rfl (by kernel_rfl)).int Tryz.underlying3
  cases e0
  obtain ⟨y1, e1⟩ := (show Tr w _ [c1] from Tr.fld hf 1 1 1 rfl (by kernel_rfl)).bool Tryz.underlying4
  cases e1
  exact ⟨⟨y0, y1⟩, ⟨rfl, R64_of z0⟩⟩
theorem StackPartR.of (b o : Nat) (cs : List Value) (hcl : cs.length = 2) (hcc : ∀ j, j < 2 → w.cell? ⟨b, o + j, none⟩ = cs[j]?) (h : Tr w 184 cs) : ∃ x, StackPartR (fun _ => True) w b o x := by
  obtain ⟨x, hx⟩ := StackPartV.of h hcl
  exact ⟨x, cs, hx, hcc⟩
end
structure StackStack where
  types : List Int
  parts : List StackPart
  over : Bool
  deriving Inhabited
def StackStackV (F : Nat → Prop) (w : World) (cs : List Value) (x : StackStack) : Prop :=
  ∃ v0 v1 : Value, cs = [v0, v1, .bool x.over] ∧ IntsR F w v0 x.types ∧ SlR 2 8796093021952 StackPartR F w v1 x.parts
def StackStackR : ElR StackStack := fun F w b o x => ∃ cs, StackStackV F w cs x ∧ ∀ j, j < 3 → w.cell? ⟨b, o + j, none⟩ = cs[j]?
section
variable {F S H : Nat → Prop} {w w' : World} {b o : Nat} {cs : List Value} {x : StackStack}
theorem StackStackV.len (h : StackStackV F w cs x) : cs.length = 3 := by
  obtain ⟨v0, v1, rfl, r0, r1⟩ := h
  rfl
theorem StackStackV.chg (h : StackStackV F w cs x) (hc : Chg S w w') (hd : ∀ k, k < w.heap.size → F k → ¬ S k) : StackStackV F w' cs x := by
  obtain ⟨v0, v1, rfl, r0, r1⟩ := h
  exact ⟨v0, v1, rfl, r0.chg hc hd, SlR.chg StackPartR.fr StackPartR.ce r1 hc hd⟩
theorem StackStackV.mono (h : StackStackV F w cs x) (hd : ∀ k, k < w.heap.size → F k → H k) : StackStackV H w cs x := by
  obtain ⟨v0, v1, rfl, r0, r1⟩ := h
  exact ⟨v0, v1, rfl, r0.mono hd, SlR.mono StackPartR.mo StackPartR.ce r1 hd⟩
theorem StackStackV.at (h : StackStackV F w cs x) (hc : ∀ j, j < 3 → w.cell? ⟨b, o + j, none⟩ = cs[j]?) : StackStackR F w b o x := ⟨cs, h, hc⟩
theorem StackStackR.ce : Ce StackStackR := fun {F w b o x} ⟨cs, h, hc⟩ => by
  have h0 := hc 0 (by omega)
  have hl := h.len
  rw [List.getElem?_eq_getElem (by omega)] at h0
  exact cell_lt h0
theorem StackStackR.fr : Fr StackStackR := fun {F S w w' b o x} ⟨cs, h, hcc⟩ hc hF hd => ⟨cs, h.chg hc hd, fun j hj => by
  have h0 := hcc j hj
  have hl := h.len
  rw [List.getElem?_eq_getElem (by omega)] at h0 ⊢
  exact hc.cell (hd _ (cell_lt h0) hF) h0⟩
theorem StackStackR.mo : Mo StackStackR := fun ⟨cs, h, hcc⟩ hd => ⟨cs, h.mono hd, hcc⟩
theorem StackStackR.types (h : StackStackR F w b o x) : ∃ v, w.cell? ⟨b, o, none⟩ = some v ∧ IntsR F w v x.types := by
  obtain ⟨cs, hv, hc⟩ := h
  obtain ⟨v0, v1, rfl, r0, r1⟩ := hv
  exact ⟨_, hc 0 (by omega), r0⟩
theorem StackStackR.parts (h : StackStackR F w b o x) : ∃ v, w.cell? ⟨b, o + 1, none⟩ = some v ∧ SlR 2 8796093021952 StackPartR F w v x.parts := by
  obtain ⟨cs, hv, hc⟩ := h
  obtain ⟨v0, v1, rfl, r0, r1⟩ := hv
  exact ⟨_, hc 1 (by omega), r1⟩
theorem StackStackR.over (h : StackStackR F w b o x) : w.cell? ⟨b, o + 2, none⟩ = some (.bool x.over) := by
  obtain ⟨cs, hv, hc⟩ := h
  obtain ⟨v0, v1, rfl, r0, r1⟩ := hv
  exact hc 2 (by omega)
set_option maxRecDepth 100000 in
theorem StackStackV.of (h : Tr w 145 cs) (hcl : cs.length = 3) : ∃ x, StackStackV (fun _ => True) w cs x := by
  obtain ⟨c0, c1, c2, rfl⟩ := len3_ hcl
  obtain ⟨-, hf⟩ := h.struct Tryz.underlying145
  obtain ⟨u0, y0, e0, z0⟩ := (show Tr w _ [c0] from Tr.fld hf 0 0 1 rfl (by kernel_rfl)).ints Tryz.underlying34 Tryz.underlying37 (by kernel_rfl) (by kernel_rfl)
  cases e0
  obtain ⟨u1, y1, e1, z1⟩ := (show Tr w _ [c1] from Tr.fld hf 1 1 1 rfl (by kernel_rfl)).sl (s := 2) (bt := 16) (N := 8796093021952) StackPartR Tryz.underlying143 (by kernel_rfl) (by kernel_rfl) (by omega) (fun n hn => by omega) StackPartR.of
  cases e1
  obtain ⟨y2, e2⟩ := (show Tr w _ [c2] from Tr.fld hf 2 2 1 rfl (by kernel_rfl)).bool Tryz.underlying4
  cases e2
  exact ⟨⟨y0, y1, y2⟩, ⟨_, _, rfl, z0, z1⟩⟩
theorem StackStackR.of (b o : Nat) (cs : List Value) (hcl : cs.length = 3) (hcc : ∀ j, j < 3 → w.cell? ⟨b, o + j, none⟩ = cs[j]?) (h : Tr w 145 cs) : ∃ x, StackStackR (fun _ => True) w b o x := by
  obtain ⟨x, hx⟩ := StackStackV.of h hcl
  exact ⟨x, cs, hx, hcc⟩
end
structure R05Row where
  op : Int
  name : ByteArray
  imm : Int
  deriving Inhabited
def R05RowV (_F : Nat → Prop) (_w : World) (cs : List Value) (x : R05Row) : Prop :=
  cs = [.int .i64 x.op, .string x.name, .int .i64 x.imm] ∧ R64 x.op ∧ x.name.size ≤ 140737488351232 ∧ R64 x.imm
def R05RowR : ElR R05Row := fun F w b o x => ∃ cs, R05RowV F w cs x ∧ ∀ j, j < 3 → w.cell? ⟨b, o + j, none⟩ = cs[j]?
section
variable {F S H : Nat → Prop} {w w' : World} {b o : Nat} {cs : List Value} {x : R05Row}
theorem R05RowV.len (h : R05RowV F w cs x) : cs.length = 3 := by
  obtain ⟨rfl, g0, g1, g2⟩ := h
  rfl
theorem R05RowV.chg (h : R05RowV F w cs x) (_hc : Chg S w w') (_hd : ∀ k, k < w.heap.size → F k → ¬ S k) : R05RowV F w' cs x := by
  obtain ⟨rfl, g0, g1, g2⟩ := h
  exact ⟨rfl, g0, g1, g2⟩
theorem R05RowV.mono (h : R05RowV F w cs x) (_hd : ∀ k, k < w.heap.size → F k → H k) : R05RowV H w cs x := by
  obtain ⟨rfl, g0, g1, g2⟩ := h
  exact ⟨rfl, g0, g1, g2⟩
theorem R05RowV.at (h : R05RowV F w cs x) (hc : ∀ j, j < 3 → w.cell? ⟨b, o + j, none⟩ = cs[j]?) : R05RowR F w b o x := ⟨cs, h, hc⟩
theorem R05RowR.ce : Ce R05RowR := fun {F w b o x} ⟨cs, h, hc⟩ => by
  have h0 := hc 0 (by omega)
  have hl := h.len
  rw [List.getElem?_eq_getElem (by omega)] at h0
  exact cell_lt h0
theorem R05RowR.fr : Fr R05RowR := fun {F S w w' b o x} ⟨cs, h, hcc⟩ hc hF hd => ⟨cs, h.chg hc hd, fun j hj => by
  have h0 := hcc j hj
  have hl := h.len
  rw [List.getElem?_eq_getElem (by omega)] at h0 ⊢
  exact hc.cell (hd _ (cell_lt h0) hF) h0⟩
theorem R05RowR.mo : Mo R05RowR := fun ⟨cs, h, hcc⟩ hd => ⟨cs, h.mono hd, hcc⟩
theorem R05RowR.op (h : R05RowR F w b o x) : w.cell? ⟨b, o, none⟩ = some (.int .i64 x.op) := by
  obtain ⟨cs, hv, hc⟩ := h
  obtain ⟨rfl, g0, g1, g2⟩ := hv
  exact hc 0 (by omega)
theorem R05RowR.name (h : R05RowR F w b o x) : w.cell? ⟨b, o + 1, none⟩ = some (.string x.name) := by
  obtain ⟨cs, hv, hc⟩ := h
  obtain ⟨rfl, g0, g1, g2⟩ := hv
  exact hc 1 (by omega)
theorem R05RowR.imm (h : R05RowR F w b o x) : w.cell? ⟨b, o + 2, none⟩ = some (.int .i64 x.imm) := by
  obtain ⟨cs, hv, hc⟩ := h
  obtain ⟨rfl, g0, g1, g2⟩ := hv
  exact hc 2 (by omega)
set_option maxRecDepth 100000 in
theorem R05RowV.of (h : Tr w 212 cs) (hcl : cs.length = 3) : ∃ x, R05RowV (fun _ => True) w cs x := by
  obtain ⟨c0, c1, c2, rfl⟩ := len3_ hcl
  obtain ⟨-, hf⟩ := h.struct Tryz.underlying212
  obtain ⟨y0, e0, z0⟩ := (show Tr w _ [c0] from Tr.fld hf 0 0 1 rfl (by kernel_rfl)).int Tryz.underlying35
  cases e0
  obtain ⟨y1, e1, z1⟩ := (show Tr w _ [c1] from Tr.fld hf 1 1 1 rfl (by kernel_rfl)).string Tryz.underlying9
  rw [reach_val] at z1
  cases e1
  obtain ⟨y2, e2, z2⟩ := (show Tr w _ [c2] from Tr.fld hf 2 2 1 rfl (by kernel_rfl)).int Tryz.underlying3
  cases e2
  exact ⟨⟨y0, y1, y2⟩, ⟨rfl, R64_of z0, z1, R64_of z2⟩⟩
theorem R05RowR.of (b o : Nat) (cs : List Value) (hcl : cs.length = 3) (hcc : ∀ j, j < 3 → w.cell? ⟨b, o + j, none⟩ = cs[j]?) (h : Tr w 212 cs) : ∃ x, R05RowR (fun _ => True) w b o x := by
  obtain ⟨x, hx⟩ := R05RowV.of h hcl
  exact ⟨x, cs, hx, hcc⟩
end
structure OpcodeRow where
  first : Int
  head : ByteArray
  tails : ByteArray
  deriving Inhabited
def OpcodeRowV (_F : Nat → Prop) (_w : World) (cs : List Value) (x : OpcodeRow) : Prop :=
  cs = [.int .i64 x.first, .string x.head, .string x.tails] ∧ R64 x.first ∧ x.head.size ≤ 140737488351232 ∧ x.tails.size ≤ 140737488351232
def OpcodeRowR : ElR OpcodeRow := fun F w b o x => ∃ cs, OpcodeRowV F w cs x ∧ ∀ j, j < 3 → w.cell? ⟨b, o + j, none⟩ = cs[j]?
section
variable {F S H : Nat → Prop} {w w' : World} {b o : Nat} {cs : List Value} {x : OpcodeRow}
theorem OpcodeRowV.len (h : OpcodeRowV F w cs x) : cs.length = 3 := by
  obtain ⟨rfl, g0, g1, g2⟩ := h
  rfl
theorem OpcodeRowV.chg (h : OpcodeRowV F w cs x) (_hc : Chg S w w') (_hd : ∀ k, k < w.heap.size → F k → ¬ S k) : OpcodeRowV F w' cs x := by
  obtain ⟨rfl, g0, g1, g2⟩ := h
  exact ⟨rfl, g0, g1, g2⟩
theorem OpcodeRowV.mono (h : OpcodeRowV F w cs x) (_hd : ∀ k, k < w.heap.size → F k → H k) : OpcodeRowV H w cs x := by
  obtain ⟨rfl, g0, g1, g2⟩ := h
  exact ⟨rfl, g0, g1, g2⟩
theorem OpcodeRowV.at (h : OpcodeRowV F w cs x) (hc : ∀ j, j < 3 → w.cell? ⟨b, o + j, none⟩ = cs[j]?) : OpcodeRowR F w b o x := ⟨cs, h, hc⟩
theorem OpcodeRowR.ce : Ce OpcodeRowR := fun {F w b o x} ⟨cs, h, hc⟩ => by
  have h0 := hc 0 (by omega)
  have hl := h.len
  rw [List.getElem?_eq_getElem (by omega)] at h0
  exact cell_lt h0
theorem OpcodeRowR.fr : Fr OpcodeRowR := fun {F S w w' b o x} ⟨cs, h, hcc⟩ hc hF hd => ⟨cs, h.chg hc hd, fun j hj => by
  have h0 := hcc j hj
  have hl := h.len
  rw [List.getElem?_eq_getElem (by omega)] at h0 ⊢
  exact hc.cell (hd _ (cell_lt h0) hF) h0⟩
theorem OpcodeRowR.mo : Mo OpcodeRowR := fun ⟨cs, h, hcc⟩ hd => ⟨cs, h.mono hd, hcc⟩
theorem OpcodeRowR.first (h : OpcodeRowR F w b o x) : w.cell? ⟨b, o, none⟩ = some (.int .i64 x.first) := by
  obtain ⟨cs, hv, hc⟩ := h
  obtain ⟨rfl, g0, g1, g2⟩ := hv
  exact hc 0 (by omega)
theorem OpcodeRowR.head (h : OpcodeRowR F w b o x) : w.cell? ⟨b, o + 1, none⟩ = some (.string x.head) := by
  obtain ⟨cs, hv, hc⟩ := h
  obtain ⟨rfl, g0, g1, g2⟩ := hv
  exact hc 1 (by omega)
theorem OpcodeRowR.tails (h : OpcodeRowR F w b o x) : w.cell? ⟨b, o + 2, none⟩ = some (.string x.tails) := by
  obtain ⟨cs, hv, hc⟩ := h
  obtain ⟨rfl, g0, g1, g2⟩ := hv
  exact hc 2 (by omega)
set_option maxRecDepth 100000 in
theorem OpcodeRowV.of (h : Tr w 247 cs) (hcl : cs.length = 3) : ∃ x, OpcodeRowV (fun _ => True) w cs x := by
  obtain ⟨c0, c1, c2, rfl⟩ := len3_ hcl
  obtain ⟨-, hf⟩ := h.struct Tryz.underlying247
  obtain ⟨y0, e0, z0⟩ := (show Tr w _ [c0] from Tr.fld hf 0 0 1 rfl (by kernel_rfl)).int Tryz.underlying35
  cases e0
  obtain ⟨y1, e1, z1⟩ := (show Tr w _ [c1] from Tr.fld hf 1 1 1 rfl (by kernel_rfl)).string Tryz.underlying9
  rw [reach_val] at z1
  cases e1
  obtain ⟨y2, e2, z2⟩ := (show Tr w _ [c2] from Tr.fld hf 2 2 1 rfl (by kernel_rfl)).string Tryz.underlying9
  rw [reach_val] at z2
  cases e2
  exact ⟨⟨y0, y1, y2⟩, ⟨rfl, R64_of z0, z1, z2⟩⟩
theorem OpcodeRowR.of (b o : Nat) (cs : List Value) (hcl : cs.length = 3) (hcc : ∀ j, j < 3 → w.cell? ⟨b, o + j, none⟩ = cs[j]?) (h : Tr w 247 cs) : ∃ x, OpcodeRowR (fun _ => True) w b o x := by
  obtain ⟨x, hx⟩ := OpcodeRowV.of h hcl
  exact ⟨x, cs, hx, hcc⟩
end
end Go.Proofs.YtgbgnipidakdhaaGreatDoor
