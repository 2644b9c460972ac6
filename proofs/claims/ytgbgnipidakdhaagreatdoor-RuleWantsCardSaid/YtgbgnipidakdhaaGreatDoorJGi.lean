/- What the index spaces answer. -/
import Derived.Test.YtgbgnipidakdhaaGreatDoorJGq
import Derived.Test.YtgbgnipidakdhaaGreatDoorJSg
import Derived.Test.YtgbgnipidakdhaaGreatDoorJM4
import Derived.Test.YtgbgnipidakdhaaGreatDoorJAw
namespace Go.Proofs.YtgbgnipidakdhaaGreatDoor
open Go.RowKit
set_option maxRecDepth 100000
def RowC (s : Nat) (w : World) (v : Value) (n : Nat) (cs : List Value) : Prop := ∃ p c, v = .slice p n c ∧ cs.length = n * s ∧ (n = 0 ∨ ∃ b o, p = some ⟨b, o, none⟩ ∧ ∀ j, j < cs.length → w.cell? ⟨b, o + j, none⟩ = cs[j]?)
theorem RowC.ext {s n : Nat} {w w' : World} {v : Value} {cs : List Value} (h : RowC s w v n cs) (hx : Ext w w') : RowC s w' v n cs := by
  obtain ⟨p, c, rfl, hl, h⟩ := h
  refine ⟨p, c, rfl, hl, ?_⟩
  rcases h with h | ⟨b, o, rfl, h⟩
  · exact .inl h
  · exact .inr ⟨b, o, rfl, fun j hj => by rw [List.getElem?_eq_getElem hj]; exact hx.cell (by rw [h j hj, List.getElem?_eq_getElem hj])⟩
theorem own_rowC {B T s n : Nat} {w : World} {v : Value} {cs : List Value} (h : w.ownsRow B T s v n cs) : RowC s w v n cs := by
  obtain ⟨p, c, rfl, _, _, hg⟩ := own_slice h
  refine ⟨p, c, rfl, h.1, ?_⟩
  by_cases h0 : n = 0
  · exact .inl h0
  · obtain ⟨g, rfl, _, _⟩ := hg (Nat.pos_of_ne_zero h0)
    exact .inr ⟨g, 0, rfl, fun j hj => by rw [Nat.zero_add, List.getElem?_eq_getElem hj]; exact own_get h (List.getElem?_eq_getElem hj)⟩
theorem RowC.cells {α : Type} [Inhabited α] {s n : Nat} {w : World} {p : Option Addr} {c : Nat} {l : List α} (cf : α → List Value) (hs : ∀ x, (cf x).length = s) (h : RowC s w (.slice p n c) l.length (l.flatMap cf)) {i : Nat} (hi : i < l.length) : ∃ b o, p = some ⟨b, o, none⟩ ∧ ∀ j, j < s → w.cell? ⟨b, o + i * s + j, none⟩ = (cf (ix l i))[j]? := by
  obtain ⟨p', c', e, hl, h⟩ := h
  cases e
  rcases h with h | ⟨b, o, rfl, h⟩
  · omega
  · refine ⟨b, o, rfl, fun j hj => ?_⟩
    rw [Nat.add_assoc, h _ (by rw [hl]; have := Nat.mul_le_mul_right s (show i + 1 ≤ l.length from hi); rw [Nat.succ_mul] at this; omega), flatMap_get cf hs l i j hi hj]
theorem RowC.slice {s n : Nat} {w : World} {v : Value} {cs : List Value} (h : RowC s w v n cs) : ∃ p c, v = .slice p n c := by obtain ⟨p, c, e, _⟩ := h; exact ⟨p, c, e⟩
theorem atK_in {α : Type} [Inhabited α] {l : List α} {j : Nat} (h : j < l.length) : atK l (j : Int) = some (ix l j) := by unfold atK; rw [if_pos ⟨by omega, by omega⟩]; rfl
theorem atK_out {α : Type} [Inhabited α] {l : List α} {i : Int} (h : ¬ (0 ≤ i ∧ i < l.length)) : atK l i = none := by unfold atK; rw [if_neg h]
def noT : ApiTable := ⟨0, ⟨0, 0, false⟩⟩
def noL : ApiLimits := ⟨0, 0, false⟩
def noG : ApiGlobal := ⟨0, false⟩
theorem at_Table (l : List ApiTable) (v : Value) (i : Int) (w : World) (h : RowC 4 w v l.length (l.flatMap tblC)) : Calls G.P 163 #[v, .int .i64 i] w fun e w' => e = .returned (.tuple #[.agg (tblC ((atK l i).getD noT)).toArray, .bool (atK l i).isSome]) ∧ Ext w w' := by
  obtain ⟨p, c, rfl⟩ := h.slice
  by_cases hin : 0 ≤ i ∧ i < l.length
  · obtain ⟨j, rfl⟩ := Int.eq_ofNat_of_zero_le hin.1
    have hj : j < l.length := by omega
    obtain ⟨b, o, rfl, hc⟩ := h.cells tblC (fun _ => rfl) hj
    have e := atK_in hj
    refine enterH (l := [.slice (some ⟨b, o, none⟩) l.length c, .int .i64 j]) Tryz.func163 rfl Tryz.ntmps163 rfl (Ok.start w) ?_
    refine CdH.der (Cs b (o + j * 4) (tblC (ix l j))) (fun w' hw' => by intro k hk; have := hc k hk; rw [show (tblC (ix l j))[k]? = some ((tblC (ix l j))[k]'hk) from List.getElem?_eq_getElem hk] at this ⊢; exact (show Ext w w' from hw' _ wmem).cell this) ?_
    dsimp only [tblC]
    repeat' (first | refine wau ?_ | (refine OpsH.alloc (t := TFn) [Value.slice none 0 0, Value.slice none 0 0] rfl rfl rfl fun b_ => ?_) | (refine OpsH.alloc (t := TTbl) [Value.int .i64 0, Value.int .i64 0, Value.int .i64 0, Value.bool false] rfl rfl rfl fun b_ => ?_) | (refine OpsH.alloc (t := TLim) [Value.int .i64 0, Value.int .i64 0, Value.bool false] rfl rfl rfl fun b_ => ?_) | (refine OpsH.alloc (t := TGlo) [Value.int .i64 0, Value.bool false] rfl rfl rfl fun b_ => ?_) | (refine wspl ?_ ?_ <;> intro hc_))
    all_goals exact FinH.ret2c (.inl rfl) rfl rfl rfl rfl rfl wup rfl rfl fun w' hw' => ⟨by rw [e]; rfl, hw'.at⟩
  · have e := atK_out hin
    refine enterH (l := [.slice p l.length c, .int .i64 i]) Tryz.func163 rfl Tryz.ntmps163 rfl (Ok.start w) ?_
    repeat' (first | refine wau ?_ | (refine OpsH.alloc (t := TFn) [Value.slice none 0 0, Value.slice none 0 0] rfl rfl rfl fun b_ => ?_) | (refine OpsH.alloc (t := TTbl) [Value.int .i64 0, Value.int .i64 0, Value.int .i64 0, Value.bool false] rfl rfl rfl fun b_ => ?_) | (refine OpsH.alloc (t := TLim) [Value.int .i64 0, Value.int .i64 0, Value.bool false] rfl rfl rfl fun b_ => ?_) | (refine OpsH.alloc (t := TGlo) [Value.int .i64 0, Value.bool false] rfl rfl rfl fun b_ => ?_) | (refine wspl ?_ ?_ <;> intro hc_))
    all_goals first | omega | exact FinH.ret2c (.inl rfl) rfl rfl rfl rfl rfl wup rfl rfl fun w' hw' => ⟨by rw [e]; rfl, hw'.at⟩
theorem RowC.cellI {w : World} {n : Nat} {p : Option Addr} {c : Nat} {l : List Int} (h : RowC 1 w (.slice p n c) l.length (l.map (Value.int .i64))) {i : Nat} (hi : i < l.length) : ∃ b o, p = some ⟨b, o, none⟩ ∧ w.cell? ⟨b, o + i, none⟩ = some (.int .i64 (ix l i)) := by
  obtain ⟨p', c', e, hl, h⟩ := h
  cases e
  rcases h with h | ⟨b, o, rfl, h⟩
  · omega
  · exact ⟨b, o, rfl, by rw [h i (by simpa using hi), List.getElem?_map, ix_some hi]; rfl⟩
theorem at_Limits (l : List ApiLimits) (v : Value) (i : Int) (w : World) (h : RowC 3 w v l.length (l.flatMap limC)) : Calls G.P 166 #[v, .int .i64 i] w fun e w' => e = .returned (.tuple #[.agg (limC ((atK l i).getD noL)).toArray, .bool (atK l i).isSome]) ∧ Ext w w' := by
  obtain ⟨p, c, rfl⟩ := h.slice
  by_cases hin : 0 ≤ i ∧ i < l.length
  · obtain ⟨j, rfl⟩ := Int.eq_ofNat_of_zero_le hin.1
    have hj : j < l.length := by omega
    obtain ⟨b, o, rfl, hc⟩ := h.cells limC (fun _ => rfl) hj
    have e := atK_in hj
    refine enterH (l := [.slice (some ⟨b, o, none⟩) l.length c, .int .i64 j]) Tryz.func166 rfl Tryz.ntmps166 rfl (Ok.start w) ?_
    refine CdH.der (Cs b (o + j * 3) (limC (ix l j))) (fun w' hw' => by intro k hk; have := hc k hk; rw [show (limC (ix l j))[k]? = some ((limC (ix l j))[k]'hk) from List.getElem?_eq_getElem hk] at this ⊢; exact (show Ext w w' from hw' _ wmem).cell this) ?_
    dsimp only [limC]
    repeat' (first | refine wau ?_ | (refine OpsH.alloc (t := TFn) [Value.slice none 0 0, Value.slice none 0 0] rfl rfl rfl fun b_ => ?_) | (refine OpsH.alloc (t := TTbl) [Value.int .i64 0, Value.int .i64 0, Value.int .i64 0, Value.bool false] rfl rfl rfl fun b_ => ?_) | (refine OpsH.alloc (t := TLim) [Value.int .i64 0, Value.int .i64 0, Value.bool false] rfl rfl rfl fun b_ => ?_) | (refine OpsH.alloc (t := TGlo) [Value.int .i64 0, Value.bool false] rfl rfl rfl fun b_ => ?_) | (refine wspl ?_ ?_ <;> intro hc_))
    all_goals exact FinH.ret2c (.inl rfl) rfl rfl rfl rfl rfl wup rfl rfl fun w' hw' => ⟨by rw [e]; rfl, hw'.at⟩
  · have e := atK_out hin
    refine enterH (l := [.slice p l.length c, .int .i64 i]) Tryz.func166 rfl Tryz.ntmps166 rfl (Ok.start w) ?_
    repeat' (first | refine wau ?_ | (refine OpsH.alloc (t := TFn) [Value.slice none 0 0, Value.slice none 0 0] rfl rfl rfl fun b_ => ?_) | (refine OpsH.alloc (t := TTbl) [Value.int .i64 0, Value.int .i64 0, Value.int .i64 0, Value.bool false] rfl rfl rfl fun b_ => ?_) | (refine OpsH.alloc (t := TLim) [Value.int .i64 0, Value.int .i64 0, Value.bool false] rfl rfl rfl fun b_ => ?_) | (refine OpsH.alloc (t := TGlo) [Value.int .i64 0, Value.bool false] rfl rfl rfl fun b_ => ?_) | (refine wspl ?_ ?_ <;> intro hc_))
    all_goals first | omega | exact FinH.ret2c (.inl rfl) rfl rfl rfl rfl rfl wup rfl rfl fun w' hw' => ⟨by rw [e]; rfl, hw'.at⟩
theorem at_Global (l : List ApiGlobal) (v : Value) (i : Int) (w : World) (h : RowC 2 w v l.length (l.flatMap gloC)) : Calls G.P 164 #[v, .int .i64 i] w fun e w' => e = .returned (.tuple #[.agg (gloC ((atK l i).getD noG)).toArray, .bool (atK l i).isSome]) ∧ Ext w w' := by
  obtain ⟨p, c, rfl⟩ := h.slice
  by_cases hin : 0 ≤ i ∧ i < l.length
  · obtain ⟨j, rfl⟩ := Int.eq_ofNat_of_zero_le hin.1
    have hj : j < l.length := by omega
    obtain ⟨b, o, rfl, hc⟩ := h.cells gloC (fun _ => rfl) hj
    have e := atK_in hj
    refine enterH (l := [.slice (some ⟨b, o, none⟩) l.length c, .int .i64 j]) Tryz.func164 rfl Tryz.ntmps164 rfl (Ok.start w) ?_
    refine CdH.der (Cs b (o + j * 2) (gloC (ix l j))) (fun w' hw' => by intro k hk; have := hc k hk; rw [show (gloC (ix l j))[k]? = some ((gloC (ix l j))[k]'hk) from List.getElem?_eq_getElem hk] at this ⊢; exact (show Ext w w' from hw' _ wmem).cell this) ?_
    dsimp only [gloC]
    repeat' (first | refine wau ?_ | (refine OpsH.alloc (t := TFn) [Value.slice none 0 0, Value.slice none 0 0] rfl rfl rfl fun b_ => ?_) | (refine OpsH.alloc (t := TTbl) [Value.int .i64 0, Value.int .i64 0, Value.int .i64 0, Value.bool false] rfl rfl rfl fun b_ => ?_) | (refine OpsH.alloc (t := TLim) [Value.int .i64 0, Value.int .i64 0, Value.bool false] rfl rfl rfl fun b_ => ?_) | (refine OpsH.alloc (t := TGlo) [Value.int .i64 0, Value.bool false] rfl rfl rfl fun b_ => ?_) | (refine wspl ?_ ?_ <;> intro hc_))
    all_goals exact FinH.ret2c (.inl rfl) rfl rfl rfl rfl rfl wup rfl rfl fun w' hw' => ⟨by rw [e]; rfl, hw'.at⟩
  · have e := atK_out hin
    refine enterH (l := [.slice p l.length c, .int .i64 i]) Tryz.func164 rfl Tryz.ntmps164 rfl (Ok.start w) ?_
    repeat' (first | refine wau ?_ | (refine OpsH.alloc (t := TFn) [Value.slice none 0 0, Value.slice none 0 0] rfl rfl rfl fun b_ => ?_) | (refine OpsH.alloc (t := TTbl) [Value.int .i64 0, Value.int .i64 0, Value.int .i64 0, Value.bool false] rfl rfl rfl fun b_ => ?_) | (refine OpsH.alloc (t := TLim) [Value.int .i64 0, Value.int .i64 0, Value.bool false] rfl rfl rfl fun b_ => ?_) | (refine OpsH.alloc (t := TGlo) [Value.int .i64 0, Value.bool false] rfl rfl rfl fun b_ => ?_) | (refine wspl ?_ ?_ <;> intro hc_))
    all_goals first | omega | exact FinH.ret2c (.inl rfl) rfl rfl rfl rfl rfl wup rfl rfl fun w' hw' => ⟨by rw [e]; rfl, hw'.at⟩
theorem at_int (l : List Int) (v : Value) (i : Int) (w : World) (h : RowC 1 w v l.length (l.map (Value.int .i64))) : Calls G.P 161 #[v, .int .i64 i] w fun e w' => e = .returned (.tuple #[.int .i64 ((atK l i).getD 0), .bool (atK l i).isSome]) ∧ Ext w w' := by
  obtain ⟨p, c, rfl⟩ := h.slice
  by_cases hin : 0 ≤ i ∧ i < l.length
  · obtain ⟨j, rfl⟩ := Int.eq_ofNat_of_zero_le hin.1
    have hj : j < l.length := by omega
    obtain ⟨b, o, rfl, hc⟩ := h.cellI hj
    have e := atK_in hj
    refine enterH (l := [.slice (some ⟨b, o, none⟩) l.length c, .int .i64 j]) Tryz.func161 rfl Tryz.ntmps161 rfl (Ok.start w) ?_
    repeat' (first | refine wau ?_ | (refine OpsH.alloc (t := TFn) [Value.slice none 0 0, Value.slice none 0 0] rfl rfl rfl fun b_ => ?_) | (refine OpsH.alloc (t := TTbl) [Value.int .i64 0, Value.int .i64 0, Value.int .i64 0, Value.bool false] rfl rfl rfl fun b_ => ?_) | (refine OpsH.alloc (t := TLim) [Value.int .i64 0, Value.int .i64 0, Value.bool false] rfl rfl rfl fun b_ => ?_) | (refine OpsH.alloc (t := TGlo) [Value.int .i64 0, Value.bool false] rfl rfl rfl fun b_ => ?_) | (refine wspl ?_ ?_ <;> intro hc_))
    all_goals exact FinH.ret2 rfl rfl rfl fun w' hw' => ⟨by rw [e]; rfl, hw'.at⟩
  · have e := atK_out hin
    refine enterH (l := [.slice p l.length c, .int .i64 i]) Tryz.func161 rfl Tryz.ntmps161 rfl (Ok.start w) ?_
    repeat' (first | refine wau ?_ | (refine OpsH.alloc (t := TFn) [Value.slice none 0 0, Value.slice none 0 0] rfl rfl rfl fun b_ => ?_) | (refine OpsH.alloc (t := TTbl) [Value.int .i64 0, Value.int .i64 0, Value.int .i64 0, Value.bool false] rfl rfl rfl fun b_ => ?_) | (refine OpsH.alloc (t := TLim) [Value.int .i64 0, Value.int .i64 0, Value.bool false] rfl rfl rfl fun b_ => ?_) | (refine OpsH.alloc (t := TGlo) [Value.int .i64 0, Value.bool false] rfl rfl rfl fun b_ => ?_) | (refine wspl ?_ ?_ <;> intro hc_))
    all_goals first | omega | exact FinH.ret2 rfl rfl rfl fun w' hw' => ⟨by rw [e]; rfl, hw'.at⟩
theorem at_Val (l : List Int) (v : Value) (i : Int) (w : World) (h : RowC 1 w v l.length (l.map (Value.int .i64))) : Calls G.P 165 #[v, .int .i64 i] w fun e w' => e = .returned (.tuple #[.int .i64 ((atK l i).getD 0), .bool (atK l i).isSome]) ∧ Ext w w' := by
  obtain ⟨p, c, rfl⟩ := h.slice
  by_cases hin : 0 ≤ i ∧ i < l.length
  · obtain ⟨j, rfl⟩ := Int.eq_ofNat_of_zero_le hin.1
    have hj : j < l.length := by omega
    obtain ⟨b, o, rfl, hc⟩ := h.cellI hj
    have e := atK_in hj
    refine enterH (l := [.slice (some ⟨b, o, none⟩) l.length c, .int .i64 j]) Tryz.func165 rfl Tryz.ntmps165 rfl (Ok.start w) ?_
    repeat' (first | refine wau ?_ | (refine OpsH.alloc (t := TFn) [Value.slice none 0 0, Value.slice none 0 0] rfl rfl rfl fun b_ => ?_) | (refine OpsH.alloc (t := TTbl) [Value.int .i64 0, Value.int .i64 0, Value.int .i64 0, Value.bool false] rfl rfl rfl fun b_ => ?_) | (refine OpsH.alloc (t := TLim) [Value.int .i64 0, Value.int .i64 0, Value.bool false] rfl rfl rfl fun b_ => ?_) | (refine OpsH.alloc (t := TGlo) [Value.int .i64 0, Value.bool false] rfl rfl rfl fun b_ => ?_) | (refine wspl ?_ ?_ <;> intro hc_))
    all_goals exact FinH.ret2 rfl rfl rfl fun w' hw' => ⟨by rw [e]; rfl, hw'.at⟩
  · have e := atK_out hin
    refine enterH (l := [.slice p l.length c, .int .i64 i]) Tryz.func165 rfl Tryz.ntmps165 rfl (Ok.start w) ?_
    repeat' (first | refine wau ?_ | (refine OpsH.alloc (t := TFn) [Value.slice none 0 0, Value.slice none 0 0] rfl rfl rfl fun b_ => ?_) | (refine OpsH.alloc (t := TTbl) [Value.int .i64 0, Value.int .i64 0, Value.int .i64 0, Value.bool false] rfl rfl rfl fun b_ => ?_) | (refine OpsH.alloc (t := TLim) [Value.int .i64 0, Value.int .i64 0, Value.bool false] rfl rfl rfl fun b_ => ?_) | (refine OpsH.alloc (t := TGlo) [Value.int .i64 0, Value.bool false] rfl rfl rfl fun b_ => ?_) | (refine wspl ?_ ?_ <;> intro hc_))
    all_goals first | omega | exact FinH.ret2 rfl rfl rfl fun w' hw' => ⟨by rw [e]; rfl, hw'.at⟩
def noI : ApiImport := ⟨⟨#[]⟩, ⟨#[]⟩, 0, 0, noT, noL, noG⟩
theorem cs_ext {w : World} {R : List (World → Prop)} {b o s : Nat} {cs : List Value} (hc : ∀ j, j < s → w.cell? ⟨b, o + j, none⟩ = cs[j]?) (hl : cs.length = s) (hR : Ext w ∈ R) : ∀ w', (∀ r, r ∈ R → r w') → Cs b o cs w' := fun w' hw' k hk => by
  have h := hc k (by omega)
  rw [List.getElem?_eq_getElem hk] at h ⊢
  exact (show Ext w w' from hw' _ hR).cell h
theorem global_rd {F : Nat → Prop} {w : World} {b o : Nat} {x : ApiGlobalDef} (h : ApiGlobalDefR F w b o x) : ∀ j, j < 2 → w.cell? ⟨b, o + j, none⟩ = (gloC x.type_)[j]? := by
  obtain ⟨cs, hV, hc⟩ := h
  obtain ⟨v0, rfl, -⟩ := hV
  intro j hj
  match j, hj with
  | 0, _ => exact hc 0 (by omega)
  | 1, _ => exact hc 1 (by omega)
theorem imp_rd {F : Nat → Prop} {w : World} {b o : Nat} {x : ApiImport} (h : ApiImportR F w b o x) : ∀ j, j < 13 → w.cell? ⟨b, o + j, none⟩ = (impCells x)[j]? := by
  obtain ⟨cs, hV, hc⟩ := h
  obtain ⟨rfl, -⟩ := hV
  exact hc
theorem ref08_Type (F : Nat → Prop) (m : ApiModule) (i : Int) (cs : List Value) (w : World) (hm : ApiModuleV F w cs m) : Calls G.P 119 #[.agg cs.toArray, .int .i64 i] w (Gives (FnD ((atK m.types i).getD noF)) (fun x => .tuple #[.agg #[x.1, x.2], .bool (atK m.types i).isSome]) F w) := by
  obtain ⟨v0, v1, v2, v3, v4, v5, v6, v7, v8, v9, rfl, r0, r1, r2, r3, r4, r5, r6, r7, r8, r9, g0⟩ := hm
  obtain ⟨p0, c0, rfl, l0⟩ := r0.slice
  by_cases hin : 0 ≤ i ∧ i < m.types.length
  · obtain ⟨j, rfl⟩ := Int.eq_ofNat_of_zero_le hin.1
    have hj : j < m.types.length := by omega
    obtain ⟨b, o, rfl, hF, cs2, ⟨u0, u1, rfl, q0, q1⟩, hc⟩ := r0.el hj
    obtain ⟨x0, y0, rfl, z0⟩ := q0.slice
    obtain ⟨x1, y1, rfl, z1⟩ := q1.slice
    rw [atK_in hj]
    refine enterH (l := [_, _]) Tryz.func119 rfl Tryz.ntmps119 rfl (Ok.start w) ?_
    refine CdH.der (Cs b (o + j * 2) _) (cs_ext hc rfl wmem) ?_
    repeat' (first | refine wau ?_ | (refine qbxq fun b_ => ?_) | (refine qal2q fun b_ => ?_) | (refine qal5q fun b_ => ?_) | (refine qal4q fun b_ => ?_) | (refine qal3q fun b_ => ?_) | (refine OpsH.isAlloc (t := TImp) ?_; refine OpsH.alloc (t := TImp) [Value.string ⟨#[]⟩, Value.string ⟨#[]⟩, Value.int .i64 0, Value.int .i64 0, Value.int .i64 0, Value.int .i64 0, Value.int .i64 0, Value.bool false, Value.int .i64 0, Value.int .i64 0, Value.bool false, Value.int .i64 0, Value.bool false] rfl rfl rfl fun b_ => ?_) | (refine wspl ?_ ?_ <;> intro hc_))
    all_goals exact FinH.ret2c (.inl rfl) rfl rfl rfl rfl rfl wup rfl rfl fun w' hw' => ⟨⟨(_, _), rfl, FnD.mono (D := F) ⟨q0.chg (show Ext w w' from hw'.at) (fun _ _ _ h => h), q1.chg (show Ext w w' from hw'.at) (fun _ _ _ h => h)⟩ (fun _ h => .inl h)⟩, hw'.at⟩
  · rw [atK_out hin]
    refine enterH (l := [_, _]) Tryz.func119 rfl Tryz.ntmps119 rfl (Ok.start w) ?_
    repeat' (first | refine wau ?_ | (refine qbxq fun b_ => ?_) | (refine qal2q fun b_ => ?_) | (refine qal5q fun b_ => ?_) | (refine qal4q fun b_ => ?_) | (refine qal3q fun b_ => ?_) | (refine OpsH.isAlloc (t := TImp) ?_; refine OpsH.alloc (t := TImp) [Value.string ⟨#[]⟩, Value.string ⟨#[]⟩, Value.int .i64 0, Value.int .i64 0, Value.int .i64 0, Value.int .i64 0, Value.int .i64 0, Value.bool false, Value.int .i64 0, Value.int .i64 0, Value.bool false, Value.int .i64 0, Value.bool false] rfl rfl rfl fun b_ => ?_) | (refine wspl ?_ ?_ <;> intro hc_))
    all_goals first | omega | exact FinH.ret2c (.inl rfl) rfl rfl rfl rfl rfl wup rfl rfl fun w' hw' => ⟨⟨(_, _), rfl, FnD.nil _ _⟩, hw'.at⟩
theorem impN_eq (m : ApiModule) (k : Int) : (m.imports.filter fun x => decide (x.kind = k)).length = impN m k := by unfold impN impC; rw [List.take_length]
theorem impN_le (m : ApiModule) (k : Int) : impN m k ≤ m.imports.length := impC_le _ _ _
theorem nthK_drop (k : Int) : ∀ (l : List ApiImport) (j : Nat) (r : Int), j < l.length → nthK (l.drop j) k r = if (ix l j).kind ≠ k then nthK (l.drop (j + 1)) k r else if r = 0 then some (ix l j) else nthK (l.drop (j + 1)) k (r - 1) := fun l j r hj => by
  rw [List.drop_eq_getElem_cons hj, nthK, ix_eq hj]
theorem nthK_end (k : Int) (l : List ApiImport) (r : Int) : nthK (l.drop l.length) k r = none := by rw [List.drop_length]; rfl
set_option maxHeartbeats 8000000 in
theorem ref08_nth (F : Nat → Prop) (m : ApiModule) (k i : Int) (cs : List Value) (w : World) (hm : ApiModuleV F w cs m) (h0 : 0 ≤ i) (hi : R64 i) : Calls G.P 170 #[.agg cs.toArray, .int .i64 k, .int .i64 i] w fun e w' => e = .returned (.tuple #[.agg (impCells ((nthK m.imports k i).getD noI)).toArray, .bool (nthK m.imports k i).isSome]) ∧ Ext w w' := by
  obtain ⟨v0, v1, v2, v3, v4, v5, v6, v7, v8, v9, rfl, r0, r1, r2, r3, r4, r5, r6, r7, r8, r9, g0⟩ := hm
  obtain ⟨p1, c1, rfl, l1⟩ := r1.slice
  refine enterH (l := [_, _, _]) Tryz.func170 rfl Tryz.ntmps170 rfl (Ok.start w) ?_
  refine wgh ?_
  refine OpsH.box ([v0, Value.slice p1 m.imports.length c1, v2, v3, v4, v5, v6, Value.bool m.hasStart, Value.int .i64 m.start, v7, v8, v9] : List Value) rfl rfl rfl fun b => ?_
  refine wgh ?_
  refine OpsH.alloc (t := TImp) [Value.string ⟨#[]⟩, Value.string ⟨#[]⟩, Value.int .i64 0, Value.int .i64 0, Value.int .i64 0, Value.int .i64 0, Value.int .i64 0, Value.bool false, Value.int .i64 0, Value.int .i64 0, Value.bool false, Value.int .i64 0, Value.bool false] rfl rfl rfl fun b2 => ?_
  refine wgh ?_
  unfold R64 at hi
  refine CdH.loop (σ := Nat × Int) (fun s => [(1, .int .i64 k), (2, .int .i64 s.2), (3, .pointer (some ⟨b, 0, none⟩)), (6, .pointer (some ⟨b2, 0, none⟩)), (8, .int .i64 s.1)]) (fun _ => [.blk b2 [Value.string ⟨#[]⟩, Value.string ⟨#[]⟩, Value.int .i64 0, Value.int .i64 0, Value.int .i64 0, Value.int .i64 0, Value.int .i64 0, Value.bool false, Value.int .i64 0, Value.int .i64 0, Value.bool false, Value.int .i64 0, Value.bool false] TImp, .blk b ([v0, Value.slice p1 m.imports.length c1, v2, v3, v4, v5, v6, Value.bool m.hasStart, Value.int .i64 m.start, v7, v8, v9] : List Value) TMod]) (fun _ => [Ext w]) (fun s => s.1 ≤ m.imports.length ∧ 0 ≤ s.2 ∧ s.2 ≤ i ∧ nthK (m.imports.drop s.1) k s.2 = nthK m.imports k i) (fun s => m.imports.length - s.1) (0, i) wsub wsl wsr ⟨by dsimp only; omega, h0, Int.le_refl _, rfl⟩ ?_
  rintro ⟨j, r⟩ ⟨hj, hr0, hri, heq⟩
  dsimp only at hj hr0 hri heq ⊢
  by_cases hlt : j < m.imports.length
  · obtain ⟨b1, o1, rfl, hF, he⟩ := r1.el hlt
    have c := he.kind
    have hcc := imp_rd he
    have hs := nthK_drop k m.imports j r hlt
    by_cases hk : (ix m.imports j).kind = k
    · rw [if_neg (by simp [hk])] at hs
      by_cases hr : r = 0
      · rw [if_pos hr] at hs
        rw [heq] at hs
        rw [hs]
        refine CdH.der (Cs b1 (o1 + j * 13) [Value.string (ix m.imports j).module, Value.string (ix m.imports j).name, Value.int .i64 (ix m.imports j).kind, Value.int .i64 (ix m.imports j).func, Value.int .i64 (ix m.imports j).table.elem, Value.int .i64 (ix m.imports j).table.lim.min, Value.int .i64 (ix m.imports j).table.lim.max, Value.bool (ix m.imports j).table.lim.has, Value.int .i64 (ix m.imports j).mem.min, Value.int .i64 (ix m.imports j).mem.max, Value.bool (ix m.imports j).mem.has, Value.int .i64 (ix m.imports j).global_.val_, Value.bool (ix m.imports j).global_.mut_]) (cs_ext hcc rfl wmem) ?_
        refine wgh ?_
        exact FinH.ret2c (.inl rfl) rfl rfl rfl rfl rfl wup rfl rfl fun w' hw' => ⟨by rfl, hw'.at⟩
      · rw [if_neg hr] at hs
        refine wgh ?_
        exact FinH.next (j + 1, r - 1) wsub wsl wsr ⟨by dsimp only; omega, by dsimp only; omega, by dsimp only; omega, by rw [← hs]; exact heq⟩ (by dsimp only; omega)
    · rw [if_pos hk] at hs
      refine wgh ?_
      exact FinH.next (j + 1, r) wsub wsl wsr ⟨by dsimp only; omega, hr0, hri, by rw [← hs]; exact heq⟩ (by dsimp only; omega)
  · obtain rfl : j = m.imports.length := by omega
    rw [nthK_end] at heq
    rw [← heq]
    refine wgh ?_
    exact FinH.ret2c (.inl rfl) rfl rfl rfl rfl rfl wup rfl rfl fun w' hw' => ⟨by rfl, hw'.at⟩
def ownP (m : ApiModule) (k i n : Int) : Int := if 0 ≤ i - impN m k ∧ i - impN m k < n then i - impN m k else -1
set_option maxHeartbeats 8000000 in
theorem ref08_own (F : Nat → Prop) (m : ApiModule) (k i n : Int) (cs : List Value) (w : World) (hm : ApiModuleV F w cs m) (h0 : 0 ≤ i) (hi : R64 i) : Calls G.P 171 #[.agg cs.toArray, .int .i64 k, .int .i64 i, .int .i64 n] w fun e w' => e = .returned (.int .i64 (ownP m k i n)) ∧ Ext w w' := by
  have hm0 := hm
  obtain ⟨v0, v1, v2, v3, v4, v5, v6, v7, v8, v9, rfl, r0, r1, r2, r3, r4, r5, r6, r7, r8, r9, g0⟩ := hm
  obtain ⟨p1, c1, rfl, l1⟩ := r1.slice
  have hle := impN_le m k
  unfold R64 at hi
  have hd : ∃ z : Nat, impN m k = z := ⟨_, rfl⟩
  obtain ⟨z, hz⟩ := hd
  unfold ownP
  rw [hz] at hle ⊢
  refine enterH (l := [_, _, _, _]) Tryz.func171 rfl Tryz.ntmps171 rfl (Ok.start w) ?_
  repeat' (first | refine wau ?_ | (refine qbxq fun b_ => ?_) | (refine OpsH.isCall (f := 192) ?_; refine OpsH.call1 (v := .int .i64 (z : Nat)) rfl rfl rfl (fun w' hw' => by have := ref08_Imported F m k _ w' (hm0.chg (show Ext w w' from hw'.at) (fun _ _ _ h => h)); rw [hz] at this; exact this) ?_) | (refine wspl ?_ ?_ <;> intro hc_))
  all_goals first | omega | exact FinH.ret1 rfl rfl fun w' hw' => ⟨by rw [if_pos (by omega)], hw'.at⟩ | exact FinH.ret1 rfl rfl fun w' hw' => ⟨by rw [if_neg (by omega)], hw'.at⟩
theorem atK_own {α : Type} [Inhabited α] (f : ApiImport → α) (m : ApiModule) (k : Int) (own : List α) {i : Int} (h : 0 ≤ i) : atK ((m.imports.filter fun x => decide (x.kind = k)).map f ++ own) i = match nthK m.imports k i with
    | some x => some (f x)
    | none => atK own (i - impN m k) := by
  rw [atK_app f m.imports k own i, impN_eq]
  cases nthK m.imports k i with
  | some x => rfl
  | none => rw [if_pos h]
theorem ref08_Elem (F : Nat → Prop) (m : ApiModule) (i : Int) (cs : List Value) (w : World) (hm : ApiModuleV F w cs m) : Calls G.P 101 #[.agg cs.toArray, .int .i64 i] w fun e w' => e = .returned (.tuple #[.int .i64 ((atK (elemsM m) i).getD 0), .bool (atK (elemsM m) i).isSome]) ∧ Ext w w' := by
  obtain ⟨v0, v1, v2, v3, v4, v5, v6, v7, v8, v9, rfl, r0, r1, r2, r3, r4, r5, r6, r7, r8, r9, g0⟩ := hm
  obtain ⟨p7, c7, rfl, l7⟩ := r7.slice
  by_cases hin : 0 ≤ i ∧ i < m.elems.length
  · obtain ⟨j, rfl⟩ := Int.eq_ofNat_of_zero_le hin.1
    have hj : j < m.elems.length := by omega
    obtain ⟨b, o, rfl, hF, he⟩ := r7.el hj
    have hc := he.type_
    have e : atK (elemsM m) (j : Nat) = some (ix m.elems j).type_ := by unfold elemsM; rw [atK_in (by simpa using hj), ix_map hj]
    rw [e]
    refine enterH (l := [_, _]) Tryz.func101 rfl Tryz.ntmps101 rfl (Ok.start w) ?_
    repeat' (first | refine wau ?_ | (refine qbxq fun b_ => ?_) | (refine wspl ?_ ?_ <;> intro hc_))
    all_goals exact FinH.ret2 rfl rfl rfl fun w' hw' => ⟨by rfl, hw'.at⟩
  · have e : atK (elemsM m) i = none := atK_out (by unfold elemsM; simpa using hin)
    rw [e]
    refine enterH (l := [_, _]) Tryz.func101 rfl Tryz.ntmps101 rfl (Ok.start w) ?_
    repeat' (first | refine wau ?_ | (refine qbxq fun b_ => ?_) | (refine wspl ?_ ?_ <;> intro hc_))
    all_goals first | omega | exact FinH.ret2 rfl rfl rfl fun w' hw' => ⟨by rfl, hw'.at⟩
theorem ref08_Datas (F : Nat → Prop) (m : ApiModule) (cs : List Value) (w : World) (hm : ApiModuleV F w cs m) : Calls G.P 103 #[.agg cs.toArray] w fun e w' => e = .returned (.int .i64 m.datas.length) ∧ Ext w w' := by
  obtain ⟨v0, v1, v2, v3, v4, v5, v6, v7, v8, v9, rfl, r0, r1, r2, r3, r4, r5, r6, r7, r8, r9, g0⟩ := hm
  obtain ⟨p8, c8, rfl, l8⟩ := r8.slice
  refine enterH (l := [_]) Tryz.func103 rfl Tryz.ntmps103 rfl (Ok.start w) ?_
  repeat' (first | refine wau ?_ | (refine qbxq fun b_ => ?_) | (refine wspl ?_ ?_ <;> intro hc_))
  all_goals exact FinH.ret1 rfl rfl fun w' hw' => ⟨by rfl, hw'.at⟩
theorem funcsM_len (m : ApiModule) : (funcsM m).length = impN m 0 + m.funcs.length := by unfold funcsM kindsM; rw [List.length_append, List.length_map, List.length_map, impN_eq]
theorem ref08_Funcs (F : Nat → Prop) (m : ApiModule) (cs : List Value) (w : World) (hm : ApiModuleV F w cs m) : Calls G.P 172 #[.agg cs.toArray] w fun e w' => e = .returned (.int .i64 (funcsM m).length) ∧ Ext w w' := by
  have hm0 := hm
  obtain ⟨v0, v1, v2, v3, v4, v5, v6, v7, v8, v9, rfl, r0, r1, r2, r3, r4, r5, r6, r7, r8, r9, g0⟩ := hm
  obtain ⟨p1, c1, rfl, l1⟩ := r1.slice
  obtain ⟨p2, c2, rfl, l2⟩ := r2.slice
  have hle := impN_le m 0
  have hfl := funcsM_len m
  obtain ⟨z, hz⟩ : ∃ z, impN m 0 = z := ⟨_, rfl⟩
  obtain ⟨y, hy⟩ : ∃ y, (funcsM m).length = y := ⟨_, rfl⟩
  rw [hz] at hle hfl
  rw [hy] at hfl ⊢
  subst hfl
  refine enterH (l := [_]) Tryz.func172 rfl Tryz.ntmps172 rfl (Ok.start w) ?_
  refine wgh ?_
  refine OpsH.box _ rfl rfl rfl fun b => ?_
  refine wgh ?_
  refine CdH.regionQ (by kernel_rfl) ?_
  refine wgh ?_
  refine Ops.callH (v := .int .i64 (z : Nat)) rfl rfl rfl (fun w' hw' => by have := ref08_Imported F m 0 _ w' (hm0.chg (show Ext w w' from hw'.at) (fun _ _ _ h => h)); rw [hz] at this; exact this) ?_
  refine wgh ?_
  exact FinH.ret1 rfl rfl fun w' hw' => ⟨by rw [Int.natCast_add], hw'.at⟩
theorem named_take {l : List Ins} {k : Int} {j : Nat} (hj : j < l.length) : named (l.take (j + 1)) k = (named (l.take j) k || (decide ((ix l j).op = 210) && decide ((ix l j).a = k))) := by
  rw [take_succ_ix hj, named_app]; unfold named; simp
theorem named_sub {l : List Ins} {k : Int} {j : Nat} (h : named (l.take j) k = true) : named l k = true := by
  unfold named at *
  rw [List.any_eq_true] at h ⊢
  obtain ⟨x, hx, h⟩ := h
  exact ⟨x, List.mem_of_mem_take hx, h⟩
set_option maxHeartbeats 4000000 in
theorem ref08_names (F : Nat → Prop) (xs : List Ins) (v : Value) (i : Int) (w : World) (h : BodyR F w v xs) : Calls G.P 173 #[v, .int .i64 i] w fun e w' => e = .returned (.bool (named xs i)) ∧ Ext w w' := by
  obtain ⟨p, c, rfl, hl⟩ := h.slice
  refine enterH (l := [_, _]) Tryz.func173 rfl Tryz.ntmps173 rfl (Ok.start w) ?_
  refine wgh ?_
  refine CdH.loop (σ := Nat) (fun j => [(0, .slice p xs.length c), (1, .int .i64 i), (5, .int .i64 j)]) (fun _ => []) (fun _ => [Ext w]) (fun j => j ≤ xs.length ∧ named (xs.take j) i = false) (fun j => xs.length - j) 0 wsub wsl wsr ⟨by omega, by simp [named]⟩ ?_
  rintro j ⟨hj, hnot⟩
  by_cases hjl : j < xs.length
  · obtain ⟨b7, o7, rfl, -, hall⟩ := h.at hjl
    have hop := (hall j hjl).op
    have ha := (hall j hjl).a
    have hst := named_take (k := i) hjl
    rw [hnot, Bool.false_or] at hst
    by_cases h1 : (ix xs j).op = 210
    · by_cases h2 : (ix xs j).a = i
      · repeat' (first | refine wau ?_ | (refine wspl ?_ ?_ <;> intro hc_))
        all_goals refine FinH.ret1 rfl rfl fun w' hw' => ⟨?_, hw'.at⟩
        all_goals rw [named_sub (j := j + 1) (by rw [hst]; simp [h1, h2])]
      · repeat' (first | refine wau ?_ | (refine wspl ?_ ?_ <;> intro hc_))
        all_goals exact FinH.next (j + 1) wsub wsl wsr ⟨by omega, by rw [hst]; simp [h1, h2]⟩ (by omega)
    · repeat' (first | refine wau ?_ | (refine wspl ?_ ?_ <;> intro hc_))
      all_goals exact FinH.next (j + 1) wsub wsl wsr ⟨by omega, by rw [hst]; simp [h1]⟩ (by omega)
  · obtain rfl : j = xs.length := by omega
    rw [List.take_length] at hnot
    refine wgh ?_
    exact FinH.ret1 rfl rfl fun w' hw' => ⟨by rw [hnot], hw'.at⟩
end Go.Proofs.YtgbgnipidakdhaaGreatDoor
