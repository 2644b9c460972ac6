/- What the index spaces answer. -/
import Derived.Test.YtgbgnipidakdhaaGreatDoorJGq
import Derived.Test.YtgbgnipidakdhaaGreatDoorJSg
namespace Go.Proofs.YtgbgnipidakdhaaGreatDoor
open Go.RowKit
set_option maxRecDepth 100000

/-- a slice whose cells are cs -/
def RowC (s : Nat) (w : World) (v : Value) (n : Nat) (cs : List Value) : Prop := ∃ p c, v = .slice p n c ∧ cs.length = n * s ∧ (n = 0 ∨ ∃ b o, p = some ⟨b, o, none⟩ ∧ ∀ j, j < cs.length → w.cell? ⟨b, o + j, none⟩ = cs[j]?)
theorem RowC.ext {s n : Nat} {w w' : World} {v : Value} {cs : List Value} (h : RowC s w v n cs) (hx : Ext w w') : RowC s w' v n cs := by
  obtain ⟨p, c, rfl, hl, h⟩ := h
  refine ⟨p, c, rfl, hl, ?_⟩
  rcases h with h | ⟨b, o, rfl, h⟩
  · exact .inl h
  · exact .inr ⟨b, o, rfl, fun j hj => by rw [List.getElem?_eq_getElem hj]; exact hx.cell (by rw [h j hj, List.getElem?_eq_getElem hj])⟩
theorem own_rowC {B T s n : Nat} {w : World} {v : Value} {cs : List Value} (h : w.ownsRow B T s v n cs) : RowC s w v n cs := by
  obtain ⟨p, c, rfl, _, _, hg⟩ := own_slice h
  refine ⟨p, c, rfl, h.1, ?_⟩
  by_cases h0 : n = 0
  · exact .inl h0
  · obtain ⟨g, rfl, _, _⟩ := hg (Nat.pos_of_ne_zero h0)
    exact .inr ⟨g, 0, rfl, fun j hj => by rw [Nat.zero_add, List.getElem?_eq_getElem hj]; exact own_get h (List.getElem?_eq_getElem hj)⟩
theorem RowC.cells {α : Type} [Inhabited α] {s n : Nat} {w : World} {p : Option Addr} {c : Nat} {l : List α} (cf : α → List Value) (hs : ∀ x, (cf x).length = s) (h : RowC s w (.slice p n c) l.length (l.flatMap cf)) {i : Nat} (hi : i < l.length) : ∃ b o, p = some ⟨b, o, none⟩ ∧ ∀ j, j < s → w.cell? ⟨b, o + i * s + j, none⟩ = (cf (ix l i))[j]? := by
  obtain ⟨p', c', e, hl, h⟩ := h
  cases e
  rcases h with h | ⟨b, o, rfl, h⟩
  · omega
  · refine ⟨b, o, rfl, fun j hj => ?_⟩
    rw [Nat.add_assoc, h _ (by rw [hl]; have := Nat.mul_le_mul_right s (show i + 1 ≤ l.length from hi); rw [Nat.succ_mul] at this; omega), flatMap_get cf hs l i j hi hj]
theorem RowC.slice {s n : Nat} {w : World} {v : Value} {cs : List Value} (h : RowC s w v n cs) : ∃ p c, v = .slice p n c := by obtain ⟨p, c, e, _⟩ := h; exact ⟨p, c, e⟩
theorem atK_in {α : Type} [Inhabited α] {l : List α} {j : Nat} (h : j < l.length) : atK l (j : Int) = some (ix l j) := by unfold atK; rw [if_pos ⟨by omega, by omega⟩]; rfl
theorem atK_out {α : Type} [Inhabited α] {l : List α} {i : Int} (h : ¬ (0 ≤ i ∧ i < l.length)) : atK l i = none := by unfold atK; rw [if_neg h]
def noT : ApiTable := ⟨0, ⟨0, 0, false⟩⟩
def noL : ApiLimits := ⟨0, 0, false⟩
def noG : ApiGlobal := ⟨0, false⟩

theorem at_Table (l : List ApiTable) (v : Value) (i : Int) (w : World) (h : RowC 4 w v l.length (l.flatMap tblC)) : Calls G.P 163 #[v, .int .i64 i] w fun e w' => e = .returned (.tuple #[.agg (tblC ((atK l i).getD noT)).toArray, .bool (atK l i).isSome]) ∧ Ext w w' := by
  obtain ⟨p, c, rfl⟩ := h.slice
  by_cases hin : 0 ≤ i ∧ i < l.length
  · obtain ⟨j, rfl⟩ := Int.eq_ofNat_of_zero_le hin.1
    have hj : j < l.length := by omega
    obtain ⟨b, o, rfl, hc⟩ := h.cells tblC (fun _ => rfl) hj
    have e := atK_in hj
    refine enterH (l := [.slice (some ⟨b, o, none⟩) l.length c, .int .i64 j]) Tryz.func163 rfl Tryz.ntmps163 rfl (Ok.start w) ?_
    refine CdH.der (Cs b (o + j * 4) (tblC (ix l j))) (fun w' hw' => by intro k hk; have := hc k hk; rw [show (tblC (ix l j))[k]? = some ((tblC (ix l j))[k]'hk) from List.getElem?_eq_getElem hk] at this ⊢; exact (show Ext w w' from hw' _ wmem).cell this) ?_
    dsimp only [tblC]
    repeat' (first | refine wau ?_ | (refine OpsH.alloc (t := TFn) [Value.slice none 0 0, Value.slice none 0 0] rfl rfl rfl fun b_ => ?_) | (refine OpsH.alloc (t := TTbl) [Value.int .i64 0, Value.int .i64 0, Value.int .i64 0, Value.bool false] rfl rfl rfl fun b_ => ?_) | (refine OpsH.alloc (t := TLim) [Value.int .i64 0, Value.int .i64 0, Value.bool false] rfl rfl rfl fun b_ => ?_) | (refine OpsH.alloc (t := TGlo) [Value.int .i64 0, Value.bool false] rfl rfl rfl fun b_ => ?_) | (refine wspl ?_ ?_ <;> intro hc_))
    all_goals exact FinH.ret2c (.inl rfl) rfl rfl rfl rfl rfl wup rfl rfl fun w' hw' => ⟨by rw [e]; rfl, hw'.at⟩
  · have e := atK_out hin
    refine enterH (l := [.slice p l.length c, .int .i64 i]) Tryz.func163 rfl Tryz.ntmps163 rfl (Ok.start w) ?_
    repeat' (first | refine wau ?_ | (refine OpsH.alloc (t := TFn) [Value.slice none 0 0, Value.slice none 0 0] rfl rfl rfl fun b_ => ?_) | (refine OpsH.alloc (t := TTbl) [Value.int .i64 0, Value.int .i64 0, Value.int .i64 0, Value.bool false] rfl rfl rfl fun b_ => ?_) | (refine OpsH.alloc (t := TLim) [Value.int .i64 0, Value.int .i64 0, Value.bool false] rfl rfl rfl fun b_ => ?_) | (refine OpsH.alloc (t := TGlo) [Value.int .i64 0, Value.bool false] rfl rfl rfl fun b_ => ?_) | (refine wspl ?_ ?_ <;> intro hc_))
    all_goals first | omega | exact FinH.ret2c (.inl rfl) rfl rfl rfl rfl rfl wup rfl rfl fun w' hw' => ⟨by rw [e]; rfl, hw'.at⟩
theorem RowC.cellI {w : World} {n : Nat} {p : Option Addr} {c : Nat} {l : List Int} (h : RowC 1 w (.slice p n c) l.length (l.map (Value.int .i64))) {i : Nat} (hi : i < l.length) : ∃ b o, p = some ⟨b, o, none⟩ ∧ w.cell? ⟨b, o + i, none⟩ = some (.int .i64 (ix l i)) := by
  obtain ⟨p', c', e, hl, h⟩ := h
  cases e
  rcases h with h | ⟨b, o, rfl, h⟩
  · omega
  · exact ⟨b, o, rfl, by rw [h i (by simpa using hi), List.getElem?_map, ix_some hi]; rfl⟩

theorem at_Limits (l : List ApiLimits) (v : Value) (i : Int) (w : World) (h : RowC 3 w v l.length (l.flatMap limC)) : Calls G.P 166 #[v, .int .i64 i] w fun e w' => e = .returned (.tuple #[.agg (limC ((atK l i).getD noL)).toArray, .bool (atK l i).isSome]) ∧ Ext w w' := by
  obtain ⟨p, c, rfl⟩ := h.slice
  by_cases hin : 0 ≤ i ∧ i < l.length
  · obtain ⟨j, rfl⟩ := Int.eq_ofNat_of_zero_le hin.1
    have hj : j < l.length := by omega
    obtain ⟨b, o, rfl, hc⟩ := h.cells limC (fun _ => rfl) hj
    have e := atK_in hj
    refine enterH (l := [.slice (some ⟨b, o, none⟩) l.length c, .int .i64 j]) Tryz.func166 rfl Tryz.ntmps166 rfl (Ok.start w) ?_
    refine CdH.der (Cs b (o + j * 3) (limC (ix l j))) (fun w' hw' => by intro k hk; have := hc k hk; rw [show (limC (ix l j))[k]? = some ((limC (ix l j))[k]'hk) from List.getElem?_eq_getElem hk] at this ⊢; exact (show Ext w w' from hw' _ wmem).cell this) ?_
    dsimp only [limC]
    repeat' (first | refine wau ?_ | (refine OpsH.alloc (t := TFn) [Value.slice none 0 0, Value.slice none 0 0] rfl rfl rfl fun b_ => ?_) | (refine OpsH.alloc (t := TTbl) [Value.int .i64 0, Value.int .i64 0, Value.int .i64 0, Value.bool false] rfl rfl rfl fun b_ => ?_) | (refine OpsH.alloc (t := TLim) [Value.int .i64 0, Value.int .i64 0, Value.bool false] rfl rfl rfl fun b_ => ?_) | (refine OpsH.alloc (t := TGlo) [Value.int .i64 0, Value.bool false] rfl rfl rfl fun b_ => ?_) | (refine wspl ?_ ?_ <;> intro hc_))
    all_goals exact FinH.ret2c (.inl rfl) rfl rfl rfl rfl rfl wup rfl rfl fun w' hw' => ⟨by rw [e]; rfl, hw'.at⟩
  · have e := atK_out hin
    refine enterH (l := [.slice p l.length c, .int .i64 i]) Tryz.func166 rfl Tryz.ntmps166 rfl (Ok.start w) ?_
    repeat' (first | refine wau ?_ | (refine OpsH.alloc (t := TFn) [Value.slice none 0 0, Value.slice none 0 0] rfl rfl rfl fun b_ => ?_) | (refine OpsH.alloc (t := TTbl) [Value.int .i64 0, Value.int .i64 0, Value.int .i64 0, Value.bool false] rfl rfl rfl fun b_ => ?_) | (refine OpsH.alloc (t := TLim) [Value.int .i64 0, Value.int .i64 0, Value.bool false] rfl rfl rfl fun b_ => ?_) | (refine OpsH.alloc (t := TGlo) [Value.int .i64 0, Value.bool false] rfl rfl rfl fun b_ => ?_) | (refine wspl ?_ ?_ <;> intro hc_))
    all_goals first | omega | exact FinH.ret2c (.inl rfl) rfl rfl rfl rfl rfl wup rfl rfl fun w' hw' => ⟨by rw [e]; rfl, hw'.at⟩

theorem at_Global (l : List ApiGlobal) (v : Value) (i : Int) (w : World) (h : RowC 2 w v l.length (l.flatMap gloC)) : Calls G.P 164 #[v, .int .i64 i] w fun e w' => e = .returned (.tuple #[.agg (gloC ((atK l i).getD noG)).toArray, .bool (atK l i).isSome]) ∧ Ext w w' := by
  obtain ⟨p, c, rfl⟩ := h.slice
  by_cases hin : 0 ≤ i ∧ i < l.length
  · obtain ⟨j, rfl⟩ := Int.eq_ofNat_of_zero_le hin.1
    have hj : j < l.length := by omega
    obtain ⟨b, o, rfl, hc⟩ := h.cells gloC (fun _ => rfl) hj
    have e := atK_in hj
    refine enterH (l := [.slice (some ⟨b, o, none⟩) l.length c, .int .i64 j]) Tryz.func164 rfl Tryz.ntmps164 rfl (Ok.start w) ?_
    refine CdH.der (Cs b (o + j * 2) (gloC (ix l j))) (fun w' hw' => by intro k hk; have := hc k hk; rw [show (gloC (ix l j))[k]? = some ((gloC (ix l j))[k]'hk) from List.getElem?_eq_getElem hk] at this ⊢; exact (show Ext w w' from hw' _ wmem).cell this) ?_
    dsimp only [gloC]
    repeat' (first | refine wau ?_ | (refine OpsH.alloc (t := TFn) [Value.slice none 0 0, Value.slice none 0 0] rfl rfl rfl fun b_ => ?_) | (refine OpsH.alloc (t := TTbl) [Value.int .i64 0, Value.int .i64 0, Value.int .i64 0, Value.bool false] rfl rfl rfl fun b_ => ?_) | (refine OpsH.alloc (t := TLim) [Value.int .i64 0, Value.int .i64 0, Value.bool false] rfl rfl rfl fun b_ => ?_) | (refine OpsH.alloc (t := TGlo) [Value.int .i64 0, Value.bool false] rfl rfl rfl fun b_ => ?_) | (refine wspl ?_ ?_ <;> intro hc_))
    all_goals exact FinH.ret2c (.inl rfl) rfl rfl rfl rfl rfl wup rfl rfl fun w' hw' => ⟨by rw [e]; rfl, hw'.at⟩
  · have e := atK_out hin
    refine enterH (l := [.slice p l.length c, .int .i64 i]) Tryz.func164 rfl Tryz.ntmps164 rfl (Ok.start w) ?_
    repeat' (first | refine wau ?_ | (refine OpsH.alloc (t := TFn) [Value.slice none 0 0, Value.slice none 0 0] rfl rfl rfl fun b_ => ?_) | (refine OpsH.alloc (t := TTbl) [Value.int .i64 0, Value.int .i64 0, Value.int .i64 0, Value.bool false] rfl rfl rfl fun b_ => ?_) | (refine OpsH.alloc (t := TLim) [Value.int .i64 0, Value.int .i64 0, Value.bool false] rfl rfl rfl fun b_ => ?_) | (refine OpsH.alloc (t := TGlo) [Value.int .i64 0, Value.bool false] rfl rfl rfl fun b_ => ?_) | (refine wspl ?_ ?_ <;> intro hc_))
    all_goals first | omega | exact FinH.ret2c (.inl rfl) rfl rfl rfl rfl rfl wup rfl rfl fun w' hw' => ⟨by rw [e]; rfl, hw'.at⟩

theorem at_int (l : List Int) (v : Value) (i : Int) (w : World) (h : RowC 1 w v l.length (l.map (Value.int .i64))) : Calls G.P 161 #[v, .int .i64 i] w fun e w' => e = .returned (.tuple #[.int .i64 ((atK l i).getD 0), .bool (atK l i).isSome]) ∧ Ext w w' := by
  obtain ⟨p, c, rfl⟩ := h.slice
  by_cases hin : 0 ≤ i ∧ i < l.length
  · obtain ⟨j, rfl⟩ := Int.eq_ofNat_of_zero_le hin.1
    have hj : j < l.length := by omega
    obtain ⟨b, o, rfl, hc⟩ := h.cellI hj
    have e := atK_in hj
    refine enterH (l := [.slice (some ⟨b, o, none⟩) l.length c, .int .i64 j]) Tryz.func161 rfl Tryz.ntmps161 rfl (Ok.start w) ?_
    repeat' (first | refine wau ?_ | (refine OpsH.alloc (t := TFn) [Value.slice none 0 0, Value.slice none 0 0] rfl rfl rfl fun b_ => ?_) | (refine OpsH.alloc (t := TTbl) [Value.int .i64 0, Value.int .i64 0, Value.int .i64 0, Value.bool false] rfl rfl rfl fun b_ => ?_) | (refine OpsH.alloc (t := TLim) [Value.int .i64 0, Value.int .i64 0, Value.bool false] rfl rfl rfl fun b_ => ?_) | (refine OpsH.alloc (t := TGlo) [Value.int .i64 0, Value.bool false] rfl rfl rfl fun b_ => ?_) | (refine wspl ?_ ?_ <;> intro hc_))
    all_goals exact FinH.ret2 rfl rfl rfl fun w' hw' => ⟨by rw [e]; rfl, hw'.at⟩
  · have e := atK_out hin
    refine enterH (l := [.slice p l.length c, .int .i64 i]) Tryz.func161 rfl Tryz.ntmps161 rfl (Ok.start w) ?_
    repeat' (first | refine wau ?_ | (refine OpsH.alloc (t := TFn) [Value.slice none 0 0, Value.slice none 0 0] rfl rfl rfl fun b_ => ?_) | (refine OpsH.alloc (t := TTbl) [Value.int .i64 0, Value.int .i64 0, Value.int .i64 0, Value.bool false] rfl rfl rfl fun b_ => ?_) | (refine OpsH.alloc (t := TLim) [Value.int .i64 0, Value.int .i64 0, Value.bool false] rfl rfl rfl fun b_ => ?_) | (refine OpsH.alloc (t := TGlo) [Value.int .i64 0, Value.bool false] rfl rfl rfl fun b_ => ?_) | (refine wspl ?_ ?_ <;> intro hc_))
    all_goals first | omega | exact FinH.ret2 rfl rfl rfl fun w' hw' => ⟨by rw [e]; rfl, hw'.at⟩

theorem at_Val (l : List Int) (v : Value) (i : Int) (w : World) (h : RowC 1 w v l.length (l.map (Value.int .i64))) : Calls G.P 165 #[v, .int .i64 i] w fun e w' => e = .returned (.tuple #[.int .i64 ((atK l i).getD 0), .bool (atK l i).isSome]) ∧ Ext w w' := by
  obtain ⟨p, c, rfl⟩ := h.slice
  by_cases hin : 0 ≤ i ∧ i < l.length
  · obtain ⟨j, rfl⟩ := Int.eq_ofNat_of_zero_le hin.1
    have hj : j < l.length := by omega
    obtain ⟨b, o, rfl, hc⟩ := h.cellI hj
    have e := atK_in hj
    refine enterH (l := [.slice (some ⟨b, o, none⟩) l.length c, .int .i64 j]) Tryz.func165 rfl Tryz.ntmps165 rfl (Ok.start w) ?_
    repeat' (first | refine wau ?_ | (refine OpsH.alloc (t := TFn) [Value.slice none 0 0, Value.slice none 0 0] rfl rfl rfl fun b_ => ?_) | (refine OpsH.alloc (t := TTbl) [Value.int .i64 0, Value.int .i64 0, Value.int .i64 0, Value.bool false] rfl rfl rfl fun b_ => ?_) | (refine OpsH.alloc (t := TLim) [Value.int .i64 0, Value.int .i64 0, Value.bool false] rfl rfl rfl fun b_ => ?_) | (refine OpsH.alloc (t := TGlo) [Value.int .i64 0, Value.bool false] rfl rfl rfl fun b_ => ?_) | (refine wspl ?_ ?_ <;> intro hc_))
    all_goals exact FinH.ret2 rfl rfl rfl fun w' hw' => ⟨by rw [e]; rfl, hw'.at⟩
  · have e := atK_out hin
    refine enterH (l := [.slice p l.length c, .int .i64 i]) Tryz.func165 rfl Tryz.ntmps165 rfl (Ok.start w) ?_
    repeat' (first | refine wau ?_ | (refine OpsH.alloc (t := TFn) [Value.slice none 0 0, Value.slice none 0 0] rfl rfl rfl fun b_ => ?_) | (refine OpsH.alloc (t := TTbl) [Value.int .i64 0, Value.int .i64 0, Value.int .i64 0, Value.bool false] rfl rfl rfl fun b_ => ?_) | (refine OpsH.alloc (t := TLim) [Value.int .i64 0, Value.int .i64 0, Value.bool false] rfl rfl rfl fun b_ => ?_) | (refine OpsH.alloc (t := TGlo) [Value.int .i64 0, Value.bool false] rfl rfl rfl fun b_ => ?_) | (refine wspl ?_ ?_ <;> intro hc_))
    all_goals first | omega | exact FinH.ret2 rfl rfl rfl fun w' hw' => ⟨by rw [e]; rfl, hw'.at⟩

end Go.Proofs.YtgbgnipidakdhaaGreatDoor
