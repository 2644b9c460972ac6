/- Layer 23: nil arguments, and ones that no constructor created. -/
import Derived.Test.YtgbgnipidakdhaaGreatDoorJAb
namespace Go.Proofs.YtgbgnipidakdhaaGreatDoor
open Go.RowKit
set_option maxRecDepth 100000
section
variable {n : Nat} {E : Env} {C : World → Prop} {x y : Operand} {t t2 : TypeId}
end
/-- a pointer that is nil, or points to a struct whose first cell is -/
def NilP (v : Value) (w : World) : Prop := v = .pointer none ∨ ∃ b, v = .pointer (some ⟨b, 0, none⟩) ∧ w.cell? ⟨b, 0, none⟩ = some (.pointer none)
theorem NilP.ext {v : Value} {w w' : World} (h : NilP v w) (hx : Ext w w') : NilP v w' := by
  rcases h with h | ⟨b, h, hc⟩
  · exact .inl h
  · exact .inr ⟨b, h, hx.cell hc⟩
end Go.Proofs.YtgbgnipidakdhaaGreatDoor
/- law23.RuleNobody. -/
namespace Go.Proofs.YtgbgnipidakdhaaGreatDoor
open Go.RowKit
set_option maxRecDepth 100000
/-- an instruction that is an argument -/
structure InV (w : World) (x : Ins) (tv bv : Value) : Prop where
  t : IntsR (fun _ => True) w tv x.types
  l : IntsR (fun _ => True) w bv x.labels
  op : R64 x.op
  a : R64 x.a
theorem InV.ext {w w' : World} {x : Ins} {tv bv : Value} (h : InV w x tv bv) (hx : Ext w w') : InV w' x tv bv := ⟨h.t.chg hx (fun _ _ _ h => h), h.l.chg hx (fun _ _ _ h => h), h.op, h.a⟩
theorem body_one {w : World} {b T : Nat} {x : Ins} {pt pl : Option Addr} {ct cl c : Nat} (h : Blk w b [Value.int .i64 x.op, Value.int .i64 x.a, Value.int .i64 x.b, Value.int .u64 x.n, Value.int .i64 x.kind, Value.int .i64 x.val, Value.int .i64 x.index, Value.slice pt x.types.length ct, Value.slice pl x.labels.length cl] T) (hx : InV w x (.slice pt x.types.length ct) (.slice pl x.labels.length cl)) : BodyR (fun _ => True) w (.slice (some ⟨b, 0, none⟩) 1 c) [x] := by
  refine ⟨_, c, rfl, by show 1 ≤ 1353247013952; omega, .inr ⟨b, 0, rfl, trivial, fun i hi => ?_⟩⟩
  obtain rfl : i = 0 := by have : i < 1 := hi; omega
  have hc : ∀ j v, ([Value.int .i64 x.op, Value.int .i64 x.a, Value.int .i64 x.b, Value.int .u64 x.n, Value.int .i64 x.kind, Value.int .i64 x.val, Value.int .i64 x.index, Value.slice pt x.types.length ct, Value.slice pl x.labels.length cl] : List Value)[j]? = some v → w.cell? ⟨b, 0 + 0 * 9 + j, none⟩ = some v := fun j v hj => by rw [Nat.zero_mul, Nat.zero_add]; exact h.cell hj
  exact ⟨hc 0 _ rfl, hc 1 _ rfl, hc 2 _ rfl, hc 3 _ rfl, hc 4 _ rfl, hc 5 _ rfl, hc 6 _ rfl, ⟨_, hc 7 _ rfl, hx.t⟩, ⟨_, hc 8 _ rfl, hx.l⟩, hx.op, hx.a⟩
end Go.Proofs.YtgbgnipidakdhaaGreatDoor
