/- The walker: goes on by the rules as far as they go, and hands over what is left. -/
import Derived.Test.YtgbgnipidakdhaaGreatDoorJZ
namespace Go.Proofs.YtgbgnipidakdhaaGreatDoor
open Go.RowKit

structure Hold (p : Prop) : Prop where
  out : p
theorem wsub {E E' : Env} (h : Sub E E' := by (repeat (first | exact Sub.nil _ | refine Sub.cons rfl rfl ?_ | refine Sub.cons rfl (vint (by omega)) ?_ | refine Sub.cons rfl (by assumption) ?_))) : Sub E E' := h
end Go.Proofs.YtgbgnipidakdhaaGreatDoor
