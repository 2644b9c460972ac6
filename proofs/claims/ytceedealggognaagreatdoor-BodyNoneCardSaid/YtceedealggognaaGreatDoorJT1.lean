/- Maps keyed by int: rules for the operations on a map of the call's own, and for ranging over it. -/
import Derived.Test.YtceedealggognaaGreatDoorJR7
import Derived.Maps.Keyed
import Derived.Maps.RangeRun
namespace Go.Proofs.YtceedealggognaaGreatDoor
open Go.RowKit
open Go.ChangeMaps (setBlock)
open Go.MapKept (Stamped)
theorem bz.setBlock (w:World) (b:Nat) (o:Obj):bz (fun k=>k=b) w (setBlock w b o):=
 ⟨rfl,rfl,rfl,by simp[ChangeMaps.setBlock],fun k _ hs=>by simp only[ChangeMaps.setBlock];rw[Array.getElem?_setIfInBounds_ne (fun e=>hs e.symm)]⟩
section
variable {n:Nat} {E:Env} {w:World} {t:TypeId} {x y z:Operand}
end
end Go.Proofs.YtceedealggognaaGreatDoor
