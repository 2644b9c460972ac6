/- Walk of the reference of layer 9: which opcodes open a block. -/
import Derived.Test.YtceedealggognaaGreatDoorJG
namespace Go.Proofs.YtceedealggognaaGreatDoor
open Go.RowKit
def dE (op:Int):Bool:=op==2 || op==3 || op==4
end Go.Proofs.YtceedealggognaaGreatDoor
