/- Plain laws: an instruction that has a signature pops exactly its parameters and pushes its results; one operand missing is an error. -/
import Derived.Test.YtceedealggognaaGreatDoorJUq
namespace Go.Proofs.YtceedealggognaaGreatDoor
set_option maxRecDepth 100000
theorem zh (op t:Int) (s:List UInt8):(eT op t s).params.length≤3∧(eT op t s).results.length≤3:=by
 unfold eT
 repeat' split
 all_goals(dsimp only[List.length_cons,List.length_nil];omega)
theorem zu (op:Int):((fR op).getD gw).params.length≤3∧((fR op).getD gw).results.length≤3:=by
 unfold fR
 repeat' split
 all_goals first|exact⟨by decide,by decide⟩|exact zh _ _ _|(dsimp only[Option.getD_some,Option.getD_none,gw,List.length_cons,List.length_nil];omega)
end Go.Proofs.YtceedealggognaaGreatDoor
