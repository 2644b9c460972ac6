/- Plain laws: an instruction that has a signature pops exactly its parameters and pushes its results; one operand missing is an error. -/
import Derived.Test.YtdkcljdfbemnbaaGreatDoorJLz
namespace Go.Proofs.YtdkcljdfbemnbaaGreatDoor
set_option maxRecDepth 100000
variable {m:af} {locals:List Int} {x:cv} {f:aO} {e:Int}
theorem Cb (h:fN m locals x=(f,e)) (h1:e≠0):f=dF:=by
 unfold fN dY bZ eP dt dr at h
 dsimp only at h
 repeat' split at h
 all_goals first|(cases h;exact absurd rfl h1)|(cases h;rfl)
theorem AS (h:qf m locals x=(f,e)) (h1:e≠0):f=dF:=by
 unfold qf at h
 split at h
 ·cases h;rfl
 split at h
 ·cases h;rfl
 ·exact Cb h h1
theorem GY (op t:Int) (s:List UInt8):(iO op t s).params.length≤3∧(iO op t s).results.length≤3:=by
 unfold iO
 repeat' split
 all_goals(dsimp only[List.length_cons,List.length_nil];omega)
theorem Hb (op:Int):((fP op).getD dF).params.length≤3∧((fP op).getD dF).results.length≤3:=by
 unfold fP
 repeat' split
 all_goals first|exact⟨by decide,by decide⟩|exact GY _ _ _|(dsimp only[Option.getD_some,Option.getD_none,dF,List.length_cons,List.length_nil];omega)
end Go.Proofs.YtdkcljdfbemnbaaGreatDoor
