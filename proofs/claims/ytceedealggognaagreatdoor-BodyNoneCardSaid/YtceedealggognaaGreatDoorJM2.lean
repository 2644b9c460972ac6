/- A region that draws its order, in which two operations that make memory may come in either order: each order is walked. -/
import Derived.Test.YtceedealggognaaGreatDoorJA
namespace Go.Proofs.YtceedealggognaaGreatDoor
open Go.RowKit
section
variable {P:Program} {md:Region.Mode} {C:World→Prop}
theorem Cy {l:List Oper} {listed:Array Bool}:l.length ∉ Region.ready md l.toArray listed:=by
 intro h
 obtain⟨_,o2,ho2,_⟩:=mem_ready.1 h
 have:=(Array.getElem?_eq_some_iff.1 ho2).1
 simp at this
end
section
variable {G:rS} {Q:Exit→Act→World→Prop} {n:Nat} {E:Env} {w:World}
end
end Go.Proofs.YtceedealggognaaGreatDoor
