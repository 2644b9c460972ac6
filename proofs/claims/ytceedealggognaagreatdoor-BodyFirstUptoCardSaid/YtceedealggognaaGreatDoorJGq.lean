/- ref05.Plain. Printed by gen_gq.py. -/
import Derived.Test.YtceedealggognaaGreatDoorJSe
namespace Go.Proofs.YtceedealggognaaGreatDoor
open Go.RowKit
set_option maxRecDepth 100000
def sm (known:Bool) (k a b n kind val index:Int) (nt nl:Nat) (t0:Int) (lal:Bool):Bool:=
 let ab:=decide (a=0) && decide (b=0)
 if known=false∨(k≠1∧¬(kind=0∧val=0∧index=0))∨(k≠3∧0<nl)∨(k≠6∧0<nt)then false else
 if k=0 then ab && decide (n=0)else
 if k=1 then ab && decide (n=0) && jn kind val index else
 if k=3 then aL a && decide (b=0) && decide (n=0) && lal else
 if k=6 then ab && decide (n=0) && decide (nt=1) && kC t0 else
 if k=2∨k=4∨k=7∨k=8∨k=9∨k=12∨k=16 then aL a && decide (b=0) && decide (n=0)else
 if k=5∨k=10∨k=11∨k=14∨k=15 then aL a && aL b && decide (n=0)else
 if k=13 then decide (a=0) && aL b && decide (n=0)else
 if k=17 then decide (0≤a) && decide (a≤63) && aL b && decide (n<4294967296)else
 if k=18 then ab && decide (n<4294967296)else
 if k=19 then ab else(decide (a=3) || decide (a=4)) && decide (b=0) && decide (n=0)
theorem qZ (known:Bool) (k a b n kind val index:Int) (types labels:List Int):zb known k a b n kind val index types labels=sm known k a b n kind val index types.length labels.length (ix types 0) (labels.all aL):=rfl
attribute [local irreducible] aL kC jn
end Go.Proofs.YtceedealggognaaGreatDoor
