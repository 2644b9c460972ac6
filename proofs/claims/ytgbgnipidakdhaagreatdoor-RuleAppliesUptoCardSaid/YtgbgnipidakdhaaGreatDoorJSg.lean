/- opcode.Of: the kind of an opcode's immediates. -/
import Derived.Test.YtgbgnipidakdhaaGreatDoorJSf
import Derived.Test.YtgbgnipidakdhaaGreatDoorJAw
import Derived.Test.YtgbgnipidakdhaaGreatDoorJW2
namespace Go.Proofs.YtgbgnipidakdhaaGreatDoor
open Go.RowKit
set_option maxRecDepth 100000
def qH (op:Int):Int:=
 if op=37∨op=38∨op=64528∨op=64527∨op=64529 then 9 else if op=64526 then 10 else if op=64524 then 11 else if op=64525 then 12 else
 if op=63∨op=64∨op=64523 then 13 else if op=64522 then 14 else if op=64520 then 15 else if op=64521 then 16 else 0
def oY (op:Int):Int:=
 if op=2∨op=3∨op=4 then 1 else if op=12∨op=13 then 2 else if op=14 then 3 else if op=16∨op=210 then 4 else if op=17 then 5 else if op=28 then 6 else
 if op=32∨op=33∨op=34 then 7 else if op=35∨op=36 then 8 else if op=65 then 18 else if op=66 then 19 else if op=208 then 20 else if 0<gQ op then 17 else qH op
def yI:List Int:=[2,3,4,12,13,14,16,210,17,28,32,33,34,35,36,65,66,208,37,38,64528,64527,64529,64526,64524,64525,63,64,64523,64522,64520,64521]
theorem E7:(kg.all fun r=>decide (oY r.1=r.2.2))=true:=by decide+kernel
theorem Bs:(yI.all fun c=>(eO c).isSome)=true:=by decide+kernel
theorem Fi (op:Int):oY op=dZ op:=by
 cases h:eO op with
 |some r=>
  have:=List.all_eq_true.1 E7 r (List.mem_of_find?_eq_some h)
  have e:r.1=op:=by have:=List.find?_some h;simpa using this
  rw[e]at this
  rw[of_decide_eq_true this]
  unfold dZ dU;rw[h];rfl
 |none=>
  have hne:∀c∈yI,op≠c:=by
   rintro c hc rfl
   have:=List.all_eq_true.1 Bs _ hc
   rw[h]at this;cases this
  have hw:gQ op=0:=by rw[rI];unfold il dU;rw[h];rfl
  have e:dZ op=0:=by unfold dZ dU;rw[h];rfl
  rw[e]
  simp only[yI,List.mem_cons,List.not_mem_nil,or_false,forall_eq_or_imp,forall_eq]at hne
  unfold oY qH
  simp[hne,hw]
set_option maxHeartbeats 8000000 in
theorem ue (op:Int) (w:World):Calls G.P 129 #[.int .i64 op] w fun e w'=>e=.returned (.int .i64 (qH op))∧Ext w w':=by
 refine ae (l:=[.int .i64 op]) Tryz.func129 rfl Tryz.ntmps129 rfl (Ok.start w) ?_
 repeat'(first|refine kQ ?_|(refine fV ?_ ?_<;>(intro hc_;try subst hc_)))
 all_goals first|exact ah.aB rfl rfl fun w' hw'=>⟨rfl,hw'.at⟩|exact ah.aB rfl rfl fun w' hw'=>⟨by unfold qH;simp only[*,if_false,or_false],hw'.at⟩
set_option maxHeartbeats 8000000 in
theorem gI (op:Int) (w:World) (h0:fu w):Calls G.P 76 #[.int .i64 op] w fun e w'=>e=.returned (.int .i64 (dZ op))∧Ext w w':=by
 rw[←Fi]
 refine ae (l:=[.int .i64 op]) Tryz.func76 rfl Tryz.ntmps76 rfl (Ok.start w) ?_
 repeat'(first|refine kQ ?_|(refine aa.ai (f:=128) ?_;refine aa.aq rfl rfl rfl (fun w' hw'=>oL _ w' (h0.ext hw'.at)) ?_)|(refine aa.ai (f:=129) ?_;refine aa.aq rfl rfl rfl (fun w' hw'=>ue _ w') ?_)|(refine fV ?_ ?_<;>(intro hc_;try subst hc_)))
 all_goals first|exact ah.aB rfl rfl fun w' hw'=>⟨rfl,hw'.at⟩|exact ah.aB rfl rfl fun w' hw'=>⟨by unfold oY;simp only[*,if_true,if_false,or_false],hw'.at⟩
end Go.Proofs.YtgbgnipidakdhaaGreatDoor
