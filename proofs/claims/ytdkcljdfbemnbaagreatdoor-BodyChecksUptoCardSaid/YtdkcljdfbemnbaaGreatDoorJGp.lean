/- Layer 5: what a plain instruction is. -/
import Derived.Test.YtdkcljdfbemnbaaGreatDoorJTz
namespace Go.Proofs.YtdkcljdfbemnbaaGreatDoor
open Go.RowKit _root_.Go.Proofs.Tryz
set_option maxHeartbeats 8000000
set_option maxRecDepth 100000
def FI (known:Bool) (k a b n kind val index:Int) (types labels:List Int):Bool:=
 let ab:=decide (a=0) && decide (b=0)
 if known=false∨(k≠1∧¬(kind=0∧val=0∧index=0))∨(k≠3∧0<labels.length)∨(k≠6∧0<types.length)then false else
 if k=0 then ab && decide (n=0)else
 if k=1 then ab && decide (n=0) && jr kind val index else
 if k=3 then br a && decide (b=0) && decide (n=0) && labels.all br else
 if k=6 then ab && decide (n=0) && decide (types.length=1) && kj (ix types 0)else
 if k=2∨k=4∨k=7∨k=8∨k=9∨k=12∨k=16 then br a && decide (b=0) && decide (n=0)else
 if k=5∨k=10∨k=11∨k=14∨k=15 then br a && br b && decide (n=0)else
 if k=13 then decide (a=0) && br b && decide (n=0)else
 if k=17 then decide (0≤a) && decide (a≤63) && br b && decide (n<4294967296)else
 if k=18 then ab && decide (n<4294967296)else
 if k=19 then ab else(decide (a=3) || decide (a=4)) && decide (b=0) && decide (n=0)
theorem rA (x:cv):cW x=FI (fy x.op).isSome (eQ x.op) x.a x.b x.n x.kind x.val x.index x.types x.labels:=rfl
variable {l:List Int} {f:Int→Bool} {j:Nat}
theorem kp (hj:j<l.length):(l.take (j+1)).all f=((l.take j).all f && f (ix l j)):=by rw[bM hj,List.all_append];simp
theorem lN (h:(l.take j).all f=false):l.all f=false:=by
 cases e:l.all f with
 |false=>rfl
 |true=>
  have:(l.take j).all f=true:=by rw[List.all_eq_true]at e ⊢;exact fun x hx=>e x (List.mem_of_mem_take hx)
  rw[this]at h;cases h
attribute [local irreducible] br kj
theorem Ac (k v i:Int) (w:World):Calls G.P 107 #[.agg #[.int .i64 k,.int .i64 v,.int .i64 i]] w fun e w'=>e=.returned (.bool (jr k v i))∧Ext w w':=by
 refine ae (l:=[.agg #[.int .i64 k,.int .i64 v,.int .i64 i]]) func107 rfl ntmps107 rfl (Ok.start w) ?_
 repeat'(first|refine mq ?_|(refine aE fun b_=>?_)|(refine aa.aj (f:=110) ?_;refine aa.au rfl rfl rfl (fun w' hw'=>xB v w') ?_)|(refine aa.cQ (f:=108) ?_;refine aa.cH pF rfl rfl rfl (fun w' hw'=>gh i w') ?_)|(refine gL ?_ ?_<;>(intro hc_;try subst hc_)))
 all_goals exact ah.aF rfl rfl fun w' hw'=>⟨by simp_all [jr],hw'.at⟩
theorem yA (F:Nat→Prop) (l:List Int) (v:Value) (w:World) (h:ai F w v l):Calls G.P 109 #[v] w fun e w'=>e=.returned (.bool (l.all br))∧Ext w w':=by
 obtain⟨p,c,rfl,hl⟩:=h.slice
 refine ae (l:=[_]) func109 rfl ntmps109 rfl (Ok.start w) ?_
 refine cq ?_
 refine bh.loop (σ:=Nat) (fun j=>[(0,.slice p l.length c),(3,.int .i64 j)]) (fun _=>[]) (fun _=>[Ext w]) (fun j=>j≤l.length∧(l.take j).all br=true) (fun j=>l.length - j) 0 bH bw aU ⟨by omega,by simp⟩ ?_
 rintro j ⟨hj,hall⟩
 by_cases hjl:j<l.length
 ·obtain⟨b7,o7,rfl,-,hc⟩:=h.at hjl
  have hcj:=hc j hjl
  have hst:=kp (f:=br) hjl
  rw[hall,Bool.true_and]at hst
  cases hi:br (ix l j)with
  |true=>
   repeat'(first|refine ar ?_|(refine aa.aj (f:=108) ?_;refine aa.au (v:=.bool true) rfl rfl rfl (fun w' hw'=>by have:=gh (ix l j) w';rw[hi]at this;exact this) ?_)|fail)
   all_goals exact dl
  |false=>
   repeat'(first|refine ar ?_|(refine aa.aj (f:=108) ?_;refine aa.au (v:=.bool false) rfl rfl rfl (fun w' hw'=>by have:=gh (ix l j) w';rw[hi]at this;exact this) ?_)|fail)
   all_goals exact ah.aF rfl rfl fun w' hw'=>⟨by rw[lN (j:=j+1) O6],hw'.at⟩
 ·obtain rfl:j=l.length:=by omega
  rw[List.take_length]at hall
  refine cq ?_
  exact ah.aF rfl rfl fun w' hw'=>⟨by rw[hall],hw'.at⟩
end Go.Proofs.YtdkcljdfbemnbaaGreatDoor
