/- ref05.Sig: the reference's signatures. -/
import Derived.Test.YtgbgnipidakdhaaGreatDoorJWi
namespace Go.Proofs.YtgbgnipidakdhaaGreatDoor
open Go.RowKit
set_option maxRecDepth 100000
def BY (s:List UInt8):Int:=if 4<s.length∧(s.take 4==[105,54,52,46])=true then 2 else 1
theorem BB (s:List UInt8) (w:World) (hs:s.length≤1000):Calls G.P 178 #[.string ⟨s.toArray⟩] w fun e w'=>e=.returned (.int .i64 (BY s))∧Ext w w':=by
 have z1:(⟨s.toArray⟩:ByteArray).size=s.length:=rfl
 refine ae (l:=[.string ⟨s.toArray⟩]) Tryz.func178 rfl Tryz.ntmps178 rfl (Ok.start w) ?_
 by_cases h4:4<s.length
 ·have e:((ByteArray.mk s.toArray).extract 0 4).data.toList=s.take 4:=by
   show gz _=_
   rw[jr];simp
  repeat'(first|refine ar ?_|(refine aa.As ?_;refine aa.yg rfl (Yl.dw (i:=4) Tryz.underlying9 rfl rfl rfl Mj) rfl ?_)|(refine a7 ?_ ?_<;>intro hc_))
  ·have hc2:(s.take 4==[105,54,52,46])=true:=by rw[←e];exact hc_
   exact ah.aB rfl rfl fun w' hw'=>⟨by unfold BY;rw[if_pos ⟨h4,hc2⟩],hw'.at⟩
  ·have hc2:(s.take 4==[105,54,52,46])=false:=by rw[←e];exact hc_
   exact ah.aB rfl rfl fun w' hw'=>⟨by unfold BY;rw[if_neg (by rw[hc2];simp)],hw'.at⟩
 ·repeat'(first|refine ar ?_|(refine a7 ?_ ?_<;>intro hc_))
  all_goals first|omega|exact ah.aB rfl rfl fun w' hw'=>⟨by unfold BY;rw[if_neg Mj],hw'.at⟩
theorem s8 (p0 p1:Option Addr) (n0 n1 c0 c1:Nat) (w:World):Calls G.P 180 #[.slice p0 n0 c0,.slice p1 n1 c1] w fun e w'=>e=.returned (.agg #[.slice p0 n0 c0,.slice p1 n1 c1])∧Ext w w':=by
 refine ae (l:=[_,_]) Tryz.func180 rfl Tryz.ntmps180 rfl (Ok.start w) ?_
 repeat'(first|refine ar ?_|(refine au fun b_=>?_)|fail)
 all_goals exact pm
def cI (op:Int):Option aL:=
 if op=1∨op=64525∨op=64521 then some ⟨[],[]⟩
 else if op=65∨op=63∨op=64528 then some ⟨[],[1]⟩
 else if op=66 then some ⟨[],[2]⟩
 else if op=210 then some ⟨[],[3]⟩
 else if op=64 then some ⟨[1],[1]⟩
 else if op=64523∨op=64522∨op=64520∨op=64526∨op=64524 then some ⟨[1,1,1],[]⟩
 else if op=167 then some ⟨[2],[1]⟩
 else if op=172∨op=173 then some ⟨[1],[2]⟩else none
set_option maxHeartbeats 16000000 in
theorem pQ (op:Int) (w:World):Calls G.P 176 #[.int .i64 op] w (iZ (cI op) (fun _=>False) w):=by
 refine ae (l:=[_]) Tryz.func176 rfl Tryz.ntmps176 rfl (Ok.start w) ?_
 repeat'(first|refine kQ ?_|(refine au fun b_=>?_)|(refine eH fun b_ _=>?_)|refine K7 ?_|(refine fV ?_ ?_<;>(intro hc_;try subst hc_)))
 all_goals first|rw[show cI 1=some ⟨[],[]⟩from by unfold cI;(repeat(first|rw[if_pos Mh]|rw[if_neg Mh]))]|rw[show cI 64525=some ⟨[],[]⟩from by unfold cI;(repeat(first|rw[if_pos Mh]|rw[if_neg Mh]))]|rw[show cI 64521=some ⟨[],[]⟩from by unfold cI;(repeat(first|rw[if_pos Mh]|rw[if_neg Mh]))]|rw[show cI 65=some ⟨[],[1]⟩from by unfold cI;(repeat(first|rw[if_pos Mh]|rw[if_neg Mh]))]|rw[show cI 63=some ⟨[],[1]⟩from by unfold cI;(repeat(first|rw[if_pos Mh]|rw[if_neg Mh]))]|rw[show cI 64528=some ⟨[],[1]⟩from by unfold cI;(repeat(first|rw[if_pos Mh]|rw[if_neg Mh]))]|rw[show cI 66=some ⟨[],[2]⟩from by unfold cI;(repeat(first|rw[if_pos Mh]|rw[if_neg Mh]))]|rw[show cI 210=some ⟨[],[3]⟩from by unfold cI;(repeat(first|rw[if_pos Mh]|rw[if_neg Mh]))]|rw[show cI 64=some ⟨[1],[1]⟩from by unfold cI;(repeat(first|rw[if_pos Mh]|rw[if_neg Mh]))]|rw[show cI 64523=some ⟨[1,1,1],[]⟩from by unfold cI;(repeat(first|rw[if_pos Mh]|rw[if_neg Mh]))]|rw[show cI 64522=some ⟨[1,1,1],[]⟩from by unfold cI;(repeat(first|rw[if_pos Mh]|rw[if_neg Mh]))]|rw[show cI 64520=some ⟨[1,1,1],[]⟩from by unfold cI;(repeat(first|rw[if_pos Mh]|rw[if_neg Mh]))]|rw[show cI 64526=some ⟨[1,1,1],[]⟩from by unfold cI;(repeat(first|rw[if_pos Mh]|rw[if_neg Mh]))]|rw[show cI 64524=some ⟨[1,1,1],[]⟩from by unfold cI;(repeat(first|rw[if_pos Mh]|rw[if_neg Mh]))]|rw[show cI 167=some ⟨[2],[1]⟩from by unfold cI;(repeat(first|rw[if_pos Mh]|rw[if_neg Mh]))]|rw[show cI 172=some ⟨[1],[2]⟩from by unfold cI;(repeat(first|rw[if_pos Mh]|rw[if_neg Mh]))]|rw[show cI 173=some ⟨[1],[2]⟩from by unfold cI;(repeat(first|rw[if_pos Mh]|rw[if_neg Mh]))]|rw[show cI op=none from by unfold cI;simp only[*,if_false,or_false]]
 all_goals exact ah.aF (.inl rfl) rfl rfl rfl rfl rfl aA rfl rfl fun w' hw'=>⟨⟨(_,_),rfl,cP,cP⟩,hw'.at⟩
def xN (op k t:Int) (ld ex:Bool):Option aL:=
 if k=17∧ld=true then some ⟨[1],[t]⟩else if k=17 then some ⟨[1,t],[]⟩else if op=69∨op=80 then some ⟨[t],[1]⟩
 else if(69<op∧op≤79)∨(80<op∧op≤90)then some ⟨[t,t],[1]⟩
 else if(103≤op∧op≤105)∨(121≤op∧op≤123)∨ex=true then some ⟨[t],[t]⟩
 else if(106≤op∧op≤120)∨(124≤op∧op≤138)then some ⟨[t,t],[t]⟩else none
def yn (op:Int):Option aL:=match cI op with
 |some f=>some f
 |none=>xN op (dZ op) (BY (dU op).2.1) (eh (dU op).2.1 [108,111,97,100]) (eh (dU op).2.1 [101,120,116,101,110,100])
theorem Ed:(kg.all fun r=>decide ((ft r.1).isSome=(yn r.1).isSome) && decide (((ft r.1).getD dy).params=((yn r.1).getD dy).params) && decide (((ft r.1).getD dy).results=((yn r.1).getD dy).results))=true:=by decide+kernel
theorem Dl (op:Int):ft op=yn op:=by
 cases h:eO op with
 |some r=>
  have:=List.all_eq_true.1 Ed r (List.mem_of_find?_eq_some h)
  have e:r.1=op:=by have:=List.find?_some h;simpa using this
  rw[e]at this
  simp only[Bool.and_eq_true,decide_eq_true_eq]at this
  obtain⟨⟨h1,h2⟩,h3⟩:=this
  cases ha:ft op with
  |none=>
   cases hb:yn op with
   |none=>rfl
   |some g=>rw[ha,hb]at h1;cases h1
  |some f=>
   cases hb:yn op with
   |none=>rw[ha,hb]at h1;cases h1
   |some g=>
    rw[ha,hb]at h2 h3
    obtain⟨f1,f2⟩:=f
    obtain⟨g1,g2⟩:=g
    dsimp only[Option.getD_some]at h2 h3
    rw[h2,h3]
 |none=>
  have hne:∀c,(eO c).isSome=true→op≠c:=fun c hc he=>by rw[←he,h]at hc;cases hc
  have hx:∀(b:Int) (n:Nat),(∀i,i<n→(eO (b+(i:Nat))).isSome=true)→¬(b≤op∧op<b+n):=fun b n hall ⟨h1,h2⟩=>by
   have:=hall (op - b).toNat Mj
   rw[show b+((op - b).toNat:Int)=op from by omega,h]at this;cases this
  have r1:=hx 69 22 LX
  have r2:=hx 103 36 LX
  have e1:gz (gF op)=[]:=by rw[Av];unfold dU;rw[h];rfl
  have e2:dZ op=0:=by unfold dZ dU;rw[h];rfl
  have e3:(dU op).2.1=[]:=by unfold dU;rw[h];rfl
  have p1:=hne 1 LX
  have p2:=hne 64525 LX
  have p3:=hne 64521 LX
  have p4:=hne 65 LX
  have p5:=hne 63 LX
  have p6:=hne 64528 LX
  have p7:=hne 66 LX
  have p8:=hne 210 LX
  have p9:=hne 64 LX
  have p10:=hne 64523 LX
  have p11:=hne 64522 LX
  have p12:=hne 64520 LX
  have p13:=hne 64526 LX
  have p14:=hne 64524 LX
  have p15:=hne 167 LX
  have p16:=hne 172 LX
  have p17:=hne 173 LX
  have s1:ft op=none:=by
   unfold ft
   rw[e1,if_neg Mj,if_neg Mj,if_neg Mj,if_neg Mj,if_neg Mj,if_neg Mj,if_neg Mj,if_neg Mj,if_neg Mh]
  have s2:cI op=none:=by
   unfold cI
   rw[if_neg Mj,if_neg Mj,if_neg Mj,if_neg Mj,if_neg Mj,if_neg Mj,if_neg Mj,if_neg Mj]
  have s3:eh [] [101,120,116,101,110,100]=false:=by decide+kernel
  rw[s1]
  unfold yn
  rw[s2]
  dsimp only
  unfold xN
  rw[e2,e3,s3,if_neg Mj,if_neg Mj,if_neg Mj,if_neg Mj,if_neg (by rintro(h|h|h)<;>first|omega|cases h),if_neg Mj]
theorem A7:(kg.all fun r=>decide (r.2.1.length≤100))=true:=by decide+kernel
theorem rX (op:Int):(dU op).2.1.length≤1000:=by
 unfold dU
 cases h:eO op with
 |none=>exact Nat.zero_le _
 |some r=>
  have:=List.all_eq_true.1 A7 r (List.mem_of_find?_eq_some h)
  simp only[decide_eq_true_eq]at this
  show r.2.1.length≤1000
  omega
set_option maxHeartbeats 64000000 in
theorem sb (op k t:Int) (ld ex:Bool) (s:List UInt8) (w:World) (hpl:∀w',Calls G.P 176 #[.int .i64 op] w' (iZ none (fun _=>False) w')) (hof:∀w',Calls G.P 86 #[.int .i64 op] w' fun e w2=>e=.returned (.int .i64 k)∧Ext w' w2) (hnm:∀w',Calls G.P 177 #[.int .i64 op] w' fun e w2=>e=.returned (.string ⟨s.toArray⟩)∧Ext w' w2) (hty:∀w',Calls G.P 178 #[.string ⟨s.toArray⟩] w' fun e w2=>e=.returned (.int .i64 t)∧Ext w' w2) (hl:∀w',Calls G.P 179 #[.string ⟨s.toArray⟩,.string ⟨#[108,111,97,100]⟩] w' fun e w2=>e=.returned (.bool ld)∧Ext w' w2) (he:∀w',Calls G.P 179 #[.string ⟨s.toArray⟩,.string ⟨#[101,120,116,101,110,100]⟩] w' fun e w2=>e=.returned (.bool ex)∧Ext w' w2):Calls G.P 151 #[.int .i64 op] w (iZ (xN op k t ld ex) (fun _=>False) w):=by
 obtain⟨r,hr⟩:∃r,xN op k t ld ex=r:=⟨_,rfl⟩
 rw[hr]
 unfold xN at hr
 by_cases hk:k=17
 ·cases ld
  case' true=>rw[if_pos ⟨hk,rfl⟩]at hr
  case' false=>rw[if_neg (fun h=>by cases h.2),if_pos hk]at hr
  all_goals
   subst hr
   subst hk
   refine ae (l:=[_]) Tryz.func151 rfl Tryz.ntmps151 rfl (Ok.start w) ?_
   repeat'(first|refine ar ?_|(refine au fun b_=>?_)|(refine eH fun b_ _=>?_)|refine K7 ?_|refine Lq ?_|(refine aa.ai (f:=177) ?_;refine aa.aq rfl rfl rfl (fun w' hw'=>hnm w') ?_)|(refine aa.ai (f:=178) ?_;refine aa.aq rfl rfl rfl (fun w' hw'=>hty w') ?_)|(refine aa.cm (f:=179) ?_;refine aa.bV ny rfl rfl rfl (fun w' hw'=>hl w') ?_)|(refine aa.ai (f:=176) ?_;refine aa.he (HE.mM (r:=none) ak rfl rfl (fun w' hw'=>hpl w')) rfl ?_;rintro⟨D_,p_,c_,q_,d_⟩ hD_;dsimp only)|fail)
   all_goals exact co
 ·rw[if_neg (fun h=>hk h.1),if_neg hk]at hr
  cases ex
  all_goals
   simp only[reduceCtorEq,or_false,eq_self,or_true,if_true]at hr
   rcases(show op<69∨op=69∨(69<op∧op≤79)∨op=80∨(80<op∧op≤90)∨(90<op∧op<103)∨(103≤op∧op≤105)∨(105<op∧op<121)∨(121≤op∧op≤123)∨(123<op∧op≤138)∨138<op by omega)with ho|ho|ho|ho|ho|ho|ho|ho|ho|ho|ho
   all_goals
    repeat(first|rw[if_pos Mj]at hr|rw[if_neg Mj]at hr)
    subst hr
    refine ae (l:=[_]) Tryz.func151 rfl Tryz.ntmps151 rfl (Ok.start w) ?_
    repeat'(first|refine ar ?_|(refine au fun b_=>?_)|(refine eH fun b_ _=>?_)|refine K7 ?_|refine Lq ?_|(refine aa.ai (f:=177) ?_;refine aa.aq rfl rfl rfl (fun w' hw'=>hnm w') ?_)|(refine aa.ai (f:=178) ?_;refine aa.aq rfl rfl rfl (fun w' hw'=>hty w') ?_)|(refine aa.cm (f:=179) ?_;refine aa.bV ny rfl rfl rfl (fun w' hw'=>he w') ?_)|(refine aa.ai (f:=176) ?_;refine aa.he (HE.mM (r:=none) ak rfl rfl (fun w' hw'=>hpl w')) rfl ?_;rintro⟨D_,p_,c_,q_,d_⟩ hD_;dsimp only)|fail)
    all_goals exact co
set_option maxHeartbeats 16000000 in
theorem uQ (op:Int) (w:World):Calls G.P 151 #[.int .i64 op] w (iZ (ft op) (fun _=>False) w):=by
 rw[Dl]
 unfold yn
 cases hp:cI op with
 |some f=>
  dsimp only
  refine ae (l:=[_]) Tryz.func151 rfl Tryz.ntmps151 rfl (Ok.start w) ?_
  repeat'(first|refine ar ?_|(refine au fun b_=>?_)|(refine aa.ai (f:=176) ?_;refine aa.he (HE.mM (r:=some f) ak rfl rfl (fun w' hw'=>by have:=pQ op w';rw[hp]at this;exact this)) rfl ?_;rintro⟨D_,p_,c_,q_,d_⟩ hD_;dsimp only)|fail)
  all_goals(refine ah.aF (.inl rfl) rfl rfl rfl rfl rfl aA rfl rfl ?_;exact fun w' hw'=>bg.iI (f0:=(some f).getD dy) (tf:=fun y:Value×Value=>.tuple #[.agg #[y.1,y.2],.bool true]) ⟨D_,p_,c_,q_,d_⟩ hw' ak ak hD_)
 |none=>
  exact sb op _ _ _ _ _ w (fun w'=>by have:=pQ op w';rw[hp]at this;exact this) (fun w'=>cW op w') (fun w'=>sI op w') (fun w'=>BB _ w' (rX op)) (fun w'=>fB _ _ w' (rX op) Mh) (fun w'=>fB _ _ w' (rX op) Mh)
end Go.Proofs.YtgbgnipidakdhaaGreatDoor
