/- ref05.Sig: the reference's signatures. -/
import Derived.Test.YtdkcljdfbemnbaaGreatDoorJWj
namespace Go.Proofs.YtdkcljdfbemnbaaGreatDoor
open Go.RowKit _root_.Go.Proofs.Tryz
set_option maxHeartbeats 64000000
set_option maxRecDepth 100000
def F6 (s:List UInt8):Int:=if 4<s.length∧(s.take 4==[105,54,52,46])=true then 2 else 1
theorem DX (s:List UInt8) (w:World) (_hs:s.length≤1000):Calls G.P 202 #[.string ⟨s.toArray⟩] w fun e w'=>e=.returned (.int .i64 (F6 s))∧Ext w w':=by
 have z1:(⟨s.toArray⟩:ByteArray).size=s.length:=rfl
 refine ae (l:=[.string ⟨s.toArray⟩]) func202 rfl ntmps202 rfl (Ok.start w) ?_
 by_cases h4:4<s.length
 ·have e:((ByteArray.mk s.toArray).extract 0 4).data.toList=s.take 4:=by
   show gZ _=_
   rw[kb];simp
  repeat'(first|refine ar ?_|(refine aa.CC ?_;refine aa.yg rfl (Yl.ec (i:=4) underlying9 rfl rfl rfl Pc) rfl ?_)|(refine bC ?_ ?_<;>intro hc_))
  ·have hc2:(s.take 4==[105,54,52,46])=true:=by rw[←e];exact hc_
   exact ah.aF rfl rfl fun w' hw'=>⟨by unfold F6;rw[if_pos ⟨h4,hc2⟩],hw'.at⟩
  ·have hc2:(s.take 4==[105,54,52,46])=false:=by rw[←e];exact hc_
   exact ah.aF rfl rfl fun w' hw'=>⟨by unfold F6;rw[if_neg (by rw[hc2];simp)],hw'.at⟩
 ·repeat'(first|refine ar ?_|(refine bC ?_ ?_<;>intro hc_))
  all_goals first|omega|exact ah.aF rfl rfl fun w' hw'=>⟨by unfold F6;rw[if_neg Pc],hw'.at⟩
theorem uy (p0 p1:Option Addr) (n0 n1 c0 c1:Nat) (w:World):Calls G.P 204 #[.slice p0 n0 c0,.slice p1 n1 c1] w fun e w'=>e=.returned (.agg #[.slice p0 n0 c0,.slice p1 n1 c1])∧Ext w w':=by
 refine ae (l:=[_,_]) func204 rfl ntmps204 rfl (Ok.start w) ?_
 repeat'(first|refine ar ?_|(refine ay fun b_=>?_)|fail)
 all_goals exact qr
def di (op:Int):Option aO:=
 if op=1∨op=64525∨op=64521 then some ⟨[],[]⟩
 else if op=65∨op=63∨op=64528 then some ⟨[],[1]⟩
 else if op=66 then some ⟨[],[2]⟩
 else if op=210 then some ⟨[],[3]⟩
 else if op=64 then some ⟨[1],[1]⟩
 else if op=64523∨op=64522∨op=64520∨op=64526∨op=64524 then some ⟨[1,1,1],[]⟩
 else if op=167 then some ⟨[2],[1]⟩
 else if op=172∨op=173 then some ⟨[1],[2]⟩else none
variable (op:Int) (w:World)
theorem si:Calls G.P 200 #[.int .i64 op] w (iU (di op) (fun _=>False) w):=by
 refine ae (l:=[_]) func200 rfl ntmps200 rfl (Ok.start w) ?_
 repeat'(first|refine mq ?_|(refine ay fun b_=>?_)|(refine fB fun b_ _=>?_)|refine Ob ?_|(refine gL ?_ ?_<;>(intro hc_;try subst hc_)))
 all_goals first|rw[show di 1=some ⟨[],[]⟩from by unfold di;(repeat(first|rw[if_pos Pb]|rw[if_neg Pb]))]|rw[show di 64525=some ⟨[],[]⟩from by unfold di;(repeat(first|rw[if_pos Pb]|rw[if_neg Pb]))]|rw[show di 64521=some ⟨[],[]⟩from by unfold di;(repeat(first|rw[if_pos Pb]|rw[if_neg Pb]))]|rw[show di 65=some ⟨[],[1]⟩from by unfold di;(repeat(first|rw[if_pos Pb]|rw[if_neg Pb]))]|rw[show di 63=some ⟨[],[1]⟩from by unfold di;(repeat(first|rw[if_pos Pb]|rw[if_neg Pb]))]|rw[show di 64528=some ⟨[],[1]⟩from by unfold di;(repeat(first|rw[if_pos Pb]|rw[if_neg Pb]))]|rw[show di 66=some ⟨[],[2]⟩from by unfold di;(repeat(first|rw[if_pos Pb]|rw[if_neg Pb]))]|rw[show di 210=some ⟨[],[3]⟩from by unfold di;(repeat(first|rw[if_pos Pb]|rw[if_neg Pb]))]|rw[show di 64=some ⟨[1],[1]⟩from by unfold di;(repeat(first|rw[if_pos Pb]|rw[if_neg Pb]))]|rw[show di 64523=some ⟨[1,1,1],[]⟩from by unfold di;(repeat(first|rw[if_pos Pb]|rw[if_neg Pb]))]|rw[show di 64522=some ⟨[1,1,1],[]⟩from by unfold di;(repeat(first|rw[if_pos Pb]|rw[if_neg Pb]))]|rw[show di 64520=some ⟨[1,1,1],[]⟩from by unfold di;(repeat(first|rw[if_pos Pb]|rw[if_neg Pb]))]|rw[show di 64526=some ⟨[1,1,1],[]⟩from by unfold di;(repeat(first|rw[if_pos Pb]|rw[if_neg Pb]))]|rw[show di 64524=some ⟨[1,1,1],[]⟩from by unfold di;(repeat(first|rw[if_pos Pb]|rw[if_neg Pb]))]|rw[show di 167=some ⟨[2],[1]⟩from by unfold di;(repeat(first|rw[if_pos Pb]|rw[if_neg Pb]))]|rw[show di 172=some ⟨[1],[2]⟩from by unfold di;(repeat(first|rw[if_pos Pb]|rw[if_neg Pb]))]|rw[show di 173=some ⟨[1],[2]⟩from by unfold di;(repeat(first|rw[if_pos Pb]|rw[if_neg Pb]))]|rw[show di op=none from by unfold di;simp only[*,if_false,or_false]]
 all_goals exact ah.aM (.inl rfl) rfl rfl rfl rfl rfl aH rfl rfl fun w' hw'=>⟨⟨(_,_),rfl,dj,dj⟩,hw'.at⟩
def Aw (op k t:Int) (ld ex:Bool):Option aO:=
 if k=17∧ld=true then some ⟨[1],[t]⟩else if k=17 then some ⟨[1,t],[]⟩else if op=69∨op=80 then some ⟨[t],[1]⟩
 else if(69<op∧op≤79)∨(80<op∧op≤90)then some ⟨[t,t],[1]⟩
 else if(103≤op∧op≤105)∨(121≤op∧op≤123)∨ex=true then some ⟨[t],[t]⟩
 else if(106≤op∧op≤120)∨(124≤op∧op≤138)then some ⟨[t,t],[t]⟩else none
def AH (op:Int):Option aO:=match di op with
 |some f=>some f
 |none=>Aw op (eQ op) (F6 (eE op).2.1) (eT (eE op).2.1 [108,111,97,100]) (eT (eE op).2.1 [101,120,116,101,110,100])
theorem Hc:(lL.all fun r=>decide ((fP r.1).isSome=(AH r.1).isSome) && decide (((fP r.1).getD dF).params=((AH r.1).getD dF).params) && decide (((fP r.1).getD dF).results=((AH r.1).getD dF).results))=true:=by decide+kernel
theorem Ha:fP op=AH op:=by
 cases h:fy op with
 |some r=>
  have:=List.all_eq_true.1 Hc r (List.mem_of_find?_eq_some h)
  have e:r.1=op:=by have:=List.find?_some h;simpa using this
  rw[e]at this
  simp only[Bool.and_eq_true,decide_eq_true_eq]at this
  obtain⟨⟨h1,h2⟩,h3⟩:=this
  cases ha:fP op with
  |none=>
   cases hb:AH op with
   |none=>rfl
   |some g=>rw[ha,hb]at h1;cases h1
  |some f=>
   cases hb:AH op with
   |none=>rw[ha,hb]at h1;cases h1
   |some g=>
    rw[ha,hb]at h2 h3
    obtain⟨f1,f2⟩:=f
    obtain⟨g1,g2⟩:=g
    dsimp only[Option.getD_some]at h2 h3
    rw[h2,h3]
 |none=>
  have hne:∀c,(fy c).isSome=true→op≠c:=fun c hc he=>by rw[←he,h]at hc;cases hc
  have hx:∀(b:Int) (n:Nat),(∀i,i<n→(fy (b+(i:Nat))).isSome=true)→¬(b≤op∧op<b+n):=fun b n hall ⟨h1,h2⟩=>by
   have:=hall (op - b).toNat Pc
   rw[show b+((op - b).toNat:Int)=op from by omega,h]at this;cases this
  have r1:=hx 69 22 O3
  have r2:=hx 103 36 O3
  have e1:gZ (hZ op)=[]:=by rw[CG];unfold eE;rw[h];rfl
  have e2:eQ op=0:=by unfold eQ eE;rw[h];rfl
  have e3:(eE op).2.1=[]:=by unfold eE;rw[h];rfl
  have p1:=hne 1 O3
  have p2:=hne 64525 O3
  have p3:=hne 64521 O3
  have p4:=hne 65 O3
  have p5:=hne 63 O3
  have p6:=hne 64528 O3
  have p7:=hne 66 O3
  have p8:=hne 210 O3
  have p9:=hne 64 O3
  have p10:=hne 64523 O3
  have p11:=hne 64522 O3
  have p12:=hne 64520 O3
  have p13:=hne 64526 O3
  have p14:=hne 64524 O3
  have p15:=hne 167 O3
  have p16:=hne 172 O3
  have p17:=hne 173 O3
  have s1:fP op=none:=by
   unfold fP
   rw[e1,if_neg Pc,if_neg Pc,if_neg Pc,if_neg Pc,if_neg Pc,if_neg Pc,if_neg Pc,if_neg Pc,if_neg Pb]
  have s2:di op=none:=by
   unfold di
   rw[if_neg Pc,if_neg Pc,if_neg Pc,if_neg Pc,if_neg Pc,if_neg Pc,if_neg Pc,if_neg Pc]
  have s3:eT [] [101,120,116,101,110,100]=false:=by decide+kernel
  rw[s1]
  unfold AH
  rw[s2]
  dsimp only
  unfold Aw
  rw[e2,e3,s3,if_neg Pc,if_neg Pc,if_neg Pc,if_neg Pc,if_neg (by rintro(h|h|h)<;>first|omega|cases h),if_neg Pc]
theorem DH:(lL.all fun r=>decide (r.2.1.length≤100))=true:=by decide+kernel
theorem uW:(eE op).2.1.length≤1000:=by
 unfold eE
 cases h:fy op with
 |none=>exact Nat.zero_le _
 |some r=>
  have:=List.all_eq_true.1 DH r (List.mem_of_find?_eq_some h)
  simp only[decide_eq_true_eq]at this
  show r.2.1.length≤1000
  omega
theorem ux (op k t:Int) (ld ex:Bool) (s:List UInt8) (w:World) (hpl:∀w',Calls G.P 200 #[.int .i64 op] w' (iU none (fun _=>False) w')) (hof:∀w',Calls G.P 105 #[.int .i64 op] w' fun e w2=>e=.returned (.int .i64 k)∧Ext w' w2) (hnm:∀w',Calls G.P 201 #[.int .i64 op] w' fun e w2=>e=.returned (.string ⟨s.toArray⟩)∧Ext w' w2) (hty:∀w',Calls G.P 202 #[.string ⟨s.toArray⟩] w' fun e w2=>e=.returned (.int .i64 t)∧Ext w' w2) (hl:∀w',Calls G.P 203 #[.string ⟨s.toArray⟩,.string ⟨#[108,111,97,100]⟩] w' fun e w2=>e=.returned (.bool ld)∧Ext w' w2) (he:∀w',Calls G.P 203 #[.string ⟨s.toArray⟩,.string ⟨#[101,120,116,101,110,100]⟩] w' fun e w2=>e=.returned (.bool ex)∧Ext w' w2):Calls G.P 182 #[.int .i64 op] w (iU (Aw op k t ld ex) (fun _=>False) w):=by
 have:=hof;clear this
 obtain⟨r,hr⟩:∃r,Aw op k t ld ex=r:=⟨_,rfl⟩
 rw[hr]
 unfold Aw at hr
 by_cases hk:k=17
 ·cases ld
  case' true=>rw[if_pos ⟨hk,rfl⟩]at hr
  case' false=>rw[if_neg (fun h=>by cases h.2),if_pos hk]at hr
  all_goals
   subst hr
   subst hk
   refine ae (l:=[_]) func182 rfl ntmps182 rfl (Ok.start w) ?_
   repeat'(first|refine ar ?_|(refine ay fun b_=>?_)|(refine fB fun b_ _=>?_)|refine Ob ?_|refine Ov ?_|(refine aa.aj (f:=201) ?_;refine aa.au rfl rfl rfl (fun w' hw'=>hnm w') ?_)|(refine aa.aj (f:=202) ?_;refine aa.au rfl rfl rfl (fun w' hw'=>hty w') ?_)|(refine aa.cQ (f:=203) ?_;refine aa.cH pF rfl rfl rfl (fun w' hw'=>hl w') ?_)|(refine aa.aj (f:=200) ?_;refine aa.he (HE.mR (r:=none) ak rfl rfl (fun w' hw'=>hpl w')) rfl ?_;rintro⟨D_,p_,c_,q_,d_⟩ hD_;dsimp only)|fail)
   all_goals exact gt
 ·rw[if_neg (fun h=>hk h.1),if_neg hk]at hr
  cases ex
  all_goals
   simp only[reduceCtorEq,or_false,eq_self,or_true,if_true]at hr
   rcases(show op<69∨op=69∨(69<op∧op≤79)∨op=80∨(80<op∧op≤90)∨(90<op∧op<103)∨(103≤op∧op≤105)∨(105<op∧op<121)∨(121≤op∧op≤123)∨(123<op∧op≤138)∨138<op by omega)with ho|ho|ho|ho|ho|ho|ho|ho|ho|ho|ho
   all_goals
    repeat(first|rw[if_pos Pc]at hr|rw[if_neg Pc]at hr)
    subst hr
    refine ae (l:=[_]) func182 rfl ntmps182 rfl (Ok.start w) ?_
    repeat'(first|refine ar ?_|(refine ay fun b_=>?_)|(refine fB fun b_ _=>?_)|refine Ob ?_|refine Ov ?_|(refine aa.aj (f:=201) ?_;refine aa.au rfl rfl rfl (fun w' hw'=>hnm w') ?_)|(refine aa.aj (f:=202) ?_;refine aa.au rfl rfl rfl (fun w' hw'=>hty w') ?_)|(refine aa.cQ (f:=203) ?_;refine aa.cH pF rfl rfl rfl (fun w' hw'=>he w') ?_)|(refine aa.aj (f:=200) ?_;refine aa.he (HE.mR (r:=none) ak rfl rfl (fun w' hw'=>hpl w')) rfl ?_;rintro⟨D_,p_,c_,q_,d_⟩ hD_;dsimp only)|fail)
    all_goals exact gt
theorem xA:Calls G.P 182 #[.int .i64 op] w (iU (fP op) (fun _=>False) w):=by
 rw[Ha]
 unfold AH
 cases hp:di op with
 |some f=>
  dsimp only
  refine ae (l:=[_]) func182 rfl ntmps182 rfl (Ok.start w) ?_
  repeat'(first|refine ar ?_|(refine ay fun b_=>?_)|(refine aa.aj (f:=200) ?_;refine aa.he (HE.mR (r:=some f) ak rfl rfl (fun w' hw'=>by have:=si op w';rw[hp]at this;exact this)) rfl ?_;rintro⟨D_,p_,c_,q_,d_⟩ hD_;dsimp only)|fail)
  all_goals(refine ah.aM (.inl rfl) rfl rfl rfl rfl rfl aH rfl rfl ?_;exact fun w' hw'=>bD.jm (f0:=(some f).getD dF) (tf:=fun y:Value×Value=>.tuple #[.agg #[y.1,y.2],.bool true]) ⟨D_,p_,c_,q_,d_⟩ hw' ak ak hD_)
 |none=>
  exact ux op _ _ _ _ _ w (fun w'=>by have:=si op w';rw[hp]at this;exact this) (fun w'=>dq op w') (fun w'=>ue op w') (fun w'=>DX _ w' (uW op)) (fun w'=>gi _ _ w' (uW op) Pb) (fun w'=>gi _ _ w' (uW op) Pb)
end Go.Proofs.YtdkcljdfbemnbaaGreatDoor
