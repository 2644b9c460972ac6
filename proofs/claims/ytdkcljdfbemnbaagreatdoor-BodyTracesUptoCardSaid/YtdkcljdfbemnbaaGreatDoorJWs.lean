import Derived.Test.YtdkcljdfbemnbaaGreatDoorJWi
namespace Go.Proofs.YtdkcljdfbemnbaaGreatDoor
open Go.RowKit _root_.Go.Proofs.Tryz
set_option maxHeartbeats 64000000
set_option maxRecDepth 100000
def Gb (s:List UInt8):Int:=if 4<s.length∧(s.take 4==[105,54,52,46])=true then 2 else 1
theorem Ea (s:List UInt8) (w:World) (_hs:s.length≤1000):Calls G.P 202 #[.string ⟨s.toArray⟩] w fun e w'=>e=.returned (.int .i64 (Gb s))∧Ext w w':=by
 have z1:(⟨s.toArray⟩:ByteArray).size=s.length:=rfl
 refine ae (l:=[.string ⟨s.toArray⟩]) func202 rfl ntmps202 rfl (Ok.start w) ?_
 by_cases h4:4<s.length
 ·have e:((ByteArray.mk s.toArray).extract 0 4).data.toList=s.take 4:=by
   show hG _=_
   rw[jZ];simp
  repeat'(first|refine ar ?_|(refine aa.CF ?_;refine aa.yg rfl (Yl.ed (i:=4) underlying9 rfl rfl rfl Pi) rfl ?_)|(refine bC ?_ ?_<;>intro hc_))
  ·have hc2:(s.take 4==[105,54,52,46])=true:=by rw[←e];exact hc_
   exact ah.aG rfl rfl fun w' hw'=>⟨by unfold Gb;rw[if_pos ⟨h4,hc2⟩],hw'.at⟩
  ·have hc2:(s.take 4==[105,54,52,46])=false:=by rw[←e];exact hc_
   exact ah.aG rfl rfl fun w' hw'=>⟨by unfold Gb;rw[if_neg (by rw[hc2];simp)],hw'.at⟩
 ·repeat'(first|refine ar ?_|(refine bC ?_ ?_<;>intro hc_))
  all_goals first|omega|exact ah.aG rfl rfl fun w' hw'=>⟨by unfold Gb;rw[if_neg Pi],hw'.at⟩
theorem uE (p0 p1:Option Addr) (n0 n1 c0 c1:Nat) (w:World):Calls G.P 204 #[.slice p0 n0 c0,.slice p1 n1 c1] w fun e w'=>e=.returned (.agg #[.slice p0 n0 c0,.slice p1 n1 c1])∧Ext w w':=by
 refine ae (l:=[_,_]) func204 rfl ntmps204 rfl (Ok.start w) ?_
 repeat'(first|refine ar ?_|(refine ay fun b_=>?_)|fail)
 all_goals exact gc
def di (op:Int):Option aO:=
 if op=1∨op=64525∨op=64521 then some ⟨[],[]⟩
 else if op=65∨op=63∨op=64528 then some ⟨[],[1]⟩
 else if op=66 then some ⟨[],[2]⟩
 else if op=210 then some ⟨[],[3]⟩
 else if op=64 then some ⟨[1],[1]⟩
 else if op=64523∨op=64522∨op=64520∨op=64526∨op=64524 then some ⟨[1,1,1],[]⟩
 else if op=167 then some ⟨[2],[1]⟩
 else if op=172∨op=173 then some ⟨[1],[2]⟩else none
theorem sm (op:Int) (w:World):Calls G.P 200 #[.int .i64 op] w (iV (di op) (fun _=>False) w):=by
 refine ae (l:=[_]) func200 rfl ntmps200 rfl (Ok.start w) ?_
 repeat'(first|refine mu ?_|(refine ay fun b_=>?_)|(refine fC fun b_ _=>?_)|refine Oh ?_|(refine gP ?_ ?_<;>(intro hc_;try subst hc_)))
 all_goals first|rw[show di 1=some ⟨[],[]⟩from by unfold di;(repeat(first|rw[if_pos Ph]|rw[if_neg Ph]))]|rw[show di 64525=some ⟨[],[]⟩from by unfold di;(repeat(first|rw[if_pos Ph]|rw[if_neg Ph]))]|rw[show di 64521=some ⟨[],[]⟩from by unfold di;(repeat(first|rw[if_pos Ph]|rw[if_neg Ph]))]|rw[show di 65=some ⟨[],[1]⟩from by unfold di;(repeat(first|rw[if_pos Ph]|rw[if_neg Ph]))]|rw[show di 63=some ⟨[],[1]⟩from by unfold di;(repeat(first|rw[if_pos Ph]|rw[if_neg Ph]))]|rw[show di 64528=some ⟨[],[1]⟩from by unfold di;(repeat(first|rw[if_pos Ph]|rw[if_neg Ph]))]|rw[show di 66=some ⟨[],[2]⟩from by unfold di;(repeat(first|rw[if_pos Ph]|rw[if_neg Ph]))]|rw[show di 210=some ⟨[],[3]⟩from by unfold di;(repeat(first|rw[if_pos Ph]|rw[if_neg Ph]))]|rw[show di 64=some ⟨[1],[1]⟩from by unfold di;(repeat(first|rw[if_pos Ph]|rw[if_neg Ph]))]|rw[show di 64523=some ⟨[1,1,1],[]⟩from by unfold di;(repeat(first|rw[if_pos Ph]|rw[if_neg Ph]))]|rw[show di 64522=some ⟨[1,1,1],[]⟩from by unfold di;(repeat(first|rw[if_pos Ph]|rw[if_neg Ph]))]|rw[show di 64520=some ⟨[1,1,1],[]⟩from by unfold di;(repeat(first|rw[if_pos Ph]|rw[if_neg Ph]))]|rw[show di 64526=some ⟨[1,1,1],[]⟩from by unfold di;(repeat(first|rw[if_pos Ph]|rw[if_neg Ph]))]|rw[show di 64524=some ⟨[1,1,1],[]⟩from by unfold di;(repeat(first|rw[if_pos Ph]|rw[if_neg Ph]))]|rw[show di 167=some ⟨[2],[1]⟩from by unfold di;(repeat(first|rw[if_pos Ph]|rw[if_neg Ph]))]|rw[show di 172=some ⟨[1],[2]⟩from by unfold di;(repeat(first|rw[if_pos Ph]|rw[if_neg Ph]))]|rw[show di 173=some ⟨[1],[2]⟩from by unfold di;(repeat(first|rw[if_pos Ph]|rw[if_neg Ph]))]|rw[show di op=none from by unfold di;simp only[*,if_false,or_false]]
 all_goals exact ah.aM (.inl rfl) rfl rfl rfl rfl rfl aH rfl rfl fun w' hw'=>⟨⟨(_,_),rfl,dj,dj⟩,hw'.at⟩
def AA (op k t:Int) (ld ex:Bool):Option aO:=
 if k=17∧ld=true then some ⟨[1],[t]⟩else if k=17 then some ⟨[1,t],[]⟩else if op=69∨op=80 then some ⟨[t],[1]⟩
 else if(69<op∧op≤79)∨(80<op∧op≤90)then some ⟨[t,t],[1]⟩
 else if(103≤op∧op≤105)∨(121≤op∧op≤123)∨ex=true then some ⟨[t],[t]⟩
 else if(106≤op∧op≤120)∨(124≤op∧op≤138)then some ⟨[t,t],[t]⟩else none
def AL (op:Int):Option aO:=match di op with
 |some f=>some f
 |none=>AA op (eR op) (Gb (eH op).2.1) (eT (eH op).2.1 [108,111,97,100]) (eT (eH op).2.1 [101,120,116,101,110,100])
theorem Hj:(lL.all fun r=>decide ((fQ r.1).isSome=(AL r.1).isSome) && decide (((fQ r.1).getD dF).params=((AL r.1).getD dF).params) && decide (((fQ r.1).getD dF).results=((AL r.1).getD dF).results))=true:=by decide+kernel
theorem Hh (op:Int):fQ op=AL op:=by
 cases h:fz op with
 |some r=>
  have:=List.all_eq_true.1 Hj r (List.mem_of_find?_eq_some h)
  have e:r.1=op:=by have:=List.find?_some h;simpa using this
  rw[e]at this
  simp only[Bool.and_eq_true,decide_eq_true_eq]at this
  obtain⟨⟨h1,h2⟩,h3⟩:=this
  cases ha:fQ op with
  |none=>
   cases hb:AL op with
   |none=>rfl
   |some g=>rw[ha,hb]at h1;cases h1
  |some f=>
   cases hb:AL op with
   |none=>rw[ha,hb]at h1;cases h1
   |some g=>
    rw[ha,hb]at h2 h3
    obtain⟨f1,f2⟩:=f
    obtain⟨g1,g2⟩:=g
    dsimp only[Option.getD_some]at h2 h3
    rw[h2,h3]
 |none=>
  have hne:∀c,(fz c).isSome=true→op≠c:=fun c hc he=>by rw[←he,h]at hc;cases hc
  have hx:∀(b:Int) (n:Nat),(∀i,i<n→(fz (b+(i:Nat))).isSome=true)→¬(b≤op∧op<b+n):=fun b n hall ⟨h1,h2⟩=>by
   have:=hall (op - b).toNat Pi
   rw[show b+((op - b).toNat:Int)=op from by omega,h]at this;cases this
  have r1:=hx 69 22 O9
  have r2:=hx 103 36 O9
  have e1:hG (ia op)=[]:=by rw[CJ];unfold eH;rw[h];rfl
  have e2:eR op=0:=by unfold eR eH;rw[h];rfl
  have e3:(eH op).2.1=[]:=by unfold eH;rw[h];rfl
  have p1:=hne 1 O9
  have p2:=hne 64525 O9
  have p3:=hne 64521 O9
  have p4:=hne 65 O9
  have p5:=hne 63 O9
  have p6:=hne 64528 O9
  have p7:=hne 66 O9
  have p8:=hne 210 O9
  have p9:=hne 64 O9
  have p10:=hne 64523 O9
  have p11:=hne 64522 O9
  have p12:=hne 64520 O9
  have p13:=hne 64526 O9
  have p14:=hne 64524 O9
  have p15:=hne 167 O9
  have p16:=hne 172 O9
  have p17:=hne 173 O9
  have s1:fQ op=none:=by
   unfold fQ
   rw[e1,if_neg Pi,if_neg Pi,if_neg Pi,if_neg Pi,if_neg Pi,if_neg Pi,if_neg Pi,if_neg Pi,if_neg Ph]
  have s2:di op=none:=by
   unfold di
   rw[if_neg Pi,if_neg Pi,if_neg Pi,if_neg Pi,if_neg Pi,if_neg Pi,if_neg Pi,if_neg Pi]
  have s3:eT [] [101,120,116,101,110,100]=false:=by decide+kernel
  rw[s1]
  unfold AL
  rw[s2]
  dsimp only
  unfold AA
  rw[e2,e3,s3,if_neg Pi,if_neg Pi,if_neg Pi,if_neg Pi,if_neg (by rintro(h|h|h)<;>first|omega|cases h),if_neg Pi]
theorem DL:(lL.all fun r=>decide (r.2.1.length≤100))=true:=by decide+kernel
theorem ve (op:Int):(eH op).2.1.length≤1000:=by
 unfold eH
 cases h:fz op with
 |none=>exact Nat.zero_le _
 |some r=>
  have:=List.all_eq_true.1 DL r (List.mem_of_find?_eq_some h)
  simp only[decide_eq_true_eq]at this
  show r.2.1.length≤1000
  omega
theorem uD (op k t:Int) (ld ex:Bool) (s:List UInt8) (w:World) (hpl:∀w',Calls G.P 200 #[.int .i64 op] w' (iV none (fun _=>False) w')) (hof:∀w',Calls G.P 105 #[.int .i64 op] w' fun e w2=>e=.returned (.int .i64 k)∧Ext w' w2) (hnm:∀w',Calls G.P 201 #[.int .i64 op] w' fun e w2=>e=.returned (.string ⟨s.toArray⟩)∧Ext w' w2) (hty:∀w',Calls G.P 202 #[.string ⟨s.toArray⟩] w' fun e w2=>e=.returned (.int .i64 t)∧Ext w' w2) (hl:∀w',Calls G.P 203 #[.string ⟨s.toArray⟩,.string ⟨#[108,111,97,100]⟩] w' fun e w2=>e=.returned (.bool ld)∧Ext w' w2) (he:∀w',Calls G.P 203 #[.string ⟨s.toArray⟩,.string ⟨#[101,120,116,101,110,100]⟩] w' fun e w2=>e=.returned (.bool ex)∧Ext w' w2):Calls G.P 182 #[.int .i64 op] w (iV (AA op k t ld ex) (fun _=>False) w):=by
 have:=hof;clear this
 obtain⟨r,hr⟩:∃r,AA op k t ld ex=r:=⟨_,rfl⟩
 rw[hr]
 unfold AA at hr
 by_cases hk:k=17
 ·cases ld
  case' true=>rw[if_pos ⟨hk,rfl⟩]at hr
  case' false=>rw[if_neg (fun h=>by cases h.2),if_pos hk]at hr
  all_goals
   subst hr
   subst hk
   refine ae (l:=[_]) func182 rfl ntmps182 rfl (Ok.start w) ?_
   repeat'(first|refine ar ?_|(refine ay fun b_=>?_)|(refine fC fun b_ _=>?_)|refine Oh ?_|refine OB ?_|(refine aa.aj (f:=201) ?_;refine aa.av rfl rfl rfl (fun w' hw'=>hnm w') ?_)|(refine aa.aj (f:=202) ?_;refine aa.av rfl rfl rfl (fun w' hw'=>hty w') ?_)|(refine aa.cK (f:=203) ?_;refine aa.cB pk rfl rfl rfl (fun w' hw'=>hl w') ?_)|(refine aa.aj (f:=200) ?_;refine aa.he (HE.mV (r:=none) ak rfl rfl (fun w' hw'=>hpl w')) rfl ?_;rintro⟨D_,p_,c_,q_,d_⟩ hD_;dsimp only)|fail)
   all_goals exact mt
 ·rw[if_neg (fun h=>hk h.1),if_neg hk]at hr
  cases ex
  all_goals
   simp only[reduceCtorEq,or_false,eq_self,or_true,if_true]at hr
   rcases(show op<69∨op=69∨(69<op∧op≤79)∨op=80∨(80<op∧op≤90)∨(90<op∧op<103)∨(103≤op∧op≤105)∨(105<op∧op<121)∨(121≤op∧op≤123)∨(123<op∧op≤138)∨138<op by omega)with ho|ho|ho|ho|ho|ho|ho|ho|ho|ho|ho
   all_goals
    repeat(first|rw[if_pos Pi]at hr|rw[if_neg Pi]at hr)
    subst hr
    refine ae (l:=[_]) func182 rfl ntmps182 rfl (Ok.start w) ?_
    repeat'(first|refine ar ?_|(refine ay fun b_=>?_)|(refine fC fun b_ _=>?_)|refine Oh ?_|refine OB ?_|(refine aa.aj (f:=201) ?_;refine aa.av rfl rfl rfl (fun w' hw'=>hnm w') ?_)|(refine aa.aj (f:=202) ?_;refine aa.av rfl rfl rfl (fun w' hw'=>hty w') ?_)|(refine aa.cK (f:=203) ?_;refine aa.cB pk rfl rfl rfl (fun w' hw'=>he w') ?_)|(refine aa.aj (f:=200) ?_;refine aa.he (HE.mV (r:=none) ak rfl rfl (fun w' hw'=>hpl w')) rfl ?_;rintro⟨D_,p_,c_,q_,d_⟩ hD_;dsimp only)|fail)
    all_goals exact mt
theorem xD (op:Int) (w:World):Calls G.P 182 #[.int .i64 op] w (iV (fQ op) (fun _=>False) w):=by
 rw[Hh]
 unfold AL
 cases hp:di op with
 |some f=>
  dsimp only
  refine ae (l:=[_]) func182 rfl ntmps182 rfl (Ok.start w) ?_
  repeat'(first|refine ar ?_|(refine ay fun b_=>?_)|(refine aa.aj (f:=200) ?_;refine aa.he (HE.mV (r:=some f) ak rfl rfl (fun w' hw'=>by have:=sm op w';rw[hp]at this;exact this)) rfl ?_;rintro⟨D_,p_,c_,q_,d_⟩ hD_;dsimp only)|fail)
  all_goals(refine ah.aM (.inl rfl) rfl rfl rfl rfl rfl aH rfl rfl ?_;exact fun w' hw'=>bD.jl (f0:=(some f).getD dF) (tf:=fun y:Value×Value=>.tuple #[.agg #[y.1,y.2],.bool true]) ⟨D_,p_,c_,q_,d_⟩ hw' ak ak hD_)
 |none=>
  exact uD op _ _ _ _ _ w (fun w'=>by have:=sm op w';rw[hp]at this;exact this) (fun w'=>dq op w') (fun w'=>uk op w') (fun w'=>Ea _ w' (ve op)) (fun w'=>gi _ _ w' (ve op) Ph) (fun w'=>gi _ _ w' (ve op) Ph)
end Go.Proofs.YtdkcljdfbemnbaaGreatDoor
