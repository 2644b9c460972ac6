import Derived.Test.YtdkcljdfbemnbaaGreatDoorJLm
import Derived.Test.YtdkcljdfbemnbaaGreatDoorJWs
import Derived.Test.YtdkcljdfbemnbaaGreatDoorJGd
namespace Go.Proofs.YtdkcljdfbemnbaaGreatDoor
open Go.RowKit _root_.Go.Proofs.Tryz
set_option maxHeartbeats 8000000
open Bool renaming eq_false_or_eq_true→Qo
open Nat renaming lt_of_lt_of_le→PB,zero_add→Ps
open Value renaming int→Pm,slice→Pn
set_option maxRecDepth 100000
theorem pE {g g':Prop} (h:g') (hw:eA g'→g:=by(intro hk_;(first|refine Oz ?_);exact hk_.out)):g:=hw ⟨h⟩
theorem dL (op:Int) (w:World):Calls G.P 163 #[.int .i64 op] w (fL (da op) (fun _=>False) w):=by
 cases hs:fQ op with
 |none=>
  rw[show da op=(dF,1)from by unfold da;rw[hs]]
  refine ae (l:=[_]) func163 rfl ntmps163 rfl (Ok.start w) ?_
  repeat'(first|refine ar ?_|(refine bL fun b_=>?_)|(refine ay fun b_=>?_)|(refine aA fun b_=>?_)|(refine aR fun b_=>?_)|(refine aQ fun b_=>?_)|refine pE ?_|(refine aa.aj (f:=182) ?_;refine aa.he (HE.mV (r:=none) ak rfl rfl (fun w' hw'=>by have:=xD op w';rw[hs]at this;exact this)) rfl ?_;rintro⟨D_,p_,c_,q_,d_⟩ hD_;dsimp only)|fail)
  all_goals exact lw
 |some f=>
  rw[show da op=(f,0)from by unfold da;rw[hs]]
  refine ae (l:=[_]) func163 rfl ntmps163 rfl (Ok.start w) ?_
  repeat'(first|refine ar ?_|(refine bL fun b_=>?_)|(refine ay fun b_=>?_)|(refine aA fun b_=>?_)|(refine aR fun b_=>?_)|(refine aQ fun b_=>?_)|refine pE ?_|(refine aa.aj (f:=182) ?_;refine aa.he (HE.mV (r:=some f) ak rfl rfl (fun w' hw'=>by have:=xD op w';rw[hs]at this;exact this)) rfl ?_;rintro⟨D_,p_,c_,q_,d_⟩ hD_;dsimp only)|fail)
  all_goals(refine ah.bB (.inl rfl) rfl rfl rfl rfl rfl aH rfl ?_;exact fun w' hw'=>bD.jl (f0:=(some f).getD dF) (tf:=fun x:Value×Value=>.agg #[x.1,x.2,.int .i64 0]) ⟨D_,p_,c_,q_,d_⟩ hw' ak ak hD_)
variable (F:Nat→Prop)
theorem Au (locals:List Int) (x:cv) (lp pt pl:Option Addr) (lc ct cl:Nat) (w:World) (hl:ai F w (.slice lp locals.length lc) locals) (ha:0≤x.a):Calls G.P 156 #[.slice lp locals.length lc,.agg #[Pm .i64 x.op,Pm .i64 x.a,Pm .i64 x.b,Pm .u64 x.n,Pm .i64 x.kind,Pm .i64 x.val,Pm .i64 x.index,Pn pt x.types.length ct,Pn pl x.labels.length cl]] w (fL (eQ locals x) (fun _=>False) w):=by
 obtain⟨op,a,b,n,kind,val,index,types,labels⟩:=x
 dsimp only at ha ⊢
 obtain⟨j,rfl⟩:=Int.eq_ofNat_of_zero_le ha
 by_cases hj:j<locals.length
 ·obtain⟨bk,o,rfl,hF,hc⟩:=hl.at hj
  have hcj:=hc j hj
  by_cases h1:op=32
  ·subst h1
   rw[show eQ locals ⟨32,(j:Nat),b,n,kind,val,index,types,labels⟩=(⟨[],[ix locals j]⟩,0)from by unfold eQ;dsimp only;rw[if_neg Pi,if_pos rfl,Int.toNat_natCast]]
   refine MW ?_
   repeat'(first|refine ar ?_|(refine NU fun b_=>?_)|(refine fC fun b_ _=>?_)|refine rG ?_|fail)
   all_goals exact wl
  ·by_cases h2:op=33
   ·subst h2
    rw[show eQ locals ⟨33,(j:Nat),b,n,kind,val,index,types,labels⟩=(⟨[ix locals j],[]⟩,0)from by unfold eQ;dsimp only;rw[if_neg Pi,if_neg h1,if_pos rfl,Int.toNat_natCast]]
    refine MW ?_
    repeat'(first|refine ar ?_|(refine NU fun b_=>?_)|(refine fC fun b_ _=>?_)|refine rG ?_|fail)
    all_goals exact wl
   ·rw[show eQ locals ⟨op,(j:Nat),b,n,kind,val,index,types,labels⟩=(⟨[ix locals j],[ix locals j]⟩,0)from by unfold eQ;dsimp only;rw[if_neg Pi,if_neg h1,if_neg h2,Int.toNat_natCast]]
    refine MW ?_
    repeat'(first|refine ar ?_|(refine NU fun b_=>?_)|(refine fC fun b_ _=>?_)|refine rG ?_|fail)
    all_goals exact wl
 ·rw[show eQ locals ⟨op,(j:Nat),b,n,kind,val,index,types,labels⟩=(dF,11)from if_pos O6]
  refine MW ?_
  repeat'(first|refine ar ?_|(refine NU fun b_=>?_)|(refine fC fun b_ _=>?_)|refine rG ?_|fail)
  all_goals exact wl
theorem yJ (m:af) (cs:List Value) (x:cv) (pt pl:Option Addr) (ct cl:Nat) (w:World) (hm:au F w cs m) (ha:0≤x.a) (hi:eP x.a) (_hb:0≤x.b) (_hj:eP x.b):Calls G.P 157 #[.agg cs.toArray,.agg #[Pm .i64 x.op,Pm .i64 x.a,Pm .i64 x.b,Pm .u64 x.n,Pm .i64 x.kind,Pm .i64 x.val,Pm .i64 x.index,Pn pt x.types.length ct,Pn pl x.labels.length cl]] w (fL (dt m x) (fun _=>False) w):=by
 have hm0:=hm
 obtain⟨v0,v1,v2,v3,v4,v5,v6,v7,v8,v9,rfl,r0,r1,r2,r3,r4,r5,r6,r7,r8,r9,g0⟩:=hm
 obtain⟨op,a,b,n,kind,val,index,types,labels⟩:=x
 dsimp only at ha hi ⊢
 cases hg:cJ (gg m) a with
 |none=>
  rw[show dt m ⟨op,a,b,n,kind,val,index,types,labels⟩=(dF,11)from by unfold dt;dsimp only;rw[hg]]
  refine MX ?_
  repeat'(first|refine ar ?_|(refine NU fun b_=>?_)|(refine fC fun b_ _=>?_)|refine rG ?_|(refine aa.aj (f:=179) ?_;refine aa.av (v:=.tuple #[.agg #[.int .i64 0,.bool false],.bool false]) rfl rfl rfl (fun w' hw'=>by have:=kE F m a _ w' (hm0.aN (show Ext w w' from hw'.at) (fun _ _ _ h=>h)) ha hi;rw[hg]at this;exact this) ?_)|fail)
  all_goals exact wl
 |some g=>
  obtain⟨gv,gm⟩:=g
  by_cases h1:op=35
  ·subst h1
   rw[show dt m ⟨35,a,b,n,kind,val,index,types,labels⟩=(⟨[],[gv]⟩,0)from by unfold dt;dsimp only;rw[hg];rfl]
   refine MX ?_
   repeat'(first|refine ar ?_|(refine NU fun b_=>?_)|(refine fC fun b_ _=>?_)|refine rG ?_|(refine aa.aj (f:=179) ?_;refine aa.av (v:=.tuple #[.agg #[.int .i64 gv,.bool gm],.bool true]) rfl rfl rfl (fun w' hw'=>by have:=kE F m a _ w' (hm0.aN (show Ext w w' from hw'.at) (fun _ _ _ h=>h)) ha hi;rw[hg]at this;exact this) ?_)|fail)
   all_goals exact wl
  ·cases gm with
   |false=>
    rw[show dt m ⟨op,a,b,n,kind,val,index,types,labels⟩=(dF,18)from by unfold dt;dsimp only;rw[hg];dsimp only;rw[if_neg h1,if_pos rfl]]
    refine MX ?_
    repeat'(first|refine ar ?_|(refine NU fun b_=>?_)|(refine fC fun b_ _=>?_)|refine rG ?_|(refine aa.aj (f:=179) ?_;refine aa.av (v:=.tuple #[.agg #[.int .i64 gv,.bool false],.bool true]) rfl rfl rfl (fun w' hw'=>by have:=kE F m a _ w' (hm0.aN (show Ext w w' from hw'.at) (fun _ _ _ h=>h)) ha hi;rw[hg]at this;exact this) ?_)|fail)
    all_goals exact wl
   |true=>
    rw[show dt m ⟨op,a,b,n,kind,val,index,types,labels⟩=(⟨[gv],[]⟩,0)from by unfold dt;dsimp only;rw[hg];dsimp only;rw[if_neg h1,if_neg Ph]]
    refine MX ?_
    repeat'(first|refine ar ?_|(refine NU fun b_=>?_)|(refine fC fun b_ _=>?_)|refine rG ?_|(refine aa.aj (f:=179) ?_;refine aa.av (v:=.tuple #[.agg #[.int .i64 gv,.bool true],.bool true]) rfl rfl rfl (fun w' hw'=>by have:=kE F m a _ w' (hm0.aN (show Ext w w' from hw'.at) (fun _ _ _ h=>h)) ha hi;rw[hg]at this;exact this) ?_)|fail)
    all_goals exact wl
theorem Aa {g g':Prop} (h:g') (hw:eA g'→g:=by(intro hk_;(first|(refine aa.aj (f:=178) ?_;refine aa.av (v:=.tuple #[.agg #[.int .i64 te,.int .i64 l1,.int .i64 l2,.bool l3],.bool true]) rfl rfl rfl (fun w' hw'=>by have:=iI F m a _ w' (hm0.aN (show Ext w w' from hw'.at) (fun _ _ _ h=>h)) ha hi;rw[hg]at this;exact this) ?_));exact hk_.out)):g:=hw ⟨h⟩
theorem Aw (m:af) (cs:List Value) (x:cv) (pt pl:Option Addr) (ct cl:Nat) (w:World) (hm:au F w cs m) (ha:0≤x.a) (hi:eP x.a) (_hb:0≤x.b) (_hj:eP x.b):Calls G.P 158 #[.agg cs.toArray,.agg #[Pm .i64 x.op,Pm .i64 x.a,Pm .i64 x.b,Pm .u64 x.n,Pm .i64 x.kind,Pm .i64 x.val,Pm .i64 x.index,Pn pt x.types.length ct,Pn pl x.labels.length cl]] w (fL (dr m x) (fun _=>False) w):=by
 have hm0:=hm
 obtain⟨v0,v1,v2,v3,v4,v5,v6,v7,v8,v9,rfl,r0,r1,r2,r3,r4,r5,r6,r7,r8,r9,g0⟩:=hm
 obtain⟨op,a,b,n,kind,val,index,types,labels⟩:=x
 dsimp only at ha hi ⊢
 cases hg:cJ (bM m) a with
 |none=>
  rw[show dr m ⟨op,a,b,n,kind,val,index,types,labels⟩=(dF,11)from by unfold dr;dsimp only;rw[hg]]
  refine MY ?_
  repeat'(first|refine ar ?_|(refine NU fun b_=>?_)|(refine fC fun b_ _=>?_)|refine rG ?_|(refine aa.aj (f:=178) ?_;refine aa.av (v:=.tuple #[.agg #[.int .i64 0,.int .i64 0,.int .i64 0,.bool false],.bool false]) rfl rfl rfl (fun w' hw'=>by have:=iI F m a _ w' (hm0.aN (show Ext w w' from hw'.at) (fun _ _ _ h=>h)) ha hi;rw[hg]at this;exact this) ?_)|fail)
  all_goals exact wl
 |some g=>
  obtain⟨te,l1,l2,l3⟩:=g
  by_cases k0:op=37
  ·subst k0
   rw[show dr m ⟨37,a,b,n,kind,val,index,types,labels⟩=(⟨[1],[te]⟩,0)from by unfold dr;dsimp only;rw[hg];rfl]
   refine MY ?_
   repeat'(first|refine ar ?_|(refine NU fun b_=>?_)|refine Aa ?_|fail)
   obtain⟨b5,rfl⟩:∃y:Nat,y=b_:=⟨_,rfl⟩
   refine bh.cI [.aW b5 [.int .i64 te,.int .i64 l1,.int .i64 l2,.bool l3] qx] [Ext w] bz aU ?_
   repeat'(first|refine pN ?_|(refine ax.lD ?_;refine ax.he rfl rfl (HE.jG rfl rfl rfl rfl rfl er Pk Pk) (fun _=>bz) (fun _=>aU) ?_;rintro b7 _)|(refine ax.dA 118 ?_;refine ax.he rfl rfl (HE.eU rfl rfl (fun w' hw'=>gq _ _ _ w')) (fun _=>bz) (fun _=>aU) ?_;rintro⟨⟩ _)|(refine ax.dA 155 ?_;refine ax.he rfl rfl (HE.eU rfl rfl (fun w' hw'=>gU _ _ _ _ _ _ w')) (fun _=>bz) (fun _=>aU) ?_;rintro⟨⟩ _)|(refine ax.nj ?_;refine ax.jO rfl (gj.bn _ rfl rfl rfl rfl rfl rfl aH rfl) (fun _=>bz) (fun _=>aU) ?_;rintro⟨⟩ _)|refine aP.nil O9 ?_|refine aP.any O9 ?_|exact aB.fin rfl|refine aB.skip O9 ?_|refine aB.go ?_ ?_)
   all_goals repeat'(first|refine ar ?_|fail)
   all_goals exact wl
  by_cases k1:op=38
  ·subst k1
   rw[show dr m ⟨38,a,b,n,kind,val,index,types,labels⟩=(⟨[1,te],[]⟩,0)from by unfold dr;dsimp only;rw[hg];rfl]
   refine MY ?_
   repeat'(first|refine ar ?_|(refine NU fun b_=>?_)|(refine fC fun b_ _=>?_)|refine rG ?_|refine Aa ?_|fail)
   all_goals exact wl
  by_cases k2:op=64528
  ·subst k2
   rw[show dr m ⟨64528,a,b,n,kind,val,index,types,labels⟩=(⟨[],[1]⟩,0)from by unfold dr;dsimp only;rw[hg];rfl]
   refine MY ?_
   repeat'(first|refine ar ?_|(refine NU fun b_=>?_)|(refine fC fun b_ _=>?_)|refine rG ?_|refine Aa ?_|fail)
   all_goals exact wl
  by_cases k3:op=64527
  ·subst k3
   rw[show dr m ⟨64527,a,b,n,kind,val,index,types,labels⟩=(⟨[te,1],[1]⟩,0)from by unfold dr;dsimp only;rw[hg];rfl]
   refine MY ?_
   repeat'(first|refine ar ?_|(refine NU fun b_=>?_)|(refine fC fun b_ _=>?_)|refine rG ?_|refine Aa ?_|fail)
   all_goals exact wl
  rw[show dr m ⟨op,a,b,n,kind,val,index,types,labels⟩=(⟨[1,te,1],[]⟩,0)from by unfold dr;dsimp only;rw[hg];dsimp only;rw[if_neg k0,if_neg k1,if_neg k2,if_neg k3]]
  refine MY ?_
  repeat'(first|refine ar ?_|(refine NU fun b_=>?_)|(refine fC fun b_ _=>?_)|refine rG ?_|refine Aa ?_|fail)
  all_goals exact wl
theorem mU (m:af) (i:Int) (cs:List Value) (w:World) (hm:au F w cs m) (h0:0≤i) (hi:eP i):Calls G.P 180 #[.agg cs.toArray,.int .i64 i] w fun e w'=>e=.returned (.bool (cJ (ec m) i).isSome)∧Ext w w':=by
 have hm0:=hm
 obtain⟨v0,v1,v2,v3,v4,v5,v6,v7,v8,v9,rfl,r0,r1,r2,r3,r4,r5,r6,r7,r8,r9,g0⟩:=hm
 obtain⟨L,hL⟩:∃L,(cJ (ec m) i).getD IF=L:=⟨_,rfl⟩
 obtain⟨S,hS⟩:∃S,(cJ (ec m) i).isSome=S:=⟨_,rfl⟩
 rw[hS]
 refine ae (l:=[_,_]) func180 rfl ntmps180 rfl (Ok.start w) ?_
 repeat'(first|refine ar ?_|(refine NU fun b_=>?_)|(refine aa.aj (f:=198) ?_;refine aa.av (v:=.tuple #[.agg #[.int .i64 L.min,.int .i64 L.max,.bool L.has],.bool S]) rfl rfl rfl (fun w' hw'=>by have:=Eb F m i _ w' (hm0.aN (show Ext w w' from hw'.at) (fun _ _ _ h=>h)) h0 hi;rw[hL,hS]at this;exact this) ?_)|fail)
 all_goals exact gt
def oO (m:af) (x:cv):aO×Int:=match (if x.op=64526 then(cJ (bM m) x.a).map (·.elem)else cJ (dO m) x.a),cJ (bM m) x.b with
 |some a,some b=>if a≠b.elem then(dF,12)else da x.op
 |_,_=>(dF,11)
theorem si {g g':Prop} (h:g') (hw:eA g'→g:=by(intro hk_;(first|refine pE ?_|(refine aa.aj (f:=160) ?_;refine aa.av (v:=.tuple #[.int .i64 e0,.bool s0]) rfl rfl rfl (fun w' hw'=>by have:=qc F m a _ w' (hm0.aN (show Ext w w' from hw'.at) (fun _ _ _ h=>h));rw[jO,hs0]at this;exact this) ?_)|(refine aa.aj (f:=178) ?_;refine aa.av rfl rfl rfl (fun w' hw'=>hT _ w' hw'.at Pc Pc) ?_));exact hk_.out)):g:=hw ⟨h⟩
theorem xF (m:af) (cs:List Value) (x:cv) (pt pl:Option Addr) (ct cl:Nat) (w:World) (hm:au F w cs m) (ha:0≤x.a) (hi:eP x.a) (hb:0≤x.b) (hj:eP x.b):Calls G.P 159 #[.agg cs.toArray,.agg #[Pm .i64 x.op,Pm .i64 x.a,Pm .i64 x.b,Pm .u64 x.n,Pm .i64 x.kind,Pm .i64 x.val,Pm .i64 x.index,Pn pt x.types.length ct,Pn pl x.labels.length cl]] w (fL (oO m x) (fun _=>False) w):=by
 have hm0:=hm
 obtain⟨v0,v1,v2,v3,v4,v5,v6,v7,v8,v9,rfl,r0,r1,r2,r3,r4,r5,r6,r7,r8,r9,g0⟩:=hm
 obtain⟨op,a,b,n,kind,val,index,types,labels⟩:=x
 dsimp only at ha hi hb hj ⊢
 obtain⟨e0,jO⟩:∃e,(cJ (dO m) a).getD 0=e:=⟨_,rfl⟩
 obtain⟨s0,hs0⟩:∃e,(cJ (dO m) a).isSome=e:=⟨_,rfl⟩
 have hT:∀(i:Int) (w':World),Ext w w'→0≤i→eP i→Calls G.P 178 #[.agg #[v0,v1,v2,v3,v4,v5,v6,.bool m.aI,.int .i64 m.start,v7,v8,v9],.int .i64 i] w' fun e w2=>e=.returned (.tuple #[.agg #[.int .i64 ((cJ (bM m) i).getD By).elem,.int .i64 ((cJ (bM m) i).getD By).m9.min,.int .i64 ((cJ (bM m) i).getD By).m9.max,.bool ((cJ (bM m) i).getD By).m9.has],.bool (cJ (bM m) i).isSome])∧Ext w' w2:=fun i w' hx h1 h2=>iI F m i _ w' (hm0.aN hx (fun _ _ _ h=>h)) h1 h2
 obtain⟨T,hTT⟩:∃T:Int→fJ,∀i,(cJ (bM m) i).getD By=T i:=⟨_,fun _=>rfl⟩
 obtain⟨S,hSS⟩:∃T:Int→Bool,∀i,(cJ (bM m) i).isSome=T i:=⟨_,fun _=>rfl⟩
 simp only[hTT,hSS]at hT
 by_cases h1:op=64526
 ·subst h1
  have hsp:oO m ⟨64526,a,b,n,kind,val,index,types,labels⟩=if(S a && S b)=false then(dF,11)else if(T a).elem≠(T b).elem then(dF,12)else da 64526:=by
   unfold oO
   dsimp only
   rw[if_pos rfl,←hSS,←hSS,←hTT,←hTT]
   cases cJ (bM m) a<;>cases cJ (bM m) b<;>rfl
  rw[hsp]
  clear hsp
  rcases Qo (S a)with g1|g1
  ·rcases Qo (S b)with g2|g2
   ·have n2:(!S b)=false:=by rw[g2];rfl
    have n1:(!S a)=false:=by rw[g1];rfl
    by_cases g3:(T a).elem=(T b).elem
    ·rw[if_neg (by rw[g1,g2];decide),if_neg (fun h=>h g3)]
     refine MZ ?_
     repeat'(first|refine ar ?_|(refine NU fun b_=>?_)|refine si ?_|(refine aa.aj (f:=163) ?_;refine aa.he (HE.rg (F:=fun _=>False) (r:=da 64526) ak (fun _ h=>h.elim) rfl rfl (fun w' hw'=>dL 64526 w')) rfl ?_;rintro⟨D_,p_,c_,q_,d_⟩ hD_;dsimp only)|fail)
     all_goals exact wn
    ·rw[if_neg (by rw[g1,g2];decide),if_pos g3]
     refine MZ ?_
     repeat'(first|refine ar ?_|(refine NU fun b_=>?_)|refine si ?_|(refine aa.aj (f:=163) ?_;refine aa.he (HE.rg (F:=fun _=>False) (r:=da 64526) ak (fun _ h=>h.elim) rfl rfl (fun w' hw'=>dL 64526 w')) rfl ?_;rintro⟨D_,p_,c_,q_,d_⟩ hD_;dsimp only)|fail)
     all_goals exact wn
   ·rw[if_pos (by rw[g2,Bool.and_false])]
    have n2:(!S b)=true:=by rw[g2];rfl
    have n1:(!S a)=false:=by rw[g1];rfl
    refine MZ ?_
    repeat'(first|refine ar ?_|(refine NU fun b_=>?_)|refine si ?_|(refine aa.aj (f:=163) ?_;refine aa.he (HE.rg (F:=fun _=>False) (r:=da 64526) ak (fun _ h=>h.elim) rfl rfl (fun w' hw'=>dL 64526 w')) rfl ?_;rintro⟨D_,p_,c_,q_,d_⟩ hD_;dsimp only)|fail)
    all_goals exact wn
  ·rw[if_pos (by rw[g1,Bool.false_and])]
   have n1:(!S a)=true:=by rw[g1];rfl
   refine MZ ?_
   repeat'(first|refine ar ?_|(refine NU fun b_=>?_)|refine si ?_|(refine aa.aj (f:=163) ?_;refine aa.he (HE.rg (F:=fun _=>False) (r:=da 64526) ak (fun _ h=>h.elim) rfl rfl (fun w' hw'=>dL 64526 w')) rfl ?_;rintro⟨D_,p_,c_,q_,d_⟩ hD_;dsimp only)|fail)
   all_goals exact wn
 ·have hsp:oO m ⟨op,a,b,n,kind,val,index,types,labels⟩=if(s0 && S b)=false then(dF,11)else if e0≠(T b).elem then(dF,12)else da op:=by
   unfold oO
   dsimp only
   rw[if_neg h1,←hSS,←hTT,←hs0,←jO]
   cases cJ (dO m) a<;>cases cJ (bM m) b<;>rfl
  rw[hsp]
  clear hsp
  rcases Qo (s0)with g1|g1
  ·rcases Qo (S b)with g2|g2
   ·have n2:(!S b)=false:=by rw[g2];rfl
    have n1:(!s0)=false:=by rw[g1];rfl
    by_cases g3:e0=(T b).elem
    ·rw[if_neg (by rw[g1,g2];decide),if_neg (fun h=>h g3)]
     refine MZ ?_
     repeat'(first|refine ar ?_|(refine NU fun b_=>?_)|refine si ?_|(refine aa.aj (f:=163) ?_;refine aa.he (HE.rg (F:=fun _=>False) (r:=da op) ak (fun _ h=>h.elim) rfl rfl (fun w' hw'=>dL op w')) rfl ?_;rintro⟨D_,p_,c_,q_,d_⟩ hD_;dsimp only)|fail)
     all_goals exact ws
    ·rw[if_neg (by rw[g1,g2];decide),if_pos g3]
     refine MZ ?_
     repeat'(first|refine ar ?_|(refine NU fun b_=>?_)|refine si ?_|(refine aa.aj (f:=163) ?_;refine aa.he (HE.rg (F:=fun _=>False) (r:=da op) ak (fun _ h=>h.elim) rfl rfl (fun w' hw'=>dL op w')) rfl ?_;rintro⟨D_,p_,c_,q_,d_⟩ hD_;dsimp only)|fail)
     all_goals exact ws
   ·rw[if_pos (by rw[g2,Bool.and_false])]
    have n2:(!S b)=true:=by rw[g2];rfl
    have n1:(!s0)=false:=by rw[g1];rfl
    refine MZ ?_
    repeat'(first|refine ar ?_|(refine NU fun b_=>?_)|refine si ?_|(refine aa.aj (f:=163) ?_;refine aa.he (HE.rg (F:=fun _=>False) (r:=da op) ak (fun _ h=>h.elim) rfl rfl (fun w' hw'=>dL op w')) rfl ?_;rintro⟨D_,p_,c_,q_,d_⟩ hD_;dsimp only)|fail)
    all_goals exact ws
  ·rw[if_pos (by rw[g1,Bool.false_and])]
   have n1:(!s0)=true:=by rw[g1];rfl
   refine MZ ?_
   repeat'(first|refine ar ?_|(refine NU fun b_=>?_)|refine si ?_|(refine aa.aj (f:=163) ?_;refine aa.he (HE.rg (F:=fun _=>False) (r:=da op) ak (fun _ h=>h.elim) rfl rfl (fun w' hw'=>dL op w')) rfl ?_;rintro⟨D_,p_,c_,q_,d_⟩ hD_;dsimp only)|fail)
   all_goals exact ws
def lP (m:af) (x:cv):aO×Int:=match gK m x.a with
 |none=>(dF,11)
 |some f=>if x.op=16 then(f,0)else if nL m x.a=true then da x.op else(dF,22)
theorem BQ (m:af) (cs:List Value) (x:cv) (pt pl:Option Addr) (ct cl:Nat) (w:World) (hm:au F w cs m) (ha:0≤x.a) (hi:eP x.a) (hb:0≤x.b) (hj:eP x.b) (hF:∀k,F k→k<w.heap.size):Calls G.P 153 #[.agg cs.toArray,.agg #[Pm .i64 x.op,Pm .i64 x.a,Pm .i64 x.b,Pm .u64 x.n,Pm .i64 x.kind,Pm .i64 x.val,Pm .i64 x.index,Pn pt x.types.length ct,Pn pl x.labels.length cl]] w (fL (lP m x) F w):=by
 have hm0:=hm
 obtain⟨v0,v1,v2,v3,v4,v5,v6,v7,v8,v9,rfl,r0,r1,r2,r3,r4,r5,r6,r7,r8,r9,g0⟩:=hm
 obtain⟨op,a,b,n,kind,val,index,types,labels⟩:=x
 dsimp only at ha hi hb hj ⊢
 cases hf:gK m a with
 |none=>
  rw[show lP m ⟨op,a,b,n,kind,val,index,types,labels⟩=(dF,11)from by unfold lP;dsimp only;rw[hf]]
  refine M3 ?_
  repeat'(first|refine ar ?_|(refine NU fun b_=>?_)|refine pE ?_|(refine aa.aj (f:=176) ?_;refine aa.he (HE.ze (F:=F) (r:=none) ak hF rfl rfl (fun w' hw'=>by have:=nq F m a _ w' (hm0.aN (show Ext w w' from hw'.at) (fun _ _ _ h=>h)) (fun k hk=>PB (hF k hk) (show Ext w w' from hw'.at).size) ha hi;rw[hf]at this;exact this)) rfl ?_;rintro⟨D_,p_,c_,q_,d_⟩ hD_;dsimp only)|fail)
  all_goals exact lw
 |some f=>
  by_cases h1:op=16
  ·subst h1
   rw[show lP m ⟨16,a,b,n,kind,val,index,types,labels⟩=(f,0)from by unfold lP;dsimp only;rw[hf];rfl]
   refine M3 ?_
   repeat'(first|refine ar ?_|(refine NU fun b_=>?_)|refine pE ?_|(refine aa.aj (f:=176) ?_;refine aa.he (HE.ze (F:=F) (r:=some f) ak hF rfl rfl (fun w' hw'=>by have:=nq F m a _ w' (hm0.aN (show Ext w w' from hw'.at) (fun _ _ _ h=>h)) (fun k hk=>PB (hF k hk) (show Ext w w' from hw'.at).size) ha hi;rw[hf]at this;exact this)) rfl ?_;rintro⟨D_,p_,c_,q_,d_⟩ hD_;dsimp only)|fail)
   all_goals(refine ah.bB (.inl rfl) rfl rfl rfl rfl rfl aH rfl ?_;exact fun w' hw'=>bD.jl (f0:=(some f).getD dF) (tf:=fun x:Value×Value=>.agg #[x.1,x.2,.int .i64 0]) ⟨D_,p_,c_,q_,d_⟩ hw' ak ak hD_)
  ·cases hd:nL m a with
   |true=>
    rw[show lP m ⟨op,a,b,n,kind,val,index,types,labels⟩=da op from by unfold lP;dsimp only;rw[hf];dsimp only;rw[if_neg h1,if_pos hd]]
    refine M3 ?_
    repeat'(first|refine ar ?_|(refine NU fun b_=>?_)|refine pE ?_|(refine aa.aj (f:=176) ?_;refine aa.he (HE.ze (F:=F) (r:=some f) ak hF rfl rfl (fun w' hw'=>by have:=nq F m a _ w' (hm0.aN (show Ext w w' from hw'.at) (fun _ _ _ h=>h)) (fun k hk=>PB (hF k hk) (show Ext w w' from hw'.at).size) ha hi;rw[hf]at this;exact this)) rfl ?_;rintro⟨D1_,p1_,c1_,q1_,d1_⟩ hD1_;dsimp only)|(refine aa.aj (f:=177) ?_;refine aa.av (v:=.bool true) rfl rfl rfl (fun w' hw'=>by have:=oC F m a _ w' (hm0.aN (show Ext w w' from hw'.at) (fun _ _ _ h=>h));rw[hd]at this;exact this) ?_)|(refine aa.aj (f:=163) ?_;refine aa.he (HE.rg (F:=fun _=>False) (r:=da op) ak (fun _ h=>h.elim) rfl rfl (fun w' hw'=>dL op w')) rfl ?_;rintro⟨D_,p_,c_,q_,d_⟩ hD_;dsimp only)|fail)
    all_goals first|omega|(refine ah.bB (.inl rfl) rfl rfl rfl rfl rfl aH rfl ?_;exact fun w' hw'=>bD.jl (f0:=(da op).1) (tf:=fun x:Value×Value=>.agg #[x.1,x.2,.int .i64 (da op).2]) ⟨D_,p_,c_,q_,d_⟩ hw' ak ak (fun k h=>.inr ((hD_ k h).resolve_left id)))
   |false=>
    rw[show lP m ⟨op,a,b,n,kind,val,index,types,labels⟩=(dF,22)from by unfold lP;dsimp only;rw[hf];dsimp only;rw[if_neg h1,if_neg (by rw[hd];decide)]]
    refine M3 ?_
    repeat'(first|refine ar ?_|(refine NU fun b_=>?_)|refine pE ?_|(refine aa.aj (f:=176) ?_;refine aa.he (HE.ze (F:=F) (r:=some f) ak hF rfl rfl (fun w' hw'=>by have:=nq F m a _ w' (hm0.aN (show Ext w w' from hw'.at) (fun _ _ _ h=>h)) (fun k hk=>PB (hF k hk) (show Ext w w' from hw'.at).size) ha hi;rw[hf]at this;exact this)) rfl ?_;rintro⟨D1_,p1_,c1_,q1_,d1_⟩ hD1_;dsimp only)|(refine aa.aj (f:=177) ?_;refine aa.av (v:=.bool false) rfl rfl rfl (fun w' hw'=>by have:=oC F m a _ w' (hm0.aN (show Ext w w' from hw'.at) (fun _ _ _ h=>h));rw[hd]at this;exact this) ?_)|fail)
    all_goals exact lw
theorem uJ (m:af) (cs:List Value) (x:cv) (pt pl:Option Addr) (ct cl:Nat) (w:World) (hm:au F w cs m) (ha:0≤x.a) (hi:eP x.a) (hb:0≤x.b) (hj:eP x.b) (hF:∀k,F k→k<w.heap.size) (hT:nb m):Calls G.P 154 #[.agg cs.toArray,.agg #[Pm .i64 x.op,Pm .i64 x.a,Pm .i64 x.b,Pm .u64 x.n,Pm .i64 x.kind,Pm .i64 x.val,Pm .i64 x.index,Pn pt x.types.length ct,Pn pl x.labels.length cl]] w (fL (bZ m x) F w):=by
 have hm0:=hm
 obtain⟨v0,v1,v2,v3,v4,v5,v6,v7,v8,v9,rfl,r0,r1,r2,r3,r4,r5,r6,r7,r8,r9,g0⟩:=hm
 obtain⟨op,a,b,n,kind,val,index,types,labels⟩:=x
 dsimp only at ha hi hb hj ⊢
 cases hf:cJ m.types a with
 |none=>
  rw[show bZ m ⟨op,a,b,n,kind,val,index,types,labels⟩=(dF,11)from by unfold bZ;dsimp only;rw[hf]]
  obtain⟨T,hTT⟩:∃T:fJ,(cJ (bM m) b).getD By=T:=⟨_,rfl⟩
  obtain⟨S,hSS⟩:∃T:Bool,(cJ (bM m) b).isSome=T:=⟨_,rfl⟩
  refine M4 ?_
  repeat'(first|refine ar ?_|(refine NU fun b_=>?_)|refine pE ?_|refine Og ?_|(refine aa.aj (f:=44) ?_;refine aa.he (HE.ze (F:=F) (r:=none) ak hF rfl rfl (fun w' hw'=>by have:=iJ F m a _ w' (hm0.aN (show Ext w w' from hw'.at) (fun _ _ _ h=>h));rw[hf]at this;exact this)) rfl ?_;rintro⟨D_,p_,c_,q_,d_⟩ hD_;dsimp only)|(refine aa.aj (f:=178) ?_;refine aa.av (v:=.tuple #[.agg #[.int .i64 T.elem,.int .i64 T.m9.min,.int .i64 T.m9.max,.bool T.m9.has],.bool S]) rfl rfl rfl (fun w' hw'=>by have:=iI F m b _ w' (hm0.aN (show Ext w w' from hw'.at) (fun _ _ _ h=>h)) hb hj;rw[hTT,hSS]at this;exact this) ?_)|fail)
  all_goals exact lw
 |some f=>
  obtain⟨hl1,hl2⟩:=hT f (nf hf)
  cases hg:cJ (bM m) b with
  |none=>
   rw[show bZ m ⟨op,a,b,n,kind,val,index,types,labels⟩=(dF,11)from by unfold bZ;dsimp only;rw[hf,hg]]
   refine M4 ?_
   repeat'(first|refine ar ?_|(refine NU fun b_=>?_)|refine pE ?_|refine Og ?_|(refine aa.aj (f:=44) ?_;refine aa.he (HE.ze (F:=F) (r:=some f) ak hF rfl rfl (fun w' hw'=>by have:=iJ F m a _ w' (hm0.aN (show Ext w w' from hw'.at) (fun _ _ _ h=>h));rw[hf]at this;exact this)) rfl ?_;rintro⟨D_,p_,c_,q_,d_⟩ hD_;dsimp only)|(refine aa.aj (f:=178) ?_;refine aa.av (v:=.tuple #[.agg #[.int .i64 0,.int .i64 0,.int .i64 0,.bool false],.bool false]) rfl rfl rfl (fun w' hw'=>by have:=iI F m b _ w' (hm0.aN (show Ext w w' from hw'.at) (fun _ _ _ h=>h)) hb hj;rw[hg]at this;exact this) ?_)|fail)
   all_goals exact lw
  |some g=>
   obtain⟨te,l1,l2,l3⟩:=g
   by_cases h3:te=3
   ·subst h3
    rw[show bZ m ⟨op,a,b,n,kind,val,index,types,labels⟩=(⟨f.params++[1],f.results⟩,0)from by unfold bZ;dsimp only;rw[hf,hg];rfl]
    refine M4 ?_
    repeat'(first|refine ar ?_|(refine NU fun b_=>?_)|(refine aa.aj (f:=44) ?_;refine aa.he (HE.ze (F:=F) (r:=some f) ak hF rfl rfl (fun w' hw'=>by have:=iJ F m a _ w' (hm0.aN (show Ext w w' from hw'.at) (fun _ _ _ h=>h));rw[hf]at this;exact this)) rfl ?_;rintro⟨D_,p_,c_,q_,d_⟩ hD_;dsimp only)|(refine aa.aj (f:=178) ?_;refine aa.av (v:=.tuple #[.agg #[.int .i64 3,.int .i64 l1,.int .i64 l2,.bool l3],.bool true]) rfl rfl rfl (fun w' hw'=>by have:=iI F m b _ w' (hm0.aN (show Ext w w' from hw'.at) (fun _ _ _ h=>h)) hb hj;rw[hg]at this;exact this) ?_)|fail)
    rename_i b5
    simp only[Option.getD_some]
    refine bh.pure (φ:=f.params.length=0∨∃bk o,p_=some ⟨bk,o,none⟩) (fun w' hw'=>Jq (hw'.get (p:=sZ f ⟨D_,p_,c_,q_,d_⟩) ak)) ?_
    intro hp4
    refine bh.cI [.aW b5 [.slice p_ f.params.length c_,.slice q_ f.results.length d_] sy] [sZ f ⟨D_,p_,c_,q_,d_⟩,Ext w] bz aU ?_
    repeat'(first|refine pN ?_|(refine ax.lD ?_;refine ax.he rfl rfl (HE.JU (B:=w.heap.size) (fun w' hw'=>(show Ext w w' from hw'.at).size) rfl rfl rfl rfl rfl er Pk Pk) (fun _=>bz) (fun _=>aU) ?_;rintro b7 hb7;try(refine aP.Cc (B:=w.heap.size) (m:=0) (s:=1) (cs:=[]) aH rfl hb7 Ph ?_))|(refine ax.rr ?_;refine ax.he rfl rfl (HE.gR (aY f.params) rfl rfl (fun _=>aH) (Fk (a:=⟨D_,p_,c_,q_,d_⟩) hp4 ak) Pg rfl rfl rfl Pk Pk Pk (fj _) OW Pi (fun w' hw'=>(show Ext w w' from hw'.at).size)) (fun _=>bz) (fun _=>aU) ?_;rintro v8 _;refine aP.pure (φ:=∃p c,v8=.slice p (0+f.params.length) c) (fun w' hw'=>by obtain⟨p,c,e,_⟩:=aw (hw'.own (v:=v8));exact⟨p,c,e⟩) ?_;rintro⟨p8,c8,rfl⟩)|(refine ax.rr ?_;refine ax.he rfl rfl (HE.gR [.int .i64 1] rfl rfl (fun _=>aH) (.inr ⟨_,0,rfl,ES bO⟩) rfl rfl rfl rfl Pk Pk Pk (fun u hu=>by rw[List.mem_singleton.1 hu];rfl) (by show(0+f.params.length+1)*8≤_;omega) Pi (fun w' hw'=>(show Ext w w' from hw'.at).size)) (fun _=>bz) (fun _=>aU) ?_;rintro v9 _;refine aP.pure (φ:=∃p c,v9=.slice p (0+f.params.length+1) c) (fun w' hw'=>by obtain⟨p,c,e,_⟩:=aw (hw'.own (v:=v9));exact⟨p,c,e⟩) ?_;rintro⟨p9,c9,rfl⟩)|(refine ax.dA 155 ?_;refine ax.he rfl rfl (HE.eU rfl rfl (fun w' hw'=>gU p9 q_ (0+f.params.length+1) f.results.length c9 d_ w')) (fun _=>bz) (fun _=>aU) ?_;rintro⟨⟩ _)|(refine ax.nj ?_;refine ax.jO rfl (gj.bn _ rfl rfl rfl rfl rfl rfl aH rfl) (fun _=>bz) (fun _=>aU) ?_;rintro⟨⟩ _)|refine aP.nil O9 ?_|refine aP.any O9 ?_|exact aB.fin rfl|refine aB.skip O9 ?_|refine aB.go ?_ ?_)
    all_goals
     repeat'(first|refine ar ?_|fail)
     refine MT ?_
     intro w' hw'
     have e9:w'.ownsRow w.heap.size n8 1 (.slice p9 (0+f.params.length+1) c9) (0+f.params.length+1) ([]++aY f.params++[.int .i64 1]):=hw'.own
     rw[Ps]at e9
     have g1:ai (fun k=>w.heap.size≤k) w' (.slice p9 (f.params.length+1) c9) (f.params++[1]):=kW (xs:=f.params++[1]) (by simpa[aY]using e9) (by rw[List.length_append];show f.params.length+1≤_;omega)
     have g2:=(hw'.get (p:=sZ f ⟨D_,p_,c_,q_,d_⟩) ak).2
     have e3:(⟨f.params++[1],f.results⟩:aO).params.length=0+f.params.length+1:=by show(f.params++[1]).length=_;rw[List.length_append,Ps];rfl
     exact⟨⟨(.slice p9 (0+f.params.length+1) c9,_),rfl,by rw[Ps];exact g1.mono fun _ _ h=>.inr h,g2.mono fun k _ h=>hD_ k h⟩,hw'.at⟩
   ·rw[show bZ m ⟨op,a,b,n,kind,val,index,types,labels⟩=(dF,12)from by unfold bZ;dsimp only;rw[hf,hg];dsimp only;rw[if_pos h3]]
    refine M4 ?_
    repeat'(first|refine ar ?_|(refine NU fun b_=>?_)|refine pE ?_|refine Og ?_|(refine aa.aj (f:=44) ?_;refine aa.he (HE.ze (F:=F) (r:=some f) ak hF rfl rfl (fun w' hw'=>by have:=iJ F m a _ w' (hm0.aN (show Ext w w' from hw'.at) (fun _ _ _ h=>h));rw[hf]at this;exact this)) rfl ?_;rintro⟨D_,p_,c_,q_,d_⟩ hD_;dsimp only)|(refine aa.aj (f:=178) ?_;refine aa.av (v:=.tuple #[.agg #[.int .i64 te,.int .i64 l1,.int .i64 l2,.bool l3],.bool true]) rfl rfl rfl (fun w' hw'=>by have:=iI F m b _ w' (hm0.aN (show Ext w w' from hw'.at) (fun _ _ _ h=>h)) hb hj;rw[hg]at this;exact this) ?_)|fail)
    all_goals exact lw
end Go.Proofs.YtdkcljdfbemnbaaGreatDoor
