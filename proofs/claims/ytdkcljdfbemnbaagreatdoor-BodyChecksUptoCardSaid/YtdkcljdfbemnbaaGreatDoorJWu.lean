/- The reference of layer 23: the signatures of instructions. Printed by gen_wt.py. -/
import Derived.Test.YtdkcljdfbemnbaaGreatDoorJLz
import Derived.Test.YtdkcljdfbemnbaaGreatDoorJWs
import Derived.Test.YtdkcljdfbemnbaaGreatDoorJGd
import Derived.Test.YtdkcljdfbemnbaaGreatDoorJWe
import Derived.Test.YtdkcljdfbemnbaaGreatDoorJTz
namespace Go.Proofs.YtdkcljdfbemnbaaGreatDoor
open Go.RowKit _root_.Go.Proofs.Tryz
set_option maxHeartbeats 4000000
open Bool renaming eq_false_or_eq_true→Qi
open Value renaming int→Pf,slice→Pg
set_option maxRecDepth 100000
theorem dK (op:Int) (w:World):Calls G.P 163 #[.int .i64 op] w (fK (da op) (fun _=>False) w):=by
 cases hs:fP op with
 |none=>
  rw[show da op=(dF,1)from by unfold da;rw[hs]]
  refine ae (l:=[_]) func163 rfl ntmps163 rfl (Ok.start w) ?_
  repeat'(first|refine ar ?_|(refine bK fun b_=>?_)|(refine ay fun b_=>?_)|(refine aA fun b_=>?_)|(refine aR fun b_=>?_)|(refine aQ fun b_=>?_)|refine Ot ?_|(refine aa.aj (f:=182) ?_;refine aa.he (HE.mR (r:=none) ak rfl rfl (fun w' hw'=>by have:=xA op w';rw[hs]at this;exact this)) rfl ?_;rintro⟨D_,p_,c_,q_,d_⟩ hD_;dsimp only)|fail)
  all_goals exact ap
 |some f=>
  rw[show da op=(f,0)from by unfold da;rw[hs]]
  refine ae (l:=[_]) func163 rfl ntmps163 rfl (Ok.start w) ?_
  repeat'(first|refine ar ?_|(refine bK fun b_=>?_)|(refine ay fun b_=>?_)|(refine aA fun b_=>?_)|(refine aR fun b_=>?_)|(refine aQ fun b_=>?_)|refine Ot ?_|(refine aa.aj (f:=182) ?_;refine aa.he (HE.mR (r:=some f) ak rfl rfl (fun w' hw'=>by have:=xA op w';rw[hs]at this;exact this)) rfl ?_;rintro⟨D_,p_,c_,q_,d_⟩ hD_;dsimp only)|fail)
  all_goals(refine ah.bB (.inl rfl) rfl rfl rfl rfl rfl aH rfl ?_;exact fun w' hw'=>bD.jm (f0:=(some f).getD dF) (tf:=fun x:Value×Value=>.agg #[x.1,x.2,.int .i64 0]) ⟨D_,p_,c_,q_,d_⟩ hw' ak ak hD_)
variable (F:Nat→Prop) (m:af) (cs:List Value) (x:cv) (pt pl:Option Addr)
theorem Aq (locals:List Int) (x:cv) (lp pt pl:Option Addr) (lc ct cl:Nat) (w:World) (hl:ai F w (.slice lp locals.length lc) locals) (ha:0≤x.a):Calls G.P 156 #[.slice lp locals.length lc,.agg #[Pf .i64 x.op,Pf .i64 x.a,Pf .i64 x.b,Pf .u64 x.n,Pf .i64 x.kind,Pf .i64 x.val,Pf .i64 x.index,Pg pt x.types.length ct,Pg pl x.labels.length cl]] w (fK (eP locals x) (fun _=>False) w):=by
 obtain⟨op,a,b,n,kind,val,index,types,labels⟩:=x
 dsimp only at ha ⊢
 obtain⟨j,rfl⟩:=Int.eq_ofNat_of_zero_le ha
 by_cases hj:j<locals.length
 ·obtain⟨bk,o,rfl,hF,hc⟩:=hl.at hj
  have hcj:=hc j hj
  by_cases h1:op=32
  ·subst h1
   rw[show eP locals ⟨32,(j:Nat),b,n,kind,val,index,types,labels⟩=(⟨[],[ix locals j]⟩,0)from by unfold eP;dsimp only;rw[if_neg Pc,if_pos rfl,Int.toNat_natCast]]
   refine MT ?_
   repeat'(first|refine ar ?_|(refine NO fun b_=>?_)|(refine fB fun b_ _=>?_)|refine rB ?_|fail)
   all_goals exact ul
  ·by_cases h2:op=33
   ·subst h2
    rw[show eP locals ⟨33,(j:Nat),b,n,kind,val,index,types,labels⟩=(⟨[ix locals j],[]⟩,0)from by unfold eP;dsimp only;rw[if_neg Pc,if_neg h1,if_pos rfl,Int.toNat_natCast]]
    refine MT ?_
    repeat'(first|refine ar ?_|(refine NO fun b_=>?_)|(refine fB fun b_ _=>?_)|refine rB ?_|fail)
    all_goals exact ul
   ·rw[show eP locals ⟨op,(j:Nat),b,n,kind,val,index,types,labels⟩=(⟨[ix locals j],[ix locals j]⟩,0)from by unfold eP;dsimp only;rw[if_neg Pc,if_neg h1,if_neg h2,Int.toNat_natCast]]
    refine MT ?_
    repeat'(first|refine ar ?_|(refine NO fun b_=>?_)|(refine fB fun b_ _=>?_)|refine rB ?_|fail)
    all_goals exact ul
 ·rw[show eP locals ⟨op,(j:Nat),b,n,kind,val,index,types,labels⟩=(dF,11)from if_pos O0]
  refine MT ?_
  repeat'(first|refine ar ?_|(refine NO fun b_=>?_)|(refine fB fun b_ _=>?_)|refine rB ?_|fail)
  all_goals exact ul
theorem yF (ct cl:Nat) (w:World) (hm:av F w cs m) (ha:0≤x.a) (hi:eO x.a) (_hb:0≤x.b) (_hj:eO x.b):Calls G.P 157 #[.agg cs.toArray,.agg #[Pf .i64 x.op,Pf .i64 x.a,Pf .i64 x.b,Pf .u64 x.n,Pf .i64 x.kind,Pf .i64 x.val,Pf .i64 x.index,Pg pt x.types.length ct,Pg pl x.labels.length cl]] w (fK (dt m x) (fun _=>False) w):=by
 have hm0:=hm
 obtain⟨v0,v1,v2,v3,v4,v5,v6,v7,v8,v9,rfl,r0,r1,r2,r3,r4,r5,r6,r7,r8,r9,g0⟩:=hm
 obtain⟨op,a,b,n,kind,val,index,types,labels⟩:=x
 dsimp only at ha hi ⊢
 cases hg:cJ (fZ m) a with
 |none=>
  rw[show dt m ⟨op,a,b,n,kind,val,index,types,labels⟩=(dF,11)from by unfold dt;dsimp only;rw[hg]]
  refine MU ?_
  repeat'(first|refine ar ?_|(refine NO fun b_=>?_)|(refine fB fun b_ _=>?_)|refine rB ?_|(refine aa.aj (f:=179) ?_;refine aa.au (v:=.tuple #[.agg #[.int .i64 0,.bool false],.bool false]) rfl rfl rfl (fun w' hw'=>by have:=kD F m a _ w' (hm0.aP (show Ext w w' from hw'.at) (fun _ _ _ h=>h)) ha hi;rw[hg]at this;exact this) ?_)|fail)
  all_goals exact ul
 |some g=>
  obtain⟨gv,gm⟩:=g
  by_cases h1:op=35
  ·subst h1
   rw[show dt m ⟨35,a,b,n,kind,val,index,types,labels⟩=(⟨[],[gv]⟩,0)from by unfold dt;dsimp only;rw[hg];rfl]
   refine MU ?_
   repeat'(first|refine ar ?_|(refine NO fun b_=>?_)|(refine fB fun b_ _=>?_)|refine rB ?_|(refine aa.aj (f:=179) ?_;refine aa.au (v:=.tuple #[.agg #[.int .i64 gv,.bool gm],.bool true]) rfl rfl rfl (fun w' hw'=>by have:=kD F m a _ w' (hm0.aP (show Ext w w' from hw'.at) (fun _ _ _ h=>h)) ha hi;rw[hg]at this;exact this) ?_)|fail)
   all_goals exact ul
  ·cases gm with
   |false=>
    rw[show dt m ⟨op,a,b,n,kind,val,index,types,labels⟩=(dF,18)from by unfold dt;dsimp only;rw[hg];dsimp only;rw[if_neg h1,if_pos rfl]]
    refine MU ?_
    repeat'(first|refine ar ?_|(refine NO fun b_=>?_)|(refine fB fun b_ _=>?_)|refine rB ?_|(refine aa.aj (f:=179) ?_;refine aa.au (v:=.tuple #[.agg #[.int .i64 gv,.bool false],.bool true]) rfl rfl rfl (fun w' hw'=>by have:=kD F m a _ w' (hm0.aP (show Ext w w' from hw'.at) (fun _ _ _ h=>h)) ha hi;rw[hg]at this;exact this) ?_)|fail)
    all_goals exact ul
   |true=>
    rw[show dt m ⟨op,a,b,n,kind,val,index,types,labels⟩=(⟨[gv],[]⟩,0)from by unfold dt;dsimp only;rw[hg];dsimp only;rw[if_neg h1,if_neg Pb]]
    refine MU ?_
    repeat'(first|refine ar ?_|(refine NO fun b_=>?_)|(refine fB fun b_ _=>?_)|refine rB ?_|(refine aa.aj (f:=179) ?_;refine aa.au (v:=.tuple #[.agg #[.int .i64 gv,.bool true],.bool true]) rfl rfl rfl (fun w' hw'=>by have:=kD F m a _ w' (hm0.aP (show Ext w w' from hw'.at) (fun _ _ _ h=>h)) ha hi;rw[hg]at this;exact this) ?_)|fail)
    all_goals exact ul
theorem zY {g g':Prop} (h:g') (hw:eI g'→g:=by(intro hk_;(first|(refine aa.aj (f:=178) ?_;refine aa.au (v:=.tuple #[.agg #[.int .i64 te,.int .i64 l1,.int .i64 l2,.bool l3],.bool true]) rfl rfl rfl (fun w' hw'=>by have:=iG F m a _ w' (hm0.aP (show Ext w w' from hw'.at) (fun _ _ _ h=>h)) ha hi;rw[hg]at this;exact this) ?_));exact hk_.out)):g:=hw ⟨h⟩
theorem As (ct cl:Nat) (w:World) (hm:av F w cs m) (ha:0≤x.a) (hi:eO x.a) (_hb:0≤x.b) (_hj:eO x.b):Calls G.P 158 #[.agg cs.toArray,.agg #[Pf .i64 x.op,Pf .i64 x.a,Pf .i64 x.b,Pf .u64 x.n,Pf .i64 x.kind,Pf .i64 x.val,Pf .i64 x.index,Pg pt x.types.length ct,Pg pl x.labels.length cl]] w (fK (dr m x) (fun _=>False) w):=by
 have hm0:=hm
 obtain⟨v0,v1,v2,v3,v4,v5,v6,v7,v8,v9,rfl,r0,r1,r2,r3,r4,r5,r6,r7,r8,r9,g0⟩:=hm
 obtain⟨op,a,b,n,kind,val,index,types,labels⟩:=x
 dsimp only at ha hi ⊢
 cases hg:cJ (bL m) a with
 |none=>
  rw[show dr m ⟨op,a,b,n,kind,val,index,types,labels⟩=(dF,11)from by unfold dr;dsimp only;rw[hg]]
  refine MV ?_
  repeat'(first|refine ar ?_|(refine NO fun b_=>?_)|(refine fB fun b_ _=>?_)|refine rB ?_|(refine aa.aj (f:=178) ?_;refine aa.au (v:=.tuple #[.agg #[.int .i64 0,.int .i64 0,.int .i64 0,.bool false],.bool false]) rfl rfl rfl (fun w' hw'=>by have:=iG F m a _ w' (hm0.aP (show Ext w w' from hw'.at) (fun _ _ _ h=>h)) ha hi;rw[hg]at this;exact this) ?_)|fail)
  all_goals exact ul
 |some g=>
  obtain⟨te,l1,l2,l3⟩:=g
  by_cases k0:op=37
  ·subst k0
   rw[show dr m ⟨37,a,b,n,kind,val,index,types,labels⟩=(⟨[1],[te]⟩,0)from by unfold dr;dsimp only;rw[hg];rfl]
   refine MV ?_
   repeat'(first|refine ar ?_|(refine NO fun b_=>?_)|refine zY ?_|fail)
   obtain⟨b5,rfl⟩:∃y:Nat,y=b_:=⟨_,rfl⟩
   refine bh.cF [.aV b5 [.int .i64 te,.int .i64 l1,.int .i64 l2,.bool l3] qp] [Ext w] bw aU ?_
   repeat'(first|refine pG ?_|(refine ax.lD ?_;refine ax.he rfl rfl (HE.jJ rfl rfl rfl rfl rfl ep Pe Pe) (fun _=>bw) (fun _=>aU) ?_;rintro b7 _)|(refine ax.dz 118 ?_;refine ax.he rfl rfl (HE.eK rfl rfl (fun w' hw'=>gq _ _ _ w')) (fun _=>bw) (fun _=>aU) ?_;rintro⟨⟩ _)|(refine ax.dz 155 ?_;refine ax.he rfl rfl (HE.eK rfl rfl (fun w' hw'=>gQ _ _ _ _ _ _ w')) (fun _=>bw) (fun _=>aU) ?_;rintro⟨⟩ _)|(refine ax.nf ?_;refine ax.jQ rfl (gj.bn _ rfl rfl rfl rfl rfl rfl aH rfl) (fun _=>bw) (fun _=>aU) ?_;rintro⟨⟩ _)|refine aN.nil O3 ?_|refine aN.any O3 ?_|exact aB.fin rfl|refine aB.skip O3 ?_|refine aB.go ?_ ?_)
   all_goals repeat'(first|refine ar ?_|fail)
   all_goals exact ul
  by_cases k1:op=38
  ·subst k1
   rw[show dr m ⟨38,a,b,n,kind,val,index,types,labels⟩=(⟨[1,te],[]⟩,0)from by unfold dr;dsimp only;rw[hg];rfl]
   refine MV ?_
   repeat'(first|refine ar ?_|(refine NO fun b_=>?_)|(refine fB fun b_ _=>?_)|refine rB ?_|refine zY ?_|fail)
   all_goals exact ul
  by_cases k2:op=64528
  ·subst k2
   rw[show dr m ⟨64528,a,b,n,kind,val,index,types,labels⟩=(⟨[],[1]⟩,0)from by unfold dr;dsimp only;rw[hg];rfl]
   refine MV ?_
   repeat'(first|refine ar ?_|(refine NO fun b_=>?_)|(refine fB fun b_ _=>?_)|refine rB ?_|refine zY ?_|fail)
   all_goals exact ul
  by_cases k3:op=64527
  ·subst k3
   rw[show dr m ⟨64527,a,b,n,kind,val,index,types,labels⟩=(⟨[te,1],[1]⟩,0)from by unfold dr;dsimp only;rw[hg];rfl]
   refine MV ?_
   repeat'(first|refine ar ?_|(refine NO fun b_=>?_)|(refine fB fun b_ _=>?_)|refine rB ?_|refine zY ?_|fail)
   all_goals exact ul
  rw[show dr m ⟨op,a,b,n,kind,val,index,types,labels⟩=(⟨[1,te,1],[]⟩,0)from by unfold dr;dsimp only;rw[hg];dsimp only;rw[if_neg k0,if_neg k1,if_neg k2,if_neg k3]]
  refine MV ?_
  repeat'(first|refine ar ?_|(refine NO fun b_=>?_)|(refine fB fun b_ _=>?_)|refine rB ?_|refine zY ?_|fail)
  all_goals exact ul
theorem mQ (i:Int) (cs:List Value) (w:World) (hm:av F w cs m) (h0:0≤i) (hi:eO i):Calls G.P 180 #[.agg cs.toArray,.int .i64 i] w fun e w'=>e=.returned (.bool (cJ (dZ m) i).isSome)∧Ext w w':=by
 have hm0:=hm
 obtain⟨v0,v1,v2,v3,v4,v5,v6,v7,v8,v9,rfl,r0,r1,r2,r3,r4,r5,r6,r7,r8,r9,g0⟩:=hm
 obtain⟨L,hL⟩:∃L,(cJ (dZ m) i).getD Iv=L:=⟨_,rfl⟩
 obtain⟨S,hS⟩:∃S,(cJ (dZ m) i).isSome=S:=⟨_,rfl⟩
 rw[hS]
 refine ae (l:=[_,_]) func180 rfl ntmps180 rfl (Ok.start w) ?_
 repeat'(first|refine ar ?_|(refine NO fun b_=>?_)|(refine aa.aj (f:=198) ?_;refine aa.au (v:=.tuple #[.agg #[.int .i64 L.min,.int .i64 L.max,.bool L.has],.bool S]) rfl rfl rfl (fun w' hw'=>by have:=DY F m i _ w' (hm0.aP (show Ext w w' from hw'.at) (fun _ _ _ h=>h)) h0 hi;rw[hL,hS]at this;exact this) ?_)|fail)
 all_goals exact ci
def oF (m:af) (x:cv):aO×Int:=match (if x.op=64526 then(cJ (bL m) x.a).map (·.elem)else cJ (dN m) x.a),cJ (bL m) x.b with
 |some a,some b=>if a≠b.elem then(dF,12)else da x.op
 |_,_=>(dF,11)
theorem sf {g g':Prop} (h:g') (hw:eI g'→g:=by(intro hk_;(first|refine Ot ?_|(refine aa.aj (f:=160) ?_;refine aa.au (v:=.tuple #[.int .i64 e0,.bool s0]) rfl rfl rfl (fun w' hw'=>by have:=pW F m a _ w' (hm0.aP (show Ext w w' from hw'.at) (fun _ _ _ h=>h));rw[jQ,hs0]at this;exact this) ?_)|(refine aa.aj (f:=178) ?_;refine aa.au rfl rfl rfl (fun w' hw'=>hT _ w' hw'.at O7 O7) ?_));exact hk_.out)):g:=hw ⟨h⟩
theorem xC (ct cl:Nat) (w:World) (hm:av F w cs m) (ha:0≤x.a) (hi:eO x.a) (hb:0≤x.b) (hj:eO x.b):Calls G.P 159 #[.agg cs.toArray,.agg #[Pf .i64 x.op,Pf .i64 x.a,Pf .i64 x.b,Pf .u64 x.n,Pf .i64 x.kind,Pf .i64 x.val,Pf .i64 x.index,Pg pt x.types.length ct,Pg pl x.labels.length cl]] w (fK (oF m x) (fun _=>False) w):=by
 have hm0:=hm
 obtain⟨v0,v1,v2,v3,v4,v5,v6,v7,v8,v9,rfl,r0,r1,r2,r3,r4,r5,r6,r7,r8,r9,g0⟩:=hm
 obtain⟨op,a,b,n,kind,val,index,types,labels⟩:=x
 dsimp only at ha hi hb hj ⊢
 obtain⟨e0,jQ⟩:∃e,(cJ (dN m) a).getD 0=e:=⟨_,rfl⟩
 obtain⟨s0,hs0⟩:∃e,(cJ (dN m) a).isSome=e:=⟨_,rfl⟩
 have hT:∀(i:Int) (w':World),Ext w w'→0≤i→eO i→Calls G.P 178 #[.agg #[v0,v1,v2,v3,v4,v5,v6,.bool m.aI,.int .i64 m.start,v7,v8,v9],.int .i64 i] w' fun e w2=>e=.returned (.tuple #[.agg #[.int .i64 ((cJ (bL m) i).getD Bt).elem,.int .i64 ((cJ (bL m) i).getD Bt).mZ.min,.int .i64 ((cJ (bL m) i).getD Bt).mZ.max,.bool ((cJ (bL m) i).getD Bt).mZ.has],.bool (cJ (bL m) i).isSome])∧Ext w' w2:=fun i w' hx h1 h2=>iG F m i _ w' (hm0.aP hx (fun _ _ _ h=>h)) h1 h2
 obtain⟨T,hTT⟩:∃T:Int→fH,∀i,(cJ (bL m) i).getD Bt=T i:=⟨_,fun _=>rfl⟩
 obtain⟨S,hSS⟩:∃T:Int→Bool,∀i,(cJ (bL m) i).isSome=T i:=⟨_,fun _=>rfl⟩
 simp only[hTT,hSS]at hT
 by_cases h1:op=64526
 ·subst h1
  have hsp:oF m ⟨64526,a,b,n,kind,val,index,types,labels⟩=if(S a && S b)=false then(dF,11)else if(T a).elem≠(T b).elem then(dF,12)else da 64526:=by
   unfold oF
   dsimp only
   rw[if_pos rfl,←hSS,←hSS,←hTT,←hTT]
   cases cJ (bL m) a<;>cases cJ (bL m) b<;>rfl
  rw[hsp]
  clear hsp
  rcases Qi (S a)with g1|g1
  ·rcases Qi (S b)with g2|g2
   ·have n2:(!S b)=false:=by rw[g2];rfl
    have n1:(!S a)=false:=by rw[g1];rfl
    by_cases g3:(T a).elem=(T b).elem
    ·rw[if_neg (by rw[g1,g2];decide),if_neg (fun h=>h g3)]
     refine MW ?_
     repeat'(first|refine ar ?_|(refine NO fun b_=>?_)|refine sf ?_|(refine aa.aj (f:=163) ?_;refine aa.he (HE.rg (F:=fun _=>False) (r:=da 64526) ak (fun _ h=>h.elim) rfl rfl (fun w' hw'=>dK 64526 w')) rfl ?_;rintro⟨D_,p_,c_,q_,d_⟩ hD_;dsimp only)|fail)
     all_goals exact ut
    ·rw[if_neg (by rw[g1,g2];decide),if_pos g3]
     refine MW ?_
     repeat'(first|refine ar ?_|(refine NO fun b_=>?_)|refine sf ?_|(refine aa.aj (f:=163) ?_;refine aa.he (HE.rg (F:=fun _=>False) (r:=da 64526) ak (fun _ h=>h.elim) rfl rfl (fun w' hw'=>dK 64526 w')) rfl ?_;rintro⟨D_,p_,c_,q_,d_⟩ hD_;dsimp only)|fail)
     all_goals exact ut
   ·rw[if_pos (by rw[g2,Bool.and_false])]
    have n2:(!S b)=true:=by rw[g2];rfl
    have n1:(!S a)=false:=by rw[g1];rfl
    refine MW ?_
    repeat'(first|refine ar ?_|(refine NO fun b_=>?_)|refine sf ?_|(refine aa.aj (f:=163) ?_;refine aa.he (HE.rg (F:=fun _=>False) (r:=da 64526) ak (fun _ h=>h.elim) rfl rfl (fun w' hw'=>dK 64526 w')) rfl ?_;rintro⟨D_,p_,c_,q_,d_⟩ hD_;dsimp only)|fail)
    all_goals exact ut
  ·rw[if_pos (by rw[g1,Bool.false_and])]
   have n1:(!S a)=true:=by rw[g1];rfl
   refine MW ?_
   repeat'(first|refine ar ?_|(refine NO fun b_=>?_)|refine sf ?_|(refine aa.aj (f:=163) ?_;refine aa.he (HE.rg (F:=fun _=>False) (r:=da 64526) ak (fun _ h=>h.elim) rfl rfl (fun w' hw'=>dK 64526 w')) rfl ?_;rintro⟨D_,p_,c_,q_,d_⟩ hD_;dsimp only)|fail)
   all_goals exact ut
 ·have hsp:oF m ⟨op,a,b,n,kind,val,index,types,labels⟩=if(s0 && S b)=false then(dF,11)else if e0≠(T b).elem then(dF,12)else da op:=by
   unfold oF
   dsimp only
   rw[if_neg h1,←hSS,←hTT,←hs0,←jQ]
   cases cJ (dN m) a<;>cases cJ (bL m) b<;>rfl
  rw[hsp]
  clear hsp
  rcases Qi (s0)with g1|g1
  ·rcases Qi (S b)with g2|g2
   ·have n2:(!S b)=false:=by rw[g2];rfl
    have n1:(!s0)=false:=by rw[g1];rfl
    by_cases g3:e0=(T b).elem
    ·rw[if_neg (by rw[g1,g2];decide),if_neg (fun h=>h g3)]
     refine MW ?_
     repeat'(first|refine ar ?_|(refine NO fun b_=>?_)|refine sf ?_|(refine aa.aj (f:=163) ?_;refine aa.he (HE.rg (F:=fun _=>False) (r:=da op) ak (fun _ h=>h.elim) rfl rfl (fun w' hw'=>dK op w')) rfl ?_;rintro⟨D_,p_,c_,q_,d_⟩ hD_;dsimp only)|fail)
     all_goals exact wd
    ·rw[if_neg (by rw[g1,g2];decide),if_pos g3]
     refine MW ?_
     repeat'(first|refine ar ?_|(refine NO fun b_=>?_)|refine sf ?_|(refine aa.aj (f:=163) ?_;refine aa.he (HE.rg (F:=fun _=>False) (r:=da op) ak (fun _ h=>h.elim) rfl rfl (fun w' hw'=>dK op w')) rfl ?_;rintro⟨D_,p_,c_,q_,d_⟩ hD_;dsimp only)|fail)
     all_goals exact wd
   ·rw[if_pos (by rw[g2,Bool.and_false])]
    have n2:(!S b)=true:=by rw[g2];rfl
    have n1:(!s0)=false:=by rw[g1];rfl
    refine MW ?_
    repeat'(first|refine ar ?_|(refine NO fun b_=>?_)|refine sf ?_|(refine aa.aj (f:=163) ?_;refine aa.he (HE.rg (F:=fun _=>False) (r:=da op) ak (fun _ h=>h.elim) rfl rfl (fun w' hw'=>dK op w')) rfl ?_;rintro⟨D_,p_,c_,q_,d_⟩ hD_;dsimp only)|fail)
    all_goals exact wd
  ·rw[if_pos (by rw[g1,Bool.false_and])]
   have n1:(!s0)=true:=by rw[g1];rfl
   refine MW ?_
   repeat'(first|refine ar ?_|(refine NO fun b_=>?_)|refine sf ?_|(refine aa.aj (f:=163) ?_;refine aa.he (HE.rg (F:=fun _=>False) (r:=da op) ak (fun _ h=>h.elim) rfl rfl (fun w' hw'=>dK op w')) rfl ?_;rintro⟨D_,p_,c_,q_,d_⟩ hD_;dsimp only)|fail)
   all_goals exact wd
end Go.Proofs.YtdkcljdfbemnbaaGreatDoor
