/- The reference of layer 23: the signatures of instructions. Printed by gen_wt.py. -/
import Derived.Test.YtgbgnipidakdhaaGreatDoorJLz
import Derived.Test.YtgbgnipidakdhaaGreatDoorJWs
import Derived.Test.YtgbgnipidakdhaaGreatDoorJGd
import Derived.Test.YtgbgnipidakdhaaGreatDoorJWb
import Derived.Test.YtgbgnipidakdhaaGreatDoorJWz
import Derived.Test.YtgbgnipidakdhaaGreatDoorJRg
import Derived.Test.YtgbgnipidakdhaaGreatDoorJWn
namespace Go.Proofs.YtgbgnipidakdhaaGreatDoor
open Go.RowKit
set_option maxRecDepth 100000
theorem xJ {g g':Prop} (h:g') (hw:dS g'→g:=by(intro hk_;(first|refine Lo ?_);exact hk_.out)):g:=hw ⟨h⟩
set_option maxHeartbeats 4000000 in
theorem du (op:Int) (w:World):Calls G.P 104 #[.int .i64 op] w (fe (cE op) (fun _=>False) w):=by
 cases hs:ft op with
 |none=>
  rw[show cE op=(dy,1)from by unfold cE;rw[hs]]
  refine ae (l:=[_]) Tryz.func104 rfl Tryz.ntmps104 rfl (Ok.start w) ?_
  repeat'(first|refine ar ?_|(refine bz fun b_=>?_)|(refine au fun b_=>?_)|(refine aI fun b_=>?_)|(refine aH fun b_=>?_)|(refine aG fun b_=>?_)|refine xJ ?_|(refine aa.ai (f:=151) ?_;refine aa.he (HE.mM (r:=none) ak rfl rfl (fun w' hw'=>by have:=uQ op w';rw[hs]at this;exact this)) rfl ?_;rintro⟨D_,p_,c_,q_,d_⟩ hD_;dsimp only)|fail)
  all_goals exact ii
 |some f=>
  rw[show cE op=(f,0)from by unfold cE;rw[hs]]
  refine ae (l:=[_]) Tryz.func104 rfl Tryz.ntmps104 rfl (Ok.start w) ?_
  repeat'(first|refine ar ?_|(refine bz fun b_=>?_)|(refine au fun b_=>?_)|(refine aI fun b_=>?_)|(refine aH fun b_=>?_)|(refine aG fun b_=>?_)|refine xJ ?_|(refine aa.ai (f:=151) ?_;refine aa.he (HE.mM (r:=some f) ak rfl rfl (fun w' hw'=>by have:=uQ op w';rw[hs]at this;exact this)) rfl ?_;rintro⟨D_,p_,c_,q_,d_⟩ hD_;dsimp only)|fail)
  all_goals(refine ah.a6 (.inl rfl) rfl rfl rfl rfl rfl aA rfl ?_;exact fun w' hw'=>bg.iI (f0:=(some f).getD dy) (tf:=fun x:Value×Value=>.agg #[x.1,x.2,.int .i64 0]) ⟨D_,p_,c_,q_,d_⟩ hw' ak ak hD_)
set_option maxHeartbeats 4000000 in
theorem wO (F:Nat→Prop) (locals:List Int) (x:cJ) (lp pt pl:Option Addr) (lc ct cl:Nat) (w:World) (hl:af F w (.slice lp locals.length lc) locals) (ha:0≤x.a):Calls G.P 97 #[.slice lp locals.length lc,.agg #[Value.int .i64 x.op,Value.int .i64 x.a,Value.int .i64 x.b,Value.int .u64 x.n,Value.int .i64 x.kind,Value.int .i64 x.val,Value.int .i64 x.index,Value.slice pt x.types.length ct,Value.slice pl x.labels.length cl]] w (fe (ec locals x) (fun _=>False) w):=by
 obtain⟨op,a,b,n,kind,val,index,types,labels⟩:=x
 dsimp only at ha ⊢
 obtain⟨j,rfl⟩:=Int.eq_ofNat_of_zero_le ha
 by_cases hj:j<locals.length
 ·obtain⟨bk,o,rfl,hF,hc⟩:=hl.at hj
  have hcj:=hc j hj
  by_cases h1:op=32
  ·subst h1
   rw[show ec locals ⟨32,(j:Nat),b,n,kind,val,index,types,labels⟩=(⟨[],[ix locals j]⟩,0)from by unfold ec;dsimp only;rw[if_neg Mj,if_pos rfl,Int.toNat_natCast]]
   refine KC ?_
   repeat'(first|refine ar ?_|(refine KN fun b_=>?_)|(refine eH fun b_ _=>?_)|refine uO ?_|fail)
   all_goals exact i4
  ·by_cases h2:op=33
   ·subst h2
    rw[show ec locals ⟨33,(j:Nat),b,n,kind,val,index,types,labels⟩=(⟨[ix locals j],[]⟩,0)from by unfold ec;dsimp only;rw[if_neg Mj,if_neg h1,if_pos rfl,Int.toNat_natCast]]
    refine KC ?_
    repeat'(first|refine ar ?_|(refine KN fun b_=>?_)|(refine eH fun b_ _=>?_)|refine uO ?_|fail)
    all_goals exact i4
   ·rw[show ec locals ⟨op,(j:Nat),b,n,kind,val,index,types,labels⟩=(⟨[ix locals j],[ix locals j]⟩,0)from by unfold ec;dsimp only;rw[if_neg Mj,if_neg h1,if_neg h2,Int.toNat_natCast]]
    refine KC ?_
    repeat'(first|refine ar ?_|(refine KN fun b_=>?_)|(refine eH fun b_ _=>?_)|refine uO ?_|fail)
    all_goals exact i4
 ·rw[show ec locals ⟨op,(j:Nat),b,n,kind,val,index,types,labels⟩=(dy,11)from if_pos LT]
  refine KC ?_
  repeat'(first|refine ar ?_|(refine KN fun b_=>?_)|(refine eH fun b_ _=>?_)|refine uO ?_|fail)
  all_goals exact i4
set_option maxHeartbeats 4000000 in
theorem vy (F:Nat→Prop) (m:aj) (cs:List Value) (x:cJ) (pt pl:Option Addr) (ct cl:Nat) (w:World) (hm:ay F w cs m) (ha:0≤x.a) (hi:dV x.a) (hb:0≤x.b) (hj:dV x.b):Calls G.P 98 #[.agg cs.toArray,.agg #[Value.int .i64 x.op,Value.int .i64 x.a,Value.int .i64 x.b,Value.int .u64 x.n,Value.int .i64 x.kind,Value.int .i64 x.val,Value.int .i64 x.index,Value.slice pt x.types.length ct,Value.slice pl x.labels.length cl]] w (fe (cX m x) (fun _=>False) w):=by
 have hm0:=hm
 obtain⟨v0,v1,v2,v3,v4,v5,v6,v7,v8,v9,rfl,r0,r1,r2,r3,r4,r5,r6,r7,r8,r9,g0⟩:=hm
 obtain⟨op,a,b,n,kind,val,index,types,labels⟩:=x
 dsimp only at ha hi ⊢
 cases hg:cx (fA m) a with
 |none=>
  rw[show cX m ⟨op,a,b,n,kind,val,index,types,labels⟩=(dy,11)from by unfold cX;dsimp only;rw[hg]]
  refine KE ?_
  repeat'(first|refine ar ?_|(refine KN fun b_=>?_)|(refine eH fun b_ _=>?_)|refine uO ?_|(refine aa.ai (f:=148) ?_;refine aa.aq (v:=.tuple #[.agg #[.int .i64 0,.bool false],.bool false]) rfl rfl rfl (fun w' hw'=>by have:=jO F m a _ w' (hm0.aO (show Ext w w' from hw'.at) (fun _ _ _ h=>h)) ha hi;rw[hg]at this;exact this) ?_)|fail)
  all_goals exact i4
 |some g=>
  obtain⟨gv,gm⟩:=g
  by_cases h1:op=35
  ·subst h1
   rw[show cX m ⟨35,a,b,n,kind,val,index,types,labels⟩=(⟨[],[gv]⟩,0)from by unfold cX;dsimp only;rw[hg];rfl]
   refine KE ?_
   repeat'(first|refine ar ?_|(refine KN fun b_=>?_)|(refine eH fun b_ _=>?_)|refine uO ?_|(refine aa.ai (f:=148) ?_;refine aa.aq (v:=.tuple #[.agg #[.int .i64 gv,.bool gm],.bool true]) rfl rfl rfl (fun w' hw'=>by have:=jO F m a _ w' (hm0.aO (show Ext w w' from hw'.at) (fun _ _ _ h=>h)) ha hi;rw[hg]at this;exact this) ?_)|fail)
   all_goals exact i4
  ·cases gm with
   |false=>
    rw[show cX m ⟨op,a,b,n,kind,val,index,types,labels⟩=(dy,18)from by unfold cX;dsimp only;rw[hg];dsimp only;rw[if_neg h1,if_pos rfl]]
    refine KE ?_
    repeat'(first|refine ar ?_|(refine KN fun b_=>?_)|(refine eH fun b_ _=>?_)|refine uO ?_|(refine aa.ai (f:=148) ?_;refine aa.aq (v:=.tuple #[.agg #[.int .i64 gv,.bool false],.bool true]) rfl rfl rfl (fun w' hw'=>by have:=jO F m a _ w' (hm0.aO (show Ext w w' from hw'.at) (fun _ _ _ h=>h)) ha hi;rw[hg]at this;exact this) ?_)|fail)
    all_goals exact i4
   |true=>
    rw[show cX m ⟨op,a,b,n,kind,val,index,types,labels⟩=(⟨[gv],[]⟩,0)from by unfold cX;dsimp only;rw[hg];dsimp only;rw[if_neg h1,if_neg Mh]]
    refine KE ?_
    repeat'(first|refine ar ?_|(refine KN fun b_=>?_)|(refine eH fun b_ _=>?_)|refine uO ?_|(refine aa.ai (f:=148) ?_;refine aa.aq (v:=.tuple #[.agg #[.int .i64 gv,.bool true],.bool true]) rfl rfl rfl (fun w' hw'=>by have:=jO F m a _ w' (hm0.aO (show Ext w w' from hw'.at) (fun _ _ _ h=>h)) ha hi;rw[hg]at this;exact this) ?_)|fail)
    all_goals exact i4
theorem FG {g g':Prop} (h:g') (hw:dS g'→g:=by(intro hk_;(first|(refine aa.ai (f:=147) ?_;refine aa.aq (v:=.tuple #[.agg #[.int .i64 te,.int .i64 l1,.int .i64 l2,.bool l3],.bool true]) rfl rfl rfl (fun w' hw'=>by have:=gV F m a _ w' (hm0.aO (show Ext w w' from hw'.at) (fun _ _ _ h=>h)) ha hi;rw[hg]at this;exact this) ?_));exact hk_.out)):g:=hw ⟨h⟩
set_option maxHeartbeats 4000000 in
theorem xI (F:Nat→Prop) (m:aj) (cs:List Value) (x:cJ) (pt pl:Option Addr) (ct cl:Nat) (w:World) (hm:ay F w cs m) (ha:0≤x.a) (hi:dV x.a) (hb:0≤x.b) (hj:dV x.b):Calls G.P 99 #[.agg cs.toArray,.agg #[Value.int .i64 x.op,Value.int .i64 x.a,Value.int .i64 x.b,Value.int .u64 x.n,Value.int .i64 x.kind,Value.int .i64 x.val,Value.int .i64 x.index,Value.slice pt x.types.length ct,Value.slice pl x.labels.length cl]] w (fe (cU m x) (fun _=>False) w):=by
 have hm0:=hm
 obtain⟨v0,v1,v2,v3,v4,v5,v6,v7,v8,v9,rfl,r0,r1,r2,r3,r4,r5,r6,r7,r8,r9,g0⟩:=hm
 obtain⟨op,a,b,n,kind,val,index,types,labels⟩:=x
 dsimp only at ha hi ⊢
 cases hg:cx (bA m) a with
 |none=>
  rw[show cU m ⟨op,a,b,n,kind,val,index,types,labels⟩=(dy,11)from by unfold cU;dsimp only;rw[hg]]
  refine KF ?_
  repeat'(first|refine ar ?_|(refine KN fun b_=>?_)|(refine eH fun b_ _=>?_)|refine uO ?_|(refine aa.ai (f:=147) ?_;refine aa.aq (v:=.tuple #[.agg #[.int .i64 0,.int .i64 0,.int .i64 0,.bool false],.bool false]) rfl rfl rfl (fun w' hw'=>by have:=gV F m a _ w' (hm0.aO (show Ext w w' from hw'.at) (fun _ _ _ h=>h)) ha hi;rw[hg]at this;exact this) ?_)|fail)
  all_goals exact i4
 |some g=>
  obtain⟨te,l1,l2,l3⟩:=g
  by_cases k0:op=37
  ·subst k0
   rw[show cU m ⟨37,a,b,n,kind,val,index,types,labels⟩=(⟨[1],[te]⟩,0)from by unfold cU;dsimp only;rw[hg];rfl]
   refine KF ?_
   repeat'(first|refine ar ?_|(refine KN fun b_=>?_)|refine FG ?_|fail)
   obtain⟨b5,rfl⟩:∃y:Nat,y=b_:=⟨_,rfl⟩
   refine aZ.cT [.aT b5 [.int .i64 te,.int .i64 l1,.int .i64 l2,.bool l3] ou] [Ext w] bc aV ?_
   repeat'(first|refine og ?_|(refine av.kZ ?_;refine av.he rfl rfl (HE.jJ rfl rfl rfl rfl rfl eT Ml Ml) (fun _=>bc) (fun _=>aV) ?_;rintro b7 _)|(refine av.ep 96 ?_;refine av.he rfl rfl (HE.dX rfl rfl (fun w' hw'=>fJ _ _ _ w')) (fun _=>bc) (fun _=>aV) ?_;rintro⟨⟩ _)|(refine av.ep 95 ?_;refine av.he rfl rfl (HE.dX rfl rfl (fun w' hw'=>gk _ _ _ _ _ _ w')) (fun _=>bc) (fun _=>aV) ?_;rintro⟨⟩ _)|(refine av.nw ?_;refine av.jf rfl (fQ.bn _ rfl rfl rfl rfl rfl rfl aA rfl) (fun _=>bc) (fun _=>aV) ?_;rintro⟨⟩ _)|refine aP.nil LX ?_|refine aP.any LX ?_|exact aN.fin rfl|refine aN.skip LX ?_|refine aN.go ?_ ?_)
   all_goals repeat'(first|refine ar ?_|fail)
   all_goals exact i4
  by_cases k1:op=38
  ·subst k1
   rw[show cU m ⟨38,a,b,n,kind,val,index,types,labels⟩=(⟨[1,te],[]⟩,0)from by unfold cU;dsimp only;rw[hg];rfl]
   refine KF ?_
   repeat'(first|refine ar ?_|(refine KN fun b_=>?_)|(refine eH fun b_ _=>?_)|refine uO ?_|refine FG ?_|fail)
   all_goals exact i4
  by_cases k2:op=64528
  ·subst k2
   rw[show cU m ⟨64528,a,b,n,kind,val,index,types,labels⟩=(⟨[],[1]⟩,0)from by unfold cU;dsimp only;rw[hg];rfl]
   refine KF ?_
   repeat'(first|refine ar ?_|(refine KN fun b_=>?_)|(refine eH fun b_ _=>?_)|refine uO ?_|refine FG ?_|fail)
   all_goals exact i4
  by_cases k3:op=64527
  ·subst k3
   rw[show cU m ⟨64527,a,b,n,kind,val,index,types,labels⟩=(⟨[te,1],[1]⟩,0)from by unfold cU;dsimp only;rw[hg];rfl]
   refine KF ?_
   repeat'(first|refine ar ?_|(refine KN fun b_=>?_)|(refine eH fun b_ _=>?_)|refine uO ?_|refine FG ?_|fail)
   all_goals exact i4
  rw[show cU m ⟨op,a,b,n,kind,val,index,types,labels⟩=(⟨[1,te,1],[]⟩,0)from by unfold cU;dsimp only;rw[hg];dsimp only;rw[if_neg k0,if_neg k1,if_neg k2,if_neg k3]]
  refine KF ?_
  repeat'(first|refine ar ?_|(refine KN fun b_=>?_)|(refine eH fun b_ _=>?_)|refine uO ?_|refine FG ?_|fail)
  all_goals exact i4
set_option maxHeartbeats 4000000 in
theorem la (F:Nat→Prop) (m:aj) (i:Int) (cs:List Value) (w:World) (hm:ay F w cs m) (h0:0≤i) (hi:dV i):Calls G.P 149 #[.agg cs.toArray,.int .i64 i] w fun e w'=>e=.returned (.bool (cx (dD m) i).isSome)∧Ext w w':=by
 have hm0:=hm
 obtain⟨v0,v1,v2,v3,v4,v5,v6,v7,v8,v9,rfl,r0,r1,r2,r3,r4,r5,r6,r7,r8,r9,g0⟩:=hm
 obtain⟨L,hL⟩:∃L,(cx (dD m) i).getD FL=L:=⟨_,rfl⟩
 obtain⟨S,hS⟩:∃S,(cx (dD m) i).isSome=S:=⟨_,rfl⟩
 rw[hS]
 refine ae (l:=[_,_]) Tryz.func149 rfl Tryz.ntmps149 rfl (Ok.start w) ?_
 repeat'(first|refine ar ?_|(refine KN fun b_=>?_)|(refine aa.ai (f:=174) ?_;refine aa.aq (v:=.tuple #[.agg #[.int .i64 L.min,.int .i64 L.max,.bool L.has],.bool S]) rfl rfl rfl (fun w' hw'=>by have:=Br F m i _ w' (hm0.aO (show Ext w w' from hw'.at) (fun _ _ _ h=>h)) h0 hi;rw[hL,hS]at this;exact this) ?_)|fail)
 all_goals exact am
def m8 (m:aj) (x:cJ):aL×Int:=match (if x.op=64526 then(cx (bA m) x.a).map (·.elem)else cx (dA m) x.a),cx (bA m) x.b with
 |some a,some b=>if a≠b.elem then(dy,12)else cE x.op
 |_,_=>(dy,11)
theorem xu {g g':Prop} (h:g') (hw:dS g'→g:=by(intro hk_;(first|refine xJ ?_|(refine aa.ai (f:=101) ?_;refine aa.aq (v:=.tuple #[.int .i64 e0,.bool s0]) rfl rfl rfl (fun w' hw'=>by have:=n7 F m a _ w' (hm0.aO (show Ext w w' from hw'.at) (fun _ _ _ h=>h));rw[jf,hs0]at this;exact this) ?_)|(refine aa.ai (f:=147) ?_;refine aa.aq rfl rfl rfl (fun w' hw'=>hT _ w' hw'.at Md Md) ?_));exact hk_.out)):g:=hw ⟨h⟩
set_option maxHeartbeats 4000000 in
theorem uz (F:Nat→Prop) (m:aj) (cs:List Value) (x:cJ) (pt pl:Option Addr) (ct cl:Nat) (w:World) (hm:ay F w cs m) (ha:0≤x.a) (hi:dV x.a) (hb:0≤x.b) (hj:dV x.b):Calls G.P 100 #[.agg cs.toArray,.agg #[Value.int .i64 x.op,Value.int .i64 x.a,Value.int .i64 x.b,Value.int .u64 x.n,Value.int .i64 x.kind,Value.int .i64 x.val,Value.int .i64 x.index,Value.slice pt x.types.length ct,Value.slice pl x.labels.length cl]] w (fe (m8 m x) (fun _=>False) w):=by
 have hm0:=hm
 obtain⟨v0,v1,v2,v3,v4,v5,v6,v7,v8,v9,rfl,r0,r1,r2,r3,r4,r5,r6,r7,r8,r9,g0⟩:=hm
 obtain⟨op,a,b,n,kind,val,index,types,labels⟩:=x
 dsimp only at ha hi hb hj ⊢
 obtain⟨e0,jf⟩:∃e,(cx (dA m) a).getD 0=e:=⟨_,rfl⟩
 obtain⟨s0,hs0⟩:∃e,(cx (dA m) a).isSome=e:=⟨_,rfl⟩
 have hT:∀(i:Int) (w':World),Ext w w'→0≤i→dV i→Calls G.P 147 #[.agg #[v0,v1,v2,v3,v4,v5,v6,.bool m.br,.int .i64 m.start,v7,v8,v9],.int .i64 i] w' fun e w2=>e=.returned (.tuple #[.agg #[.int .i64 ((cx (bA m) i).getD yR).elem,.int .i64 ((cx (bA m) i).getD yR).lG.min,.int .i64 ((cx (bA m) i).getD yR).lG.max,.bool ((cx (bA m) i).getD yR).lG.has],.bool (cx (bA m) i).isSome])∧Ext w' w2:=fun i w' hx h1 h2=>gV F m i _ w' (hm0.aO hx (fun _ _ _ h=>h)) h1 h2
 obtain⟨T,hTT⟩:∃T:Int→ff,∀i,(cx (bA m) i).getD yR=T i:=⟨_,fun _=>rfl⟩
 obtain⟨S,hSS⟩:∃T:Int→Bool,∀i,(cx (bA m) i).isSome=T i:=⟨_,fun _=>rfl⟩
 simp only[hTT,hSS]at hT
 by_cases h1:op=64526
 ·subst h1
  have hsp:m8 m ⟨64526,a,b,n,kind,val,index,types,labels⟩=if(S a && S b)=false then(dy,11)else if(T a).elem≠(T b).elem then(dy,12)else cE 64526:=by
   unfold m8
   dsimp only
   rw[if_pos rfl,←hSS,←hSS,←hTT,←hTT]
   cases cx (bA m) a<;>cases cx (bA m) b<;>rfl
  rw[hsp]
  clear hsp
  rcases Bool.eq_false_or_eq_true (S a)with g1|g1
  ·rcases Bool.eq_false_or_eq_true (S b)with g2|g2
   ·have n2:(!S b)=false:=by rw[g2];rfl
    have n1:(!S a)=false:=by rw[g1];rfl
    by_cases g3:(T a).elem=(T b).elem
    ·rw[if_neg (by rw[g1,g2];decide),if_neg (fun h=>h g3)]
     refine KG ?_
     repeat'(first|refine ar ?_|(refine KN fun b_=>?_)|refine xu ?_|(refine aa.ai (f:=104) ?_;refine aa.he (HE.rg (F:=fun _=>False) (r:=cE 64526) ak (fun _ h=>h.elim) rfl rfl (fun w' hw'=>du 64526 w')) rfl ?_;rintro⟨D_,p_,c_,q_,d_⟩ hD_;dsimp only)|fail)
     all_goals exact wl
    ·rw[if_neg (by rw[g1,g2];decide),if_pos g3]
     refine KG ?_
     repeat'(first|refine ar ?_|(refine KN fun b_=>?_)|refine xu ?_|(refine aa.ai (f:=104) ?_;refine aa.he (HE.rg (F:=fun _=>False) (r:=cE 64526) ak (fun _ h=>h.elim) rfl rfl (fun w' hw'=>du 64526 w')) rfl ?_;rintro⟨D_,p_,c_,q_,d_⟩ hD_;dsimp only)|fail)
     all_goals exact wl
   ·rw[if_pos (by rw[g2,Bool.and_false])]
    have n2:(!S b)=true:=by rw[g2];rfl
    have n1:(!S a)=false:=by rw[g1];rfl
    refine KG ?_
    repeat'(first|refine ar ?_|(refine KN fun b_=>?_)|refine xu ?_|(refine aa.ai (f:=104) ?_;refine aa.he (HE.rg (F:=fun _=>False) (r:=cE 64526) ak (fun _ h=>h.elim) rfl rfl (fun w' hw'=>du 64526 w')) rfl ?_;rintro⟨D_,p_,c_,q_,d_⟩ hD_;dsimp only)|fail)
    all_goals exact wl
  ·rw[if_pos (by rw[g1,Bool.false_and])]
   have n1:(!S a)=true:=by rw[g1];rfl
   refine KG ?_
   repeat'(first|refine ar ?_|(refine KN fun b_=>?_)|refine xu ?_|(refine aa.ai (f:=104) ?_;refine aa.he (HE.rg (F:=fun _=>False) (r:=cE 64526) ak (fun _ h=>h.elim) rfl rfl (fun w' hw'=>du 64526 w')) rfl ?_;rintro⟨D_,p_,c_,q_,d_⟩ hD_;dsimp only)|fail)
   all_goals exact wl
 ·have hsp:m8 m ⟨op,a,b,n,kind,val,index,types,labels⟩=if(s0 && S b)=false then(dy,11)else if e0≠(T b).elem then(dy,12)else cE op:=by
   unfold m8
   dsimp only
   rw[if_neg h1,←hSS,←hTT,←hs0,←jf]
   cases cx (dA m) a<;>cases cx (bA m) b<;>rfl
  rw[hsp]
  clear hsp
  rcases Bool.eq_false_or_eq_true (s0)with g1|g1
  ·rcases Bool.eq_false_or_eq_true (S b)with g2|g2
   ·have n2:(!S b)=false:=by rw[g2];rfl
    have n1:(!s0)=false:=by rw[g1];rfl
    by_cases g3:e0=(T b).elem
    ·rw[if_neg (by rw[g1,g2];decide),if_neg (fun h=>h g3)]
     refine KG ?_
     repeat'(first|refine ar ?_|(refine KN fun b_=>?_)|refine xu ?_|(refine aa.ai (f:=104) ?_;refine aa.he (HE.rg (F:=fun _=>False) (r:=cE op) ak (fun _ h=>h.elim) rfl rfl (fun w' hw'=>du op w')) rfl ?_;rintro⟨D_,p_,c_,q_,d_⟩ hD_;dsimp only)|fail)
     all_goals exact wn
    ·rw[if_neg (by rw[g1,g2];decide),if_pos g3]
     refine KG ?_
     repeat'(first|refine ar ?_|(refine KN fun b_=>?_)|refine xu ?_|(refine aa.ai (f:=104) ?_;refine aa.he (HE.rg (F:=fun _=>False) (r:=cE op) ak (fun _ h=>h.elim) rfl rfl (fun w' hw'=>du op w')) rfl ?_;rintro⟨D_,p_,c_,q_,d_⟩ hD_;dsimp only)|fail)
     all_goals exact wn
   ·rw[if_pos (by rw[g2,Bool.and_false])]
    have n2:(!S b)=true:=by rw[g2];rfl
    have n1:(!s0)=false:=by rw[g1];rfl
    refine KG ?_
    repeat'(first|refine ar ?_|(refine KN fun b_=>?_)|refine xu ?_|(refine aa.ai (f:=104) ?_;refine aa.he (HE.rg (F:=fun _=>False) (r:=cE op) ak (fun _ h=>h.elim) rfl rfl (fun w' hw'=>du op w')) rfl ?_;rintro⟨D_,p_,c_,q_,d_⟩ hD_;dsimp only)|fail)
    all_goals exact wn
  ·rw[if_pos (by rw[g1,Bool.false_and])]
   have n1:(!s0)=true:=by rw[g1];rfl
   refine KG ?_
   repeat'(first|refine ar ?_|(refine KN fun b_=>?_)|refine xu ?_|(refine aa.ai (f:=104) ?_;refine aa.he (HE.rg (F:=fun _=>False) (r:=cE op) ak (fun _ h=>h.elim) rfl rfl (fun w' hw'=>du op w')) rfl ?_;rintro⟨D_,p_,c_,q_,d_⟩ hD_;dsimp only)|fail)
   all_goals exact wn
def kL (m:aj) (x:cJ):aL×Int:=match fS m x.a with
 |none=>(dy,11)
 |some f=>if x.op=16 then(f,0)else if mB m x.a=true then cE x.op else(dy,22)
set_option maxHeartbeats 8000000 in
theorem yJ (F:Nat→Prop) (m:aj) (cs:List Value) (x:cJ) (pt pl:Option Addr) (ct cl:Nat) (w:World) (hm:ay F w cs m) (ha:0≤x.a) (hi:dV x.a) (hb:0≤x.b) (hj:dV x.b) (hF:∀k,F k→k<w.heap.size):Calls G.P 93 #[.agg cs.toArray,.agg #[Value.int .i64 x.op,Value.int .i64 x.a,Value.int .i64 x.b,Value.int .u64 x.n,Value.int .i64 x.kind,Value.int .i64 x.val,Value.int .i64 x.index,Value.slice pt x.types.length ct,Value.slice pl x.labels.length cl]] w (fe (kL m x) F w):=by
 have hm0:=hm
 obtain⟨v0,v1,v2,v3,v4,v5,v6,v7,v8,v9,rfl,r0,r1,r2,r3,r4,r5,r6,r7,r8,r9,g0⟩:=hm
 obtain⟨op,a,b,n,kind,val,index,types,labels⟩:=x
 dsimp only at ha hi hb hj ⊢
 cases hf:fS m a with
 |none=>
  rw[show kL m ⟨op,a,b,n,kind,val,index,types,labels⟩=(dy,11)from by unfold kL;dsimp only;rw[hf]]
  refine KH ?_
  repeat'(first|refine ar ?_|(refine KN fun b_=>?_)|refine xJ ?_|(refine aa.ai (f:=145) ?_;refine aa.he (HE.BJ (F:=F) (r:=none) ak hF rfl rfl (fun w' hw'=>by have:=lX F m a _ w' (hm0.aO (show Ext w w' from hw'.at) (fun _ _ _ h=>h)) (fun k hk=>Nat.lt_of_lt_of_le (hF k hk) (show Ext w w' from hw'.at).size) ha hi;rw[hf]at this;exact this)) rfl ?_;rintro⟨D_,p_,c_,q_,d_⟩ hD_;dsimp only)|fail)
  all_goals exact ii
 |some f=>
  by_cases h1:op=16
  ·subst h1
   rw[show kL m ⟨16,a,b,n,kind,val,index,types,labels⟩=(f,0)from by unfold kL;dsimp only;rw[hf];rfl]
   refine KH ?_
   repeat'(first|refine ar ?_|(refine KN fun b_=>?_)|refine xJ ?_|(refine aa.ai (f:=145) ?_;refine aa.he (HE.BJ (F:=F) (r:=some f) ak hF rfl rfl (fun w' hw'=>by have:=lX F m a _ w' (hm0.aO (show Ext w w' from hw'.at) (fun _ _ _ h=>h)) (fun k hk=>Nat.lt_of_lt_of_le (hF k hk) (show Ext w w' from hw'.at).size) ha hi;rw[hf]at this;exact this)) rfl ?_;rintro⟨D_,p_,c_,q_,d_⟩ hD_;dsimp only)|fail)
   all_goals(refine ah.a6 (.inl rfl) rfl rfl rfl rfl rfl aA rfl ?_;exact fun w' hw'=>bg.iI (f0:=(some f).getD dy) (tf:=fun x:Value×Value=>.agg #[x.1,x.2,.int .i64 0]) ⟨D_,p_,c_,q_,d_⟩ hw' ak ak hD_)
  ·cases hd:mB m a with
   |true=>
    rw[show kL m ⟨op,a,b,n,kind,val,index,types,labels⟩=cE op from by unfold kL;dsimp only;rw[hf];dsimp only;rw[if_neg h1,if_pos hd]]
    refine KH ?_
    repeat'(first|refine ar ?_|(refine KN fun b_=>?_)|refine xJ ?_|(refine aa.ai (f:=145) ?_;refine aa.he (HE.BJ (F:=F) (r:=some f) ak hF rfl rfl (fun w' hw'=>by have:=lX F m a _ w' (hm0.aO (show Ext w w' from hw'.at) (fun _ _ _ h=>h)) (fun k hk=>Nat.lt_of_lt_of_le (hF k hk) (show Ext w w' from hw'.at).size) ha hi;rw[hf]at this;exact this)) rfl ?_;rintro⟨D1_,p1_,c1_,q1_,d1_⟩ hD1_;dsimp only)|(refine aa.ai (f:=146) ?_;refine aa.aq (v:=.bool true) rfl rfl rfl (fun w' hw'=>by have:=mQ F m a _ w' (hm0.aO (show Ext w w' from hw'.at) (fun _ _ _ h=>h));rw[hd]at this;exact this) ?_)|(refine aa.ai (f:=104) ?_;refine aa.he (HE.rg (F:=fun _=>False) (r:=cE op) ak (fun _ h=>h.elim) rfl rfl (fun w' hw'=>du op w')) rfl ?_;rintro⟨D_,p_,c_,q_,d_⟩ hD_;dsimp only)|fail)
    all_goals first|omega|(refine ah.a6 (.inl rfl) rfl rfl rfl rfl rfl aA rfl ?_;exact fun w' hw'=>bg.iI (f0:=(cE op).1) (tf:=fun x:Value×Value=>.agg #[x.1,x.2,.int .i64 (cE op).2]) ⟨D_,p_,c_,q_,d_⟩ hw' ak ak (fun k h=>.inr ((hD_ k h).resolve_left id)))
   |false=>
    rw[show kL m ⟨op,a,b,n,kind,val,index,types,labels⟩=(dy,22)from by unfold kL;dsimp only;rw[hf];dsimp only;rw[if_neg h1,if_neg (by rw[hd];decide)]]
    refine KH ?_
    repeat'(first|refine ar ?_|(refine KN fun b_=>?_)|refine xJ ?_|(refine aa.ai (f:=145) ?_;refine aa.he (HE.BJ (F:=F) (r:=some f) ak hF rfl rfl (fun w' hw'=>by have:=lX F m a _ w' (hm0.aO (show Ext w w' from hw'.at) (fun _ _ _ h=>h)) (fun k hk=>Nat.lt_of_lt_of_le (hF k hk) (show Ext w w' from hw'.at).size) ha hi;rw[hf]at this;exact this)) rfl ?_;rintro⟨D1_,p1_,c1_,q1_,d1_⟩ hD1_;dsimp only)|(refine aa.ai (f:=146) ?_;refine aa.aq (v:=.bool false) rfl rfl rfl (fun w' hw'=>by have:=mQ F m a _ w' (hm0.aO (show Ext w w' from hw'.at) (fun _ _ _ h=>h));rw[hd]at this;exact this) ?_)|fail)
    all_goals exact ii
set_option maxHeartbeats 8000000 in
theorem qV (F:Nat→Prop) (m:aj) (cs:List Value) (x:cJ) (pt pl:Option Addr) (ct cl:Nat) (w:World) (hm:ay F w cs m) (ha:0≤x.a) (hi:dV x.a) (hb:0≤x.b) (hj:dV x.b) (hF:∀k,F k→k<w.heap.size) (hT:kx m):Calls G.P 94 #[.agg cs.toArray,.agg #[Value.int .i64 x.op,Value.int .i64 x.a,Value.int .i64 x.b,Value.int .u64 x.n,Value.int .i64 x.kind,Value.int .i64 x.val,Value.int .i64 x.index,Value.slice pt x.types.length ct,Value.slice pl x.labels.length cl]] w (fe (bM m x) F w):=by
 have hm0:=hm
 obtain⟨v0,v1,v2,v3,v4,v5,v6,v7,v8,v9,rfl,r0,r1,r2,r3,r4,r5,r6,r7,r8,r9,g0⟩:=hm
 obtain⟨op,a,b,n,kind,val,index,types,labels⟩:=x
 dsimp only at ha hi hb hj ⊢
 cases hf:cx m.types a with
 |none=>
  rw[show bM m ⟨op,a,b,n,kind,val,index,types,labels⟩=(dy,11)from by unfold bM;dsimp only;rw[hf]]
  obtain⟨T,hTT⟩:∃T:ff,(cx (bA m) b).getD yR=T:=⟨_,rfl⟩
  obtain⟨S,hSS⟩:∃T:Bool,(cx (bA m) b).isSome=T:=⟨_,rfl⟩
  refine KI ?_
  repeat'(first|refine ar ?_|(refine KN fun b_=>?_)|refine xJ ?_|refine K8 ?_|(refine aa.ai (f:=119) ?_;refine aa.he (HE.BJ (F:=F) (r:=none) ak hF rfl rfl (fun w' hw'=>by have:=iJ F m a _ w' (hm0.aO (show Ext w w' from hw'.at) (fun _ _ _ h=>h));rw[hf]at this;exact this)) rfl ?_;rintro⟨D_,p_,c_,q_,d_⟩ hD_;dsimp only)|(refine aa.ai (f:=147) ?_;refine aa.aq (v:=.tuple #[.agg #[.int .i64 T.elem,.int .i64 T.lG.min,.int .i64 T.lG.max,.bool T.lG.has],.bool S]) rfl rfl rfl (fun w' hw'=>by have:=gV F m b _ w' (hm0.aO (show Ext w w' from hw'.at) (fun _ _ _ h=>h)) hb hj;rw[hTT,hSS]at this;exact this) ?_)|fail)
  all_goals exact ii
 |some f=>
  obtain⟨hl1,hl2⟩:=hT f (nc hf)
  cases hg:cx (bA m) b with
  |none=>
   rw[show bM m ⟨op,a,b,n,kind,val,index,types,labels⟩=(dy,11)from by unfold bM;dsimp only;rw[hf,hg]]
   refine KI ?_
   repeat'(first|refine ar ?_|(refine KN fun b_=>?_)|refine xJ ?_|refine K8 ?_|(refine aa.ai (f:=119) ?_;refine aa.he (HE.BJ (F:=F) (r:=some f) ak hF rfl rfl (fun w' hw'=>by have:=iJ F m a _ w' (hm0.aO (show Ext w w' from hw'.at) (fun _ _ _ h=>h));rw[hf]at this;exact this)) rfl ?_;rintro⟨D_,p_,c_,q_,d_⟩ hD_;dsimp only)|(refine aa.ai (f:=147) ?_;refine aa.aq (v:=.tuple #[.agg #[.int .i64 0,.int .i64 0,.int .i64 0,.bool false],.bool false]) rfl rfl rfl (fun w' hw'=>by have:=gV F m b _ w' (hm0.aO (show Ext w w' from hw'.at) (fun _ _ _ h=>h)) hb hj;rw[hg]at this;exact this) ?_)|fail)
   all_goals exact ii
  |some g=>
   obtain⟨te,l1,l2,l3⟩:=g
   by_cases h3:te=3
   ·subst h3
    rw[show bM m ⟨op,a,b,n,kind,val,index,types,labels⟩=(⟨f.params++[1],f.results⟩,0)from by unfold bM;dsimp only;rw[hf,hg];rfl]
    refine KI ?_
    repeat'(first|refine ar ?_|(refine KN fun b_=>?_)|(refine aa.ai (f:=119) ?_;refine aa.he (HE.BJ (F:=F) (r:=some f) ak hF rfl rfl (fun w' hw'=>by have:=iJ F m a _ w' (hm0.aO (show Ext w w' from hw'.at) (fun _ _ _ h=>h));rw[hf]at this;exact this)) rfl ?_;rintro⟨D_,p_,c_,q_,d_⟩ hD_;dsimp only)|(refine aa.ai (f:=147) ?_;refine aa.aq (v:=.tuple #[.agg #[.int .i64 3,.int .i64 l1,.int .i64 l2,.bool l3],.bool true]) rfl rfl rfl (fun w' hw'=>by have:=gV F m b _ w' (hm0.aO (show Ext w w' from hw'.at) (fun _ _ _ h=>h)) hb hj;rw[hg]at this;exact this) ?_)|fail)
    rename_i b5
    simp only[Option.getD_some]
    refine aZ.pure (φ:=f.params.length=0∨∃bk o,p_=some ⟨bk,o,none⟩) (fun w' hw'=>Gg (hw'.get (p:=qJ f ⟨D_,p_,c_,q_,d_⟩) ak)) ?_
    intro hp4
    refine aZ.cT [.aT b5 [.slice p_ f.params.length c_,.slice q_ f.results.length d_] rf] [qJ f ⟨D_,p_,c_,q_,d_⟩,Ext w] bc aV ?_
    repeat'(first|refine og ?_|(refine av.kZ ?_;refine av.he rfl rfl (HE.GY (B:=w.heap.size) (fun w' hw'=>(show Ext w w' from hw'.at).size) rfl rfl rfl rfl rfl eT Ml Ml) (fun _=>bc) (fun _=>aV) ?_;rintro b7 hb7;try(refine aP.yD (B:=w.heap.size) (m:=0) (s:=1) (cs:=[]) aA rfl hb7 Mh ?_))|(refine av.ug ?_;refine av.he rfl rfl (HE.gA (aX f.params) rfl rfl (fun _=>aA) (Cn (a:=⟨D_,p_,c_,q_,d_⟩) hp4 ak) Me rfl rfl rfl Ml Ml Ml (eV _) (by show(0+f.params.length)*8≤_;omega) Mj (fun w' hw'=>(show Ext w w' from hw'.at).size)) (fun _=>bc) (fun _=>aV) ?_;rintro v8 _;refine aP.pure (φ:=∃p c,v8=.slice p (0+f.params.length) c) (fun w' hw'=>by obtain⟨p,c,e,_⟩:=ax (hw'.own (v:=v8));exact⟨p,c,e⟩) ?_;rintro⟨p8,c8,rfl⟩)|(refine av.ug ?_;refine av.he rfl rfl (HE.gA [.int .i64 1] rfl rfl (fun _=>aA) (.inr ⟨_,0,rfl,BS bG⟩) rfl rfl rfl rfl Ml Ml Ml (fun u hu=>by rw[List.mem_singleton.1 hu];rfl) (by show(0+f.params.length+1)*8≤_;omega) Mj (fun w' hw'=>(show Ext w w' from hw'.at).size)) (fun _=>bc) (fun _=>aV) ?_;rintro v9 _;refine aP.pure (φ:=∃p c,v9=.slice p (0+f.params.length+1) c) (fun w' hw'=>by obtain⟨p,c,e,_⟩:=ax (hw'.own (v:=v9));exact⟨p,c,e⟩) ?_;rintro⟨p9,c9,rfl⟩)|(refine av.ep 95 ?_;refine av.he rfl rfl (HE.dX rfl rfl (fun w' hw'=>gk p9 q_ (0+f.params.length+1) f.results.length c9 d_ w')) (fun _=>bc) (fun _=>aV) ?_;rintro⟨⟩ _)|(refine av.nw ?_;refine av.jf rfl (fQ.bn _ rfl rfl rfl rfl rfl rfl aA rfl) (fun _=>bc) (fun _=>aV) ?_;rintro⟨⟩ _)|refine aP.nil LX ?_|refine aP.any LX ?_|exact aN.fin rfl|refine aN.skip LX ?_|refine aN.go ?_ ?_)
    all_goals
     repeat'(first|refine ar ?_|fail)
     refine J4 ?_
     intro w' hw'
     have e9:w'.ownsRow w.heap.size m7 1 (.slice p9 (0+f.params.length+1) c9) (0+f.params.length+1) ([]++aX f.params++[.int .i64 1]):=hw'.own
     rw[Nat.zero_add]at e9
     have g1:af (fun k=>w.heap.size≤k) w' (.slice p9 (f.params.length+1) c9) (f.params++[1]):=j0 (xs:=f.params++[1]) (by simpa[aX]using e9) (by rw[List.length_append];show f.params.length+1≤_;omega)
     have g2:=(hw'.get (p:=qJ f ⟨D_,p_,c_,q_,d_⟩) ak).2
     have e3:(⟨f.params++[1],f.results⟩:aL).params.length=0+f.params.length+1:=by show(f.params++[1]).length=_;rw[List.length_append,Nat.zero_add];rfl
     exact⟨⟨(.slice p9 (0+f.params.length+1) c9,_),rfl,by rw[Nat.zero_add];exact g1.mono fun _ _ h=>.inr h,g2.mono fun k _ h=>hD_ k h⟩,hw'.at⟩
   ·rw[show bM m ⟨op,a,b,n,kind,val,index,types,labels⟩=(dy,12)from by unfold bM;dsimp only;rw[hf,hg];dsimp only;rw[if_pos h3]]
    refine KI ?_
    repeat'(first|refine ar ?_|(refine KN fun b_=>?_)|refine xJ ?_|refine K8 ?_|(refine aa.ai (f:=119) ?_;refine aa.he (HE.BJ (F:=F) (r:=some f) ak hF rfl rfl (fun w' hw'=>by have:=iJ F m a _ w' (hm0.aO (show Ext w w' from hw'.at) (fun _ _ _ h=>h));rw[hf]at this;exact this)) rfl ?_;rintro⟨D_,p_,c_,q_,d_⟩ hD_;dsimp only)|(refine aa.ai (f:=147) ?_;refine aa.aq (v:=.tuple #[.agg #[.int .i64 te,.int .i64 l1,.int .i64 l2,.bool l3],.bool true]) rfl rfl rfl (fun w' hw'=>by have:=gV F m b _ w' (hm0.aO (show Ext w w' from hw'.at) (fun _ _ _ h=>h)) hb hj;rw[hg]at this;exact this) ?_)|fail)
    all_goals exact ii
end Go.Proofs.YtgbgnipidakdhaaGreatDoor
