/- The reference of layer 23: wants. Printed by gen_wt.py. -/
import Derived.Test.YtgbgnipidakdhaaGreatDoorJWw
namespace Go.Proofs.YtgbgnipidakdhaaGreatDoor
open Go.RowKit
set_option maxRecDepth 100000
theorem pD {g g':Prop} (h:g') (hw:dS g'→g:=by(intro hk_;(first|refine Lq ?_);exact hk_.out)):g:=hw ⟨h⟩
set_option maxHeartbeats 8000000 in
theorem tE (F:Nat→Prop) (m:aj) (cs:List Value) (locals:List Int) (x:cJ) (lp pt pl:Option Addr) (lc ct cl:Nat) (w:World) (hm:ay F w cs m) (hl:af F w (.slice lp locals.length lc) locals) (_ht:af F w (.slice pt x.types.length ct) x.types) (ha:0≤x.a) (_hi:dV x.a) (_hb:0≤x.b) (_hj:dV x.b) (_hF:∀k,F k→k<w.heap.size) (_hT:kx m) (hk:dZ x.op=7):Calls G.P 41 #[.agg cs.toArray,.slice lp locals.length lc,.agg #[Value.int .i64 x.op,Value.int .i64 x.a,Value.int .i64 x.b,Value.int .u64 x.n,Value.int .i64 x.kind,Value.int .i64 x.val,Value.int .i64 x.index,Value.slice pt x.types.length ct,Value.slice pl x.labels.length cl]] w (fe (ec locals x) F w):=by
 have hm0:=hm
 obtain⟨v0,v1,v2,v3,v4,v5,v6,v7,v8,v9,rfl,r0,r1,r2,r3,r4,r5,r6,r7,r8,r9,g0⟩:=hm
 have hof:∀w',Calls G.P 86 #[.int .i64 x.op] w' fun e w2=>e=.returned (.int .i64 7)∧Ext w' w2:=fun w'=>by have:=cW x.op w';rw[show(dU x.op).2.2=7 from hk]at this;exact this
 refine Jy ?_
 repeat'(first|refine ar ?_|(refine KN fun b_=>?_)|refine pD ?_|(refine aa.ai (f:=97) ?_;refine aa.he (HE.rg (F:=fun _=>False) (r:=ec locals x) ak (fun _ h=>h.elim) rfl rfl (fun w' hw'=>wO F locals x lp pt pl lc ct cl w' (hl.aO (show Ext w w' from hw'.at) (fun _ _ _ h=>h)) ha)) rfl ?_;rintro⟨D_,p_,c_,q_,d_⟩ hD_;dsimp only)|fail)
 all_goals first|omega|(refine ah.a6 (.inl rfl) rfl rfl rfl rfl rfl aA rfl ?_;exact fun w' hw'=>bg.iI (f0:=(ec locals x).1) (tf:=fun y:Value×Value=>.agg #[y.1,y.2,.int .i64 (ec locals x).2]) ⟨D_,p_,c_,q_,d_⟩ hw' ak ak (fun k h=>.inr ((hD_ k h).resolve_left id)))
set_option maxHeartbeats 8000000 in
theorem tA (F:Nat→Prop) (m:aj) (cs:List Value) (locals:List Int) (x:cJ) (lp pt pl:Option Addr) (lc ct cl:Nat) (w:World) (hm:ay F w cs m) (_hl:af F w (.slice lp locals.length lc) locals) (_ht:af F w (.slice pt x.types.length ct) x.types) (ha:0≤x.a) (hi:dV x.a) (hb:0≤x.b) (hj:dV x.b) (_hF:∀k,F k→k<w.heap.size) (_hT:kx m) (hk:dZ x.op=8):Calls G.P 41 #[.agg cs.toArray,.slice lp locals.length lc,.agg #[Value.int .i64 x.op,Value.int .i64 x.a,Value.int .i64 x.b,Value.int .u64 x.n,Value.int .i64 x.kind,Value.int .i64 x.val,Value.int .i64 x.index,Value.slice pt x.types.length ct,Value.slice pl x.labels.length cl]] w (fe (cX m x) F w):=by
 have hm0:=hm
 obtain⟨v0,v1,v2,v3,v4,v5,v6,v7,v8,v9,rfl,r0,r1,r2,r3,r4,r5,r6,r7,r8,r9,g0⟩:=hm
 have hof:∀w',Calls G.P 86 #[.int .i64 x.op] w' fun e w2=>e=.returned (.int .i64 8)∧Ext w' w2:=fun w'=>by have:=cW x.op w';rw[show(dU x.op).2.2=8 from hk]at this;exact this
 refine Jy ?_
 repeat'(first|refine ar ?_|(refine KN fun b_=>?_)|refine pD ?_|(refine aa.ai (f:=98) ?_;refine aa.he (HE.rg (F:=fun _=>False) (r:=cX m x) ak (fun _ h=>h.elim) rfl rfl (fun w' hw'=>vy F m _ x pt pl ct cl w' (hm0.aO (show Ext w w' from hw'.at) (fun _ _ _ h=>h)) ha hi hb hj)) rfl ?_;rintro⟨D_,p_,c_,q_,d_⟩ hD_;dsimp only)|fail)
 all_goals first|omega|(refine ah.a6 (.inl rfl) rfl rfl rfl rfl rfl aA rfl ?_;exact fun w' hw'=>bg.iI (f0:=(cX m x).1) (tf:=fun y:Value×Value=>.agg #[y.1,y.2,.int .i64 (cX m x).2]) ⟨D_,p_,c_,q_,d_⟩ hw' ak ak (fun k h=>.inr ((hD_ k h).resolve_left id)))
set_option maxHeartbeats 8000000 in
theorem um (F:Nat→Prop) (m:aj) (cs:List Value) (locals:List Int) (x:cJ) (lp pt pl:Option Addr) (lc ct cl:Nat) (w:World) (hm:ay F w cs m) (_hl:af F w (.slice lp locals.length lc) locals) (_ht:af F w (.slice pt x.types.length ct) x.types) (ha:0≤x.a) (hi:dV x.a) (hb:0≤x.b) (hj:dV x.b) (_hF:∀k,F k→k<w.heap.size) (_hT:kx m) (hk:dZ x.op=9):Calls G.P 41 #[.agg cs.toArray,.slice lp locals.length lc,.agg #[Value.int .i64 x.op,Value.int .i64 x.a,Value.int .i64 x.b,Value.int .u64 x.n,Value.int .i64 x.kind,Value.int .i64 x.val,Value.int .i64 x.index,Value.slice pt x.types.length ct,Value.slice pl x.labels.length cl]] w (fe (cU m x) F w):=by
 have hm0:=hm
 obtain⟨v0,v1,v2,v3,v4,v5,v6,v7,v8,v9,rfl,r0,r1,r2,r3,r4,r5,r6,r7,r8,r9,g0⟩:=hm
 have hof:∀w',Calls G.P 86 #[.int .i64 x.op] w' fun e w2=>e=.returned (.int .i64 9)∧Ext w' w2:=fun w'=>by have:=cW x.op w';rw[show(dU x.op).2.2=9 from hk]at this;exact this
 refine Jy ?_
 repeat'(first|refine ar ?_|(refine KN fun b_=>?_)|refine pD ?_|(refine aa.ai (f:=99) ?_;refine aa.he (HE.rg (F:=fun _=>False) (r:=cU m x) ak (fun _ h=>h.elim) rfl rfl (fun w' hw'=>xI F m _ x pt pl ct cl w' (hm0.aO (show Ext w w' from hw'.at) (fun _ _ _ h=>h)) ha hi hb hj)) rfl ?_;rintro⟨D_,p_,c_,q_,d_⟩ hD_;dsimp only)|fail)
 all_goals first|omega|(refine ah.a6 (.inl rfl) rfl rfl rfl rfl rfl aA rfl ?_;exact fun w' hw'=>bg.iI (f0:=(cU m x).1) (tf:=fun y:Value×Value=>.agg #[y.1,y.2,.int .i64 (cU m x).2]) ⟨D_,p_,c_,q_,d_⟩ hw' ak ak (fun k h=>.inr ((hD_ k h).resolve_left id)))
set_option maxHeartbeats 8000000 in
theorem s6 (F:Nat→Prop) (m:aj) (cs:List Value) (locals:List Int) (x:cJ) (lp pt pl:Option Addr) (lc ct cl:Nat) (w:World) (hm:ay F w cs m) (_hl:af F w (.slice lp locals.length lc) locals) (_ht:af F w (.slice pt x.types.length ct) x.types) (ha:0≤x.a) (hi:dV x.a) (hb:0≤x.b) (hj:dV x.b) (_hF:∀k,F k→k<w.heap.size) (_hT:kx m) (hk:dZ x.op=10):Calls G.P 41 #[.agg cs.toArray,.slice lp locals.length lc,.agg #[Value.int .i64 x.op,Value.int .i64 x.a,Value.int .i64 x.b,Value.int .u64 x.n,Value.int .i64 x.kind,Value.int .i64 x.val,Value.int .i64 x.index,Value.slice pt x.types.length ct,Value.slice pl x.labels.length cl]] w (fe (m8 m x) F w):=by
 have hm0:=hm
 obtain⟨v0,v1,v2,v3,v4,v5,v6,v7,v8,v9,rfl,r0,r1,r2,r3,r4,r5,r6,r7,r8,r9,g0⟩:=hm
 have hof:∀w',Calls G.P 86 #[.int .i64 x.op] w' fun e w2=>e=.returned (.int .i64 10)∧Ext w' w2:=fun w'=>by have:=cW x.op w';rw[show(dU x.op).2.2=10 from hk]at this;exact this
 refine Jy ?_
 repeat'(first|refine ar ?_|(refine KN fun b_=>?_)|refine pD ?_|(refine aa.ai (f:=100) ?_;refine aa.he (HE.rg (F:=fun _=>False) (r:=m8 m x) ak (fun _ h=>h.elim) rfl rfl (fun w' hw'=>uz F m _ x pt pl ct cl w' (hm0.aO (show Ext w w' from hw'.at) (fun _ _ _ h=>h)) ha hi hb hj)) rfl ?_;rintro⟨D_,p_,c_,q_,d_⟩ hD_;dsimp only)|fail)
 all_goals exact gt
set_option maxHeartbeats 8000000 in
theorem rm (F:Nat→Prop) (m:aj) (cs:List Value) (locals:List Int) (x:cJ) (lp pt pl:Option Addr) (lc ct cl:Nat) (w:World) (hm:ay F w cs m) (_hl:af F w (.slice lp locals.length lc) locals) (_ht:af F w (.slice pt x.types.length ct) x.types) (ha:0≤x.a) (hi:dV x.a) (hb:0≤x.b) (hj:dV x.b) (_hF:∀k,F k→k<w.heap.size) (_hT:kx m) (hk:dZ x.op=11):Calls G.P 41 #[.agg cs.toArray,.slice lp locals.length lc,.agg #[Value.int .i64 x.op,Value.int .i64 x.a,Value.int .i64 x.b,Value.int .u64 x.n,Value.int .i64 x.kind,Value.int .i64 x.val,Value.int .i64 x.index,Value.slice pt x.types.length ct,Value.slice pl x.labels.length cl]] w (fe (m8 m x) F w):=by
 have hm0:=hm
 obtain⟨v0,v1,v2,v3,v4,v5,v6,v7,v8,v9,rfl,r0,r1,r2,r3,r4,r5,r6,r7,r8,r9,g0⟩:=hm
 have hof:∀w',Calls G.P 86 #[.int .i64 x.op] w' fun e w2=>e=.returned (.int .i64 11)∧Ext w' w2:=fun w'=>by have:=cW x.op w';rw[show(dU x.op).2.2=11 from hk]at this;exact this
 refine Jy ?_
 repeat'(first|refine ar ?_|(refine KN fun b_=>?_)|refine pD ?_|(refine aa.ai (f:=100) ?_;refine aa.he (HE.rg (F:=fun _=>False) (r:=m8 m x) ak (fun _ h=>h.elim) rfl rfl (fun w' hw'=>uz F m _ x pt pl ct cl w' (hm0.aO (show Ext w w' from hw'.at) (fun _ _ _ h=>h)) ha hi hb hj)) rfl ?_;rintro⟨D_,p_,c_,q_,d_⟩ hD_;dsimp only)|fail)
 all_goals exact gt
theorem nE {g g':Prop} (h:g') (hw:dS g'→g:=by(intro hk_;(first|refine Lo ?_);exact hk_.out)):g:=hw ⟨h⟩
theorem iR {g g':Prop} (h:g') (hw:dS g'→g:=by(intro hk_;(first|refine nE ?_|refine Lq ?_);exact hk_.out)):g:=hw ⟨h⟩
set_option maxHeartbeats 8000000 in
theorem sV (F:Nat→Prop) (m:aj) (cs:List Value) (locals:List Int) (x:cJ) (lp pt pl:Option Addr) (lc ct cl:Nat) (w:World) (hm:ay F w cs m) (_hl:af F w (.slice lp locals.length lc) locals) (_ht:af F w (.slice pt x.types.length ct) x.types) (_ha:0≤x.a) (_hi:dV x.a) (_hb:0≤x.b) (_hj:dV x.b) (_hF:∀k,F k→k<w.heap.size) (_hT:kx m) (hk:dZ x.op=12):Calls G.P 41 #[.agg cs.toArray,.slice lp locals.length lc,.agg #[Value.int .i64 x.op,Value.int .i64 x.a,Value.int .i64 x.b,Value.int .u64 x.n,Value.int .i64 x.kind,Value.int .i64 x.val,Value.int .i64 x.index,Value.slice pt x.types.length ct,Value.slice pl x.labels.length cl]] w (fe (if(cx (dA m) x.a).isNone then(dy,11)else cE x.op) F w):=by
 have hm0:=hm
 obtain⟨v0,v1,v2,v3,v4,v5,v6,v7,v8,v9,rfl,r0,r1,r2,r3,r4,r5,r6,r7,r8,r9,g0⟩:=hm
 have hof:∀w',Calls G.P 86 #[.int .i64 x.op] w' fun e w2=>e=.returned (.int .i64 12)∧Ext w' w2:=fun w'=>by have:=cW x.op w';rw[show(dU x.op).2.2=12 from hk]at this;exact this
 obtain⟨e0,jf⟩:∃e,(cx (dA m) x.a).getD 0=e:=⟨_,rfl⟩
 cases hs:(cx (dA m) x.a).isSome with
 |false=>
  rw[if_pos (by cases hz:cx (dA m) x.a<;>simp_all)]
  refine Jy ?_
  repeat'(first|refine ar ?_|(refine KN fun b_=>?_)|refine iR ?_|(refine aa.ai (f:=101) ?_;refine aa.aq (v:=.tuple #[.int .i64 e0,.bool false]) rfl rfl rfl (fun w' hw'=>by have:=n7 F m x.a _ w' (hm0.aO (show Ext w w' from hw'.at) (fun _ _ _ h=>h));rw[jf,hs]at this;exact this) ?_)|fail)
  all_goals exact ii
 |true=>
  rw[if_neg (by cases hz:cx (dA m) x.a<;>simp_all)]
  refine Jy ?_
  repeat'(first|refine ar ?_|(refine KN fun b_=>?_)|refine iR ?_|(refine aa.ai (f:=101) ?_;refine aa.aq (v:=.tuple #[.int .i64 e0,.bool true]) rfl rfl rfl (fun w' hw'=>by have:=n7 F m x.a _ w' (hm0.aO (show Ext w w' from hw'.at) (fun _ _ _ h=>h));rw[jf,hs]at this;exact this) ?_)|(refine aa.ai (f:=104) ?_;refine aa.he (HE.rg (F:=fun _=>False) (r:=cE x.op) ak (fun _ h=>h.elim) rfl rfl (fun w' hw'=>du x.op w')) rfl ?_;rintro⟨D_,p_,c_,q_,d_⟩ hD_;dsimp only)|fail)
  all_goals exact ip
def kh (m:aj) (k:Int) (x:cJ):aL×Int:=
 if k=14∧(cx (dD m) x.a).isNone then(dy,11)else if k=15∧(m.bD.length:Int)≤x.a then(dy,11)else if(cx (dD m) x.b).isNone then(dy,11)else if k=17∧kO x.op<x.a then(dy,19)else cE x.op
theorem B7 {g g':Prop} (h:g') (hw:dS g'→g:=by(intro hk_;(first|refine nE ?_|(refine aa.ai (f:=149) ?_;refine aa.aq (v:=.bool false) rfl rfl rfl (fun w' hw'=>by have:=la F m b _ w' (hm0.aO (show Ext w w' from hw'.at) (fun _ _ _ h=>h)) hb hj;rw[gb]at this;exact this) ?_));exact hk_.out)):g:=hw ⟨h⟩
theorem vn {g g':Prop} (h:g') (hw:dS g'→g:=by(intro hk_;(first|refine nE ?_|(refine aa.ai (f:=149) ?_;refine aa.aq (v:=.bool true) rfl rfl rfl (fun w' hw'=>by have:=la F m b _ w' (hm0.aO (show Ext w w' from hw'.at) (fun _ _ _ h=>h)) hb hj;rw[gb]at this;exact this) ?_));exact hk_.out)):g:=hw ⟨h⟩
set_option maxHeartbeats 8000000 in
theorem jN (F:Nat→Prop) (m:aj) (cs:List Value) (x:cJ) (pt pl:Option Addr) (ct cl:Nat) (w:World) (hm:ay F w cs m) (ha:0≤x.a) (hi:dV x.a) (hb:0≤x.b) (hj:dV x.b) (k:Int) (hk:dZ x.op=k) (h14:k=14↔x.op=64522) (h15:k=15↔x.op=64520):Calls G.P 102 #[.agg cs.toArray,.agg #[Value.int .i64 x.op,Value.int .i64 x.a,Value.int .i64 x.b,Value.int .u64 x.n,Value.int .i64 x.kind,Value.int .i64 x.val,Value.int .i64 x.index,Value.slice pt x.types.length ct,Value.slice pl x.labels.length cl]] w (fe (kh m k x) (fun _=>False) w):=by
 have hm0:=hm
 obtain⟨v0,v1,v2,v3,v4,v5,v6,v7,v8,v9,rfl,r0,r1,r2,r3,r4,r5,r6,r7,r8,r9,g0⟩:=hm
 obtain⟨op,a,b,n,kind,val,index,types,labels⟩:=x
 dsimp only at ha hi hb hj hk h14 h15 ⊢
 have hof:∀w',Calls G.P 86 #[.int .i64 op] w' fun e w2=>e=.returned (.int .i64 k)∧Ext w' w2:=fun w'=>by have:=cW op w';rw[show(dU op).2.2=k from hk]at this;exact this
 have hal:=fun w'=>xM op w'
 have hda:=fun w' (hx:Ext w w')=>pF F m _ w' (hm0.aO hx (fun _ _ _ h=>h))
 unfold kh
 dsimp only
 obtain⟨al,hal0⟩:∃t,kO op=t:=⟨_,rfl⟩
 rw[hal0]at hal ⊢
 obtain⟨nd,hnd⟩:∃t:Int,(m.bD.length:Int)=t:=⟨_,rfl⟩
 rw[hnd]at hda ⊢
 clear hal0 hk hnd
 by_cases c14:op=64522
 ·obtain rfl:=h14.2 c14
  subst c14
  cases ga:(cx (dD m) a).isSome with
  |false=>
   rw[if_pos ⟨rfl,by cases hz:cx (dD m) a<;>simp_all⟩]
   refine Jz ?_
   repeat'(first|refine ar ?_|(refine KN fun b_=>?_)|refine nE ?_|(refine aa.cm (f:=149) ?_;refine aa.bV (v:=.bool false) rfl rfl rfl rfl (fun w' hw'=>by have:=la F m a _ w' (hm0.aO (show Ext w w' from hw'.at) (fun _ _ _ h=>h)) ha hi;rw[ga]at this;exact this) ?_)|fail)
   all_goals exact ii
  |true=>
   rw[if_neg (by rintro⟨-,h⟩;cases hz:cx (dD m) a<;>simp_all),if_neg Mj]
   cases gb:(cx (dD m) b).isSome with
   |false=>
    rw[if_pos LM]
    refine Jz ?_
    repeat'(first|refine ar ?_|(refine KN fun b_=>?_)|refine nE ?_|(refine aa.cm (f:=149) ?_;refine aa.bV (v:=.bool true) rfl rfl rfl rfl (fun w' hw'=>by have:=la F m a _ w' (hm0.aO (show Ext w w' from hw'.at) (fun _ _ _ h=>h)) ha hi;rw[ga]at this;exact this) ?_)|fail)
    refine GT ?_
    refine bQ ?_
    repeat'(first|refine ar ?_|(refine KN fun b_=>?_)|refine B7 ?_|fail)
    all_goals exact ii
   |true=>
    rw[if_neg LM,if_neg Mj]
    refine Jz ?_
    repeat'(first|refine ar ?_|(refine KN fun b_=>?_)|refine nE ?_|(refine aa.cm (f:=149) ?_;refine aa.bV (v:=.bool true) rfl rfl rfl rfl (fun w' hw'=>by have:=la F m a _ w' (hm0.aO (show Ext w w' from hw'.at) (fun _ _ _ h=>h)) ha hi;rw[ga]at this;exact this) ?_)|fail)
    refine GT ?_
    refine bQ ?_
    repeat'(first|refine ar ?_|(refine KN fun b_=>?_)|refine vn ?_|fail)
    refine GT ?_
    refine bQ ?_
    refine aw.mT (v:=.int .i64 14) rfl rfl rfl (fun w' hw'=>hof w') ?_
    refine bQ ?_
    repeat'(first|refine ar ?_|(refine KN fun b_=>?_)|refine nE ?_|(refine aa.ai (f:=104) ?_;refine aa.he (HE.rg (F:=fun _=>False) (r:=cE 64522) ak (fun _ h=>h.elim) rfl rfl (fun w' hw'=>du 64522 w')) rfl ?_;rintro⟨D_,p_,c_,q_,d_⟩ hD_;dsimp only)|fail)
    all_goals first|omega|(refine ah.a6 (.inl rfl) rfl rfl rfl rfl rfl aA rfl ?_;exact fun w' hw'=>bg.iI (f0:=(cE 64522).1) (tf:=fun x:Value×Value=>.agg #[x.1,x.2,.int .i64 (cE 64522).2]) ⟨D_,p_,c_,q_,d_⟩ hw' ak ak hD_)
 have n14:¬k=14:=fun h=>c14 (h14.1 h)
 rw[if_neg Mj]
 by_cases c15:op=64520
 ·obtain rfl:=h15.2 c15
  subst c15
  by_cases hd:nd≤a
  ·rw[if_pos ⟨rfl,hd⟩]
   refine Jz ?_
   repeat'(first|refine ar ?_|(refine KN fun b_=>?_)|refine vn ?_|fail)
   refine GT ?_
   refine bQ ?_
   refine aw.kN (v:=.int .i64 nd) rfl rfl rfl rfl (fun w' hw'=>hda w' hw'.at) ?_
   refine bQ ?_
   repeat'(first|refine ar ?_|(refine KN fun b_=>?_)|refine nE ?_|fail)
   all_goals exact ii
  rw[if_neg Mj]
  cases gb:(cx (dD m) b).isSome with
  |false=>
   rw[if_pos LM]
   refine Jz ?_
   repeat'(first|refine ar ?_|(refine KN fun b_=>?_)|refine nE ?_|fail)
   refine GT ?_
   refine bQ ?_
   refine aw.kN (v:=.int .i64 nd) rfl rfl rfl rfl (fun w' hw'=>hda w' hw'.at) ?_
   refine bQ ?_
   repeat'(first|refine ar ?_|(refine KN fun b_=>?_)|refine B7 ?_|fail)
   all_goals exact ii
  |true=>
   rw[if_neg LM,if_neg Mj]
   refine Jz ?_
   repeat'(first|refine ar ?_|(refine KN fun b_=>?_)|refine nE ?_|fail)
   refine GT ?_
   refine bQ ?_
   refine aw.kN (v:=.int .i64 nd) rfl rfl rfl rfl (fun w' hw'=>hda w' hw'.at) ?_
   refine bQ ?_
   repeat'(first|refine ar ?_|(refine KN fun b_=>?_)|refine vn ?_|fail)
   refine GT ?_
   refine bQ ?_
   refine aw.mT (v:=.int .i64 15) rfl rfl rfl (fun w' hw'=>hof w') ?_
   refine bQ ?_
   repeat'(first|refine ar ?_|(refine KN fun b_=>?_)|refine nE ?_|(refine aa.ai (f:=104) ?_;refine aa.he (HE.rg (F:=fun _=>False) (r:=cE 64520) ak (fun _ h=>h.elim) rfl rfl (fun w' hw'=>du 64520 w')) rfl ?_;rintro⟨D_,p_,c_,q_,d_⟩ hD_;dsimp only)|fail)
   all_goals first|omega|(refine ah.a6 (.inl rfl) rfl rfl rfl rfl rfl aA rfl ?_;exact fun w' hw'=>bg.iI (f0:=(cE 64520).1) (tf:=fun x:Value×Value=>.agg #[x.1,x.2,.int .i64 (cE 64520).2]) ⟨D_,p_,c_,q_,d_⟩ hw' ak ak hD_)
 have n15:¬k=15:=fun h=>c15 (h15.1 h)
 rw[if_neg Mj]
 cases gb:(cx (dD m) b).isSome with
 |false=>
  rw[if_pos LM]
  refine Jz ?_
  repeat'(first|refine ar ?_|(refine KN fun b_=>?_)|refine nE ?_|fail)
  refine GT ?_
  refine bQ ?_
  repeat'(first|refine ar ?_|(refine KN fun b_=>?_)|refine B7 ?_|fail)
  all_goals exact ii
 |true=>
  rw[if_neg LM]
  by_cases c17:k=17
  ·subst c17
   by_cases hd:al<a
   ·rw[if_pos ⟨rfl,hd⟩]
    refine Jz ?_
    repeat'(first|refine ar ?_|(refine KN fun b_=>?_)|refine nE ?_|fail)
    refine GT ?_
    refine bQ ?_
    repeat'(first|refine ar ?_|(refine KN fun b_=>?_)|refine vn ?_|fail)
    refine GT ?_
    refine bQ ?_
    refine aw.mT (v:=.int .i64 17) rfl rfl rfl (fun w' hw'=>hof w') ?_
    refine bQ ?_
    refine aw.kN (v:=.int .i64 al) rfl rfl rfl rfl (fun w' hw'=>hal w') ?_
    refine bQ ?_
    repeat'(first|refine ar ?_|(refine KN fun b_=>?_)|refine nE ?_|fail)
    all_goals exact ii
   ·rw[if_neg Mj]
    refine Jz ?_
    repeat'(first|refine ar ?_|(refine KN fun b_=>?_)|refine nE ?_|fail)
    refine GT ?_
    refine bQ ?_
    repeat'(first|refine ar ?_|(refine KN fun b_=>?_)|refine vn ?_|fail)
    refine GT ?_
    refine bQ ?_
    refine aw.mT (v:=.int .i64 17) rfl rfl rfl (fun w' hw'=>hof w') ?_
    refine bQ ?_
    refine aw.kN (v:=.int .i64 al) rfl rfl rfl rfl (fun w' hw'=>hal w') ?_
    refine bQ ?_
    repeat'(first|refine ar ?_|(refine KN fun b_=>?_)|refine nE ?_|(refine aa.ai (f:=104) ?_;refine aa.he (HE.rg (F:=fun _=>False) (r:=cE op) ak (fun _ h=>h.elim) rfl rfl (fun w' hw'=>du op w')) rfl ?_;rintro⟨D_,p_,c_,q_,d_⟩ hD_;dsimp only)|fail)
    all_goals exact i0
  ·rw[if_neg Mj]
   refine Jz ?_
   repeat'(first|refine ar ?_|(refine KN fun b_=>?_)|refine nE ?_|fail)
   refine GT ?_
   refine bQ ?_
   repeat'(first|refine ar ?_|(refine KN fun b_=>?_)|refine vn ?_|fail)
   refine GT ?_
   refine bQ ?_
   refine aw.mT (v:=.int .i64 k) rfl rfl rfl (fun w' hw'=>hof w') ?_
   refine bQ ?_
   repeat'(first|refine ar ?_|(refine KN fun b_=>?_)|refine nE ?_|(refine aa.ai (f:=104) ?_;refine aa.he (HE.rg (F:=fun _=>False) (r:=cE op) ak (fun _ h=>h.elim) rfl rfl (fun w' hw'=>du op w')) rfl ?_;rintro⟨D_,p_,c_,q_,d_⟩ hD_;dsimp only)|fail)
   all_goals exact i0
theorem FE:∀{op:Int},dZ op=10→op=64526:=fun{op} h=>by
 obtain⟨r,hr,h1,h2⟩:=qI (op:=op) Mj
 have:=List.all_eq_true.1 (show(kg.all fun r=>!decide (r.2.2=10) || decide (r.1=64526))=true by decide+kernel) r hr
 rw[h2,h,h1]at this
 simpa using this
theorem we:∀{op:Int},dZ op=14↔op=64522:=fun{op}=>⟨fun h=>by
 obtain⟨r,hr,h1,h2⟩:=qI (op:=op) Mj
 have:=List.all_eq_true.1 (show(kg.all fun r=>!decide (r.2.2=14) || decide (r.1=64522))=true by decide+kernel) r hr
 rw[h2,h,h1]at this
 simpa using this,fun h=>by rw[h];decide+kernel⟩
theorem vK:∀{op:Int},dZ op=15↔op=64520:=fun{op}=>⟨fun h=>by
 obtain⟨r,hr,h1,h2⟩:=qI (op:=op) Mj
 have:=List.all_eq_true.1 (show(kg.all fun r=>!decide (r.2.2=15) || decide (r.1=64520))=true by decide+kernel) r hr
 rw[h2,h,h1]at this
 simpa using this,fun h=>by rw[h];decide+kernel⟩
set_option maxHeartbeats 8000000 in
theorem qM (F:Nat→Prop) (m:aj) (cs:List Value) (locals:List Int) (x:cJ) (lp pt pl:Option Addr) (lc ct cl:Nat) (w:World) (hm:ay F w cs m) (_hl:af F w (.slice lp locals.length lc) locals) (_ht:af F w (.slice pt x.types.length ct) x.types) (ha:0≤x.a) (hi:dV x.a) (hb:0≤x.b) (hj:dV x.b) (_hF:∀k,F k→k<w.heap.size) (_hT:kx m) (hk:dZ x.op=13):Calls G.P 41 #[.agg cs.toArray,.slice lp locals.length lc,.agg #[Value.int .i64 x.op,Value.int .i64 x.a,Value.int .i64 x.b,Value.int .u64 x.n,Value.int .i64 x.kind,Value.int .i64 x.val,Value.int .i64 x.index,Value.slice pt x.types.length ct,Value.slice pl x.labels.length cl]] w (fe (kh m 13 x) F w):=by
 have hm0:=hm
 obtain⟨v0,v1,v2,v3,v4,v5,v6,v7,v8,v9,rfl,r0,r1,r2,r3,r4,r5,r6,r7,r8,r9,g0⟩:=hm
 have hof:∀w',Calls G.P 86 #[.int .i64 x.op] w' fun e w2=>e=.returned (.int .i64 13)∧Ext w' w2:=fun w'=>by have:=cW x.op w';rw[show(dU x.op).2.2=13 from hk]at this;exact this
 have h14:=we (op:=x.op)
 have h15:=vK (op:=x.op)
 rw[hk]at h14 h15
 refine Jy ?_
 repeat'(first|refine ar ?_|(refine KN fun b_=>?_)|refine pD ?_|(refine aa.ai (f:=102) ?_;refine aa.he (HE.rg (F:=fun _=>False) (r:=kh m 13 x) ak (fun _ h=>h.elim) rfl rfl (fun w' hw'=>jN F m _ x pt pl ct cl w' (hm0.aO (show Ext w w' from hw'.at) (fun _ _ _ h=>h)) ha hi hb hj 13 hk h14 h15)) rfl ?_;rintro⟨D_,p_,c_,q_,d_⟩ hD_;dsimp only)|fail)
 all_goals first|omega|(refine ah.a6 (.inl rfl) rfl rfl rfl rfl rfl aA rfl ?_;exact fun w' hw'=>bg.iI (f0:=(kh m 13 x).1) (tf:=fun y:Value×Value=>.agg #[y.1,y.2,.int .i64 (kh m 13 x).2]) ⟨D_,p_,c_,q_,d_⟩ hw' ak ak (fun k h=>.inr ((hD_ k h).resolve_left id)))
set_option maxHeartbeats 8000000 in
theorem rr (F:Nat→Prop) (m:aj) (cs:List Value) (locals:List Int) (x:cJ) (lp pt pl:Option Addr) (lc ct cl:Nat) (w:World) (hm:ay F w cs m) (_hl:af F w (.slice lp locals.length lc) locals) (_ht:af F w (.slice pt x.types.length ct) x.types) (ha:0≤x.a) (hi:dV x.a) (hb:0≤x.b) (hj:dV x.b) (_hF:∀k,F k→k<w.heap.size) (_hT:kx m) (hk:dZ x.op=14):Calls G.P 41 #[.agg cs.toArray,.slice lp locals.length lc,.agg #[Value.int .i64 x.op,Value.int .i64 x.a,Value.int .i64 x.b,Value.int .u64 x.n,Value.int .i64 x.kind,Value.int .i64 x.val,Value.int .i64 x.index,Value.slice pt x.types.length ct,Value.slice pl x.labels.length cl]] w (fe (kh m 14 x) F w):=by
 have hm0:=hm
 obtain⟨v0,v1,v2,v3,v4,v5,v6,v7,v8,v9,rfl,r0,r1,r2,r3,r4,r5,r6,r7,r8,r9,g0⟩:=hm
 have hof:∀w',Calls G.P 86 #[.int .i64 x.op] w' fun e w2=>e=.returned (.int .i64 14)∧Ext w' w2:=fun w'=>by have:=cW x.op w';rw[show(dU x.op).2.2=14 from hk]at this;exact this
 have h14:=we (op:=x.op)
 have h15:=vK (op:=x.op)
 rw[hk]at h14 h15
 refine Jy ?_
 repeat'(first|refine ar ?_|(refine KN fun b_=>?_)|refine pD ?_|(refine aa.ai (f:=102) ?_;refine aa.he (HE.rg (F:=fun _=>False) (r:=kh m 14 x) ak (fun _ h=>h.elim) rfl rfl (fun w' hw'=>jN F m _ x pt pl ct cl w' (hm0.aO (show Ext w w' from hw'.at) (fun _ _ _ h=>h)) ha hi hb hj 14 hk h14 h15)) rfl ?_;rintro⟨D_,p_,c_,q_,d_⟩ hD_;dsimp only)|fail)
 all_goals first|omega|(refine ah.a6 (.inl rfl) rfl rfl rfl rfl rfl aA rfl ?_;exact fun w' hw'=>bg.iI (f0:=(kh m 14 x).1) (tf:=fun y:Value×Value=>.agg #[y.1,y.2,.int .i64 (kh m 14 x).2]) ⟨D_,p_,c_,q_,d_⟩ hw' ak ak (fun k h=>.inr ((hD_ k h).resolve_left id)))
set_option maxHeartbeats 8000000 in
theorem sS (F:Nat→Prop) (m:aj) (cs:List Value) (locals:List Int) (x:cJ) (lp pt pl:Option Addr) (lc ct cl:Nat) (w:World) (hm:ay F w cs m) (_hl:af F w (.slice lp locals.length lc) locals) (_ht:af F w (.slice pt x.types.length ct) x.types) (ha:0≤x.a) (hi:dV x.a) (hb:0≤x.b) (hj:dV x.b) (_hF:∀k,F k→k<w.heap.size) (_hT:kx m) (hk:dZ x.op=15):Calls G.P 41 #[.agg cs.toArray,.slice lp locals.length lc,.agg #[Value.int .i64 x.op,Value.int .i64 x.a,Value.int .i64 x.b,Value.int .u64 x.n,Value.int .i64 x.kind,Value.int .i64 x.val,Value.int .i64 x.index,Value.slice pt x.types.length ct,Value.slice pl x.labels.length cl]] w (fe (kh m 15 x) F w):=by
 have hm0:=hm
 obtain⟨v0,v1,v2,v3,v4,v5,v6,v7,v8,v9,rfl,r0,r1,r2,r3,r4,r5,r6,r7,r8,r9,g0⟩:=hm
 have hof:∀w',Calls G.P 86 #[.int .i64 x.op] w' fun e w2=>e=.returned (.int .i64 15)∧Ext w' w2:=fun w'=>by have:=cW x.op w';rw[show(dU x.op).2.2=15 from hk]at this;exact this
 have h14:=we (op:=x.op)
 have h15:=vK (op:=x.op)
 rw[hk]at h14 h15
 refine Jy ?_
 repeat'(first|refine ar ?_|(refine KN fun b_=>?_)|refine pD ?_|(refine aa.ai (f:=102) ?_;refine aa.he (HE.rg (F:=fun _=>False) (r:=kh m 15 x) ak (fun _ h=>h.elim) rfl rfl (fun w' hw'=>jN F m _ x pt pl ct cl w' (hm0.aO (show Ext w w' from hw'.at) (fun _ _ _ h=>h)) ha hi hb hj 15 hk h14 h15)) rfl ?_;rintro⟨D_,p_,c_,q_,d_⟩ hD_;dsimp only)|fail)
 all_goals first|omega|(refine ah.a6 (.inl rfl) rfl rfl rfl rfl rfl aA rfl ?_;exact fun w' hw'=>bg.iI (f0:=(kh m 15 x).1) (tf:=fun y:Value×Value=>.agg #[y.1,y.2,.int .i64 (kh m 15 x).2]) ⟨D_,p_,c_,q_,d_⟩ hw' ak ak (fun k h=>.inr ((hD_ k h).resolve_left id)))
set_option maxHeartbeats 8000000 in
theorem sE (F:Nat→Prop) (m:aj) (cs:List Value) (locals:List Int) (x:cJ) (lp pt pl:Option Addr) (lc ct cl:Nat) (w:World) (hm:ay F w cs m) (_hl:af F w (.slice lp locals.length lc) locals) (_ht:af F w (.slice pt x.types.length ct) x.types) (ha:0≤x.a) (hi:dV x.a) (hb:0≤x.b) (hj:dV x.b) (_hF:∀k,F k→k<w.heap.size) (_hT:kx m) (hk:dZ x.op=17):Calls G.P 41 #[.agg cs.toArray,.slice lp locals.length lc,.agg #[Value.int .i64 x.op,Value.int .i64 x.a,Value.int .i64 x.b,Value.int .u64 x.n,Value.int .i64 x.kind,Value.int .i64 x.val,Value.int .i64 x.index,Value.slice pt x.types.length ct,Value.slice pl x.labels.length cl]] w (fe (kh m 17 x) F w):=by
 have hm0:=hm
 obtain⟨v0,v1,v2,v3,v4,v5,v6,v7,v8,v9,rfl,r0,r1,r2,r3,r4,r5,r6,r7,r8,r9,g0⟩:=hm
 have hof:∀w',Calls G.P 86 #[.int .i64 x.op] w' fun e w2=>e=.returned (.int .i64 17)∧Ext w' w2:=fun w'=>by have:=cW x.op w';rw[show(dU x.op).2.2=17 from hk]at this;exact this
 have h14:=we (op:=x.op)
 have h15:=vK (op:=x.op)
 rw[hk]at h14 h15
 refine Jy ?_
 repeat'(first|refine ar ?_|(refine KN fun b_=>?_)|refine pD ?_|(refine aa.ai (f:=102) ?_;refine aa.he (HE.rg (F:=fun _=>False) (r:=kh m 17 x) ak (fun _ h=>h.elim) rfl rfl (fun w' hw'=>jN F m _ x pt pl ct cl w' (hm0.aO (show Ext w w' from hw'.at) (fun _ _ _ h=>h)) ha hi hb hj 17 hk h14 h15)) rfl ?_;rintro⟨D_,p_,c_,q_,d_⟩ hD_;dsimp only)|fail)
 all_goals first|omega|(refine ah.a6 (.inl rfl) rfl rfl rfl rfl rfl aA rfl ?_;exact fun w' hw'=>bg.iI (f0:=(kh m 17 x).1) (tf:=fun y:Value×Value=>.agg #[y.1,y.2,.int .i64 (kh m 17 x).2]) ⟨D_,p_,c_,q_,d_⟩ hw' ak ak (fun k h=>.inr ((hD_ k h).resolve_left id)))
set_option maxHeartbeats 8000000 in
theorem qS (F:Nat→Prop) (m:aj) (cs:List Value) (locals:List Int) (x:cJ) (lp pt pl:Option Addr) (lc ct cl:Nat) (w:World) (hm:ay F w cs m) (_hl:af F w (.slice lp locals.length lc) locals) (_ht:af F w (.slice pt x.types.length ct) x.types) (_ha:0≤x.a) (_hi:dV x.a) (_hb:0≤x.b) (_hj:dV x.b) (_hF:∀k,F k→k<w.heap.size) (_hT:kx m) (hk:dZ x.op=16):Calls G.P 41 #[.agg cs.toArray,.slice lp locals.length lc,.agg #[Value.int .i64 x.op,Value.int .i64 x.a,Value.int .i64 x.b,Value.int .u64 x.n,Value.int .i64 x.kind,Value.int .i64 x.val,Value.int .i64 x.index,Value.slice pt x.types.length ct,Value.slice pl x.labels.length cl]] w (fe (if(m.bD.length:Int)≤x.a then(dy,11)else cE x.op) F w):=by
 have hm0:=hm
 obtain⟨v0,v1,v2,v3,v4,v5,v6,v7,v8,v9,rfl,r0,r1,r2,r3,r4,r5,r6,r7,r8,r9,g0⟩:=hm
 have hof:∀w',Calls G.P 86 #[.int .i64 x.op] w' fun e w2=>e=.returned (.int .i64 16)∧Ext w' w2:=fun w'=>by have:=cW x.op w';rw[show(dU x.op).2.2=16 from hk]at this;exact this
 have hda:=fun w' (hx:Ext w w')=>pF F m _ w' (hm0.aO hx (fun _ _ _ h=>h))
 obtain⟨nd,hnd⟩:∃t:Int,(m.bD.length:Int)=t:=⟨_,rfl⟩
 rw[hnd]at hda ⊢
 clear hnd
 by_cases hd:nd≤x.a
 ·rw[if_pos hd]
  refine Jy ?_
  repeat'(first|refine ar ?_|(refine KN fun b_=>?_)|refine iR ?_|fail)
  refine GT ?_
  refine bQ ?_
  refine aw.mT (v:=.int .i64 nd) rfl rfl rfl (fun w' hw'=>hda w' hw'.at) ?_
  refine bQ ?_
  repeat'(first|refine ar ?_|(refine KN fun b_=>?_)|refine nE ?_|fail)
  all_goals exact ii
 ·rw[if_neg hd]
  refine Jy ?_
  repeat'(first|refine ar ?_|(refine KN fun b_=>?_)|refine iR ?_|fail)
  refine GT ?_
  refine bQ ?_
  refine aw.mT (v:=.int .i64 nd) rfl rfl rfl (fun w' hw'=>hda w' hw'.at) ?_
  refine bQ ?_
  repeat'(first|refine ar ?_|(refine KN fun b_=>?_)|refine nE ?_|(refine aa.ai (f:=104) ?_;refine aa.he (HE.rg (F:=fun _=>False) (r:=cE x.op) ak (fun _ h=>h.elim) rfl rfl (fun w' hw'=>du x.op w')) rfl ?_;rintro⟨D_,p_,c_,q_,d_⟩ hD_;dsimp only)|fail)
  all_goals exact ip
set_option maxHeartbeats 8000000 in
theorem rJ (F:Nat→Prop) (m:aj) (cs:List Value) (locals:List Int) (x:cJ) (lp pt pl:Option Addr) (lc ct cl:Nat) (w:World) (hm:ay F w cs m) (_hl:af F w (.slice lp locals.length lc) locals) (_ht:af F w (.slice pt x.types.length ct) x.types) (_ha:0≤x.a) (_hi:dV x.a) (_hb:0≤x.b) (_hj:dV x.b) (_hF:∀k,F k→k<w.heap.size) (_hT:kx m) (hk:dZ x.op=20):Calls G.P 41 #[.agg cs.toArray,.slice lp locals.length lc,.agg #[Value.int .i64 x.op,Value.int .i64 x.a,Value.int .i64 x.b,Value.int .u64 x.n,Value.int .i64 x.kind,Value.int .i64 x.val,Value.int .i64 x.index,Value.slice pt x.types.length ct,Value.slice pl x.labels.length cl]] w (fe (⟨[],[x.a]⟩,0) F w):=by
 have hm0:=hm
 obtain⟨v0,v1,v2,v3,v4,v5,v6,v7,v8,v9,rfl,r0,r1,r2,r3,r4,r5,r6,r7,r8,r9,g0⟩:=hm
 have hof:∀w',Calls G.P 86 #[.int .i64 x.op] w' fun e w2=>e=.returned (.int .i64 20)∧Ext w' w2:=fun w'=>by have:=cW x.op w';rw[show(dU x.op).2.2=20 from hk]at this;exact this
 refine Jy ?_
 repeat'(first|refine ar ?_|(refine KN fun b_=>?_)|(refine eH fun b_ _=>?_)|refine K8 ?_|refine pD ?_|fail)
 all_goals exact i4
set_option maxHeartbeats 8000000 in
theorem uo (F:Nat→Prop) (m:aj) (cs:List Value) (locals:List Int) (x:cJ) (lp pt pl:Option Addr) (lc ct cl:Nat) (w:World) (hm:ay F w cs m) (_hl:af F w (.slice lp locals.length lc) locals) (_ht:af F w (.slice pt x.types.length ct) x.types) (_ha:0≤x.a) (_hi:dV x.a) (_hb:0≤x.b) (_hj:dV x.b) (_hF:∀k,F k→k<w.heap.size) (_hT:kx m) (hk:dZ x.op=0):Calls G.P 41 #[.agg cs.toArray,.slice lp locals.length lc,.agg #[Value.int .i64 x.op,Value.int .i64 x.a,Value.int .i64 x.b,Value.int .u64 x.n,Value.int .i64 x.kind,Value.int .i64 x.val,Value.int .i64 x.index,Value.slice pt x.types.length ct,Value.slice pl x.labels.length cl]] w (fe (cE x.op) F w):=by
 have hm0:=hm
 obtain⟨v0,v1,v2,v3,v4,v5,v6,v7,v8,v9,rfl,r0,r1,r2,r3,r4,r5,r6,r7,r8,r9,g0⟩:=hm
 have hof:∀w',Calls G.P 86 #[.int .i64 x.op] w' fun e w2=>e=.returned (.int .i64 0)∧Ext w' w2:=fun w'=>by have:=cW x.op w';rw[show(dU x.op).2.2=0 from hk]at this;exact this
 refine Jy ?_
 repeat'(first|refine ar ?_|(refine KN fun b_=>?_)|refine pD ?_|(refine aa.ai (f:=104) ?_;refine aa.he (HE.rg (F:=fun _=>False) (r:=cE x.op) ak (fun _ h=>h.elim) rfl rfl (fun w' hw'=>du x.op w')) rfl ?_;rintro⟨D_,p_,c_,q_,d_⟩ hD_;dsimp only)|fail)
 all_goals exact ip
set_option maxHeartbeats 8000000 in
theorem ri (F:Nat→Prop) (m:aj) (cs:List Value) (locals:List Int) (x:cJ) (lp pt pl:Option Addr) (lc ct cl:Nat) (w:World) (hm:ay F w cs m) (_hl:af F w (.slice lp locals.length lc) locals) (_ht:af F w (.slice pt x.types.length ct) x.types) (_ha:0≤x.a) (_hi:dV x.a) (_hb:0≤x.b) (_hj:dV x.b) (_hF:∀k,F k→k<w.heap.size) (_hT:kx m) (hk:dZ x.op=18):Calls G.P 41 #[.agg cs.toArray,.slice lp locals.length lc,.agg #[Value.int .i64 x.op,Value.int .i64 x.a,Value.int .i64 x.b,Value.int .u64 x.n,Value.int .i64 x.kind,Value.int .i64 x.val,Value.int .i64 x.index,Value.slice pt x.types.length ct,Value.slice pl x.labels.length cl]] w (fe (cE x.op) F w):=by
 have hm0:=hm
 obtain⟨v0,v1,v2,v3,v4,v5,v6,v7,v8,v9,rfl,r0,r1,r2,r3,r4,r5,r6,r7,r8,r9,g0⟩:=hm
 have hof:∀w',Calls G.P 86 #[.int .i64 x.op] w' fun e w2=>e=.returned (.int .i64 18)∧Ext w' w2:=fun w'=>by have:=cW x.op w';rw[show(dU x.op).2.2=18 from hk]at this;exact this
 refine Jy ?_
 repeat'(first|refine ar ?_|(refine KN fun b_=>?_)|refine pD ?_|(refine aa.ai (f:=104) ?_;refine aa.he (HE.rg (F:=fun _=>False) (r:=cE x.op) ak (fun _ h=>h.elim) rfl rfl (fun w' hw'=>du x.op w')) rfl ?_;rintro⟨D_,p_,c_,q_,d_⟩ hD_;dsimp only)|fail)
 all_goals exact ip
set_option maxHeartbeats 8000000 in
theorem qO (F:Nat→Prop) (m:aj) (cs:List Value) (locals:List Int) (x:cJ) (lp pt pl:Option Addr) (lc ct cl:Nat) (w:World) (hm:ay F w cs m) (_hl:af F w (.slice lp locals.length lc) locals) (_ht:af F w (.slice pt x.types.length ct) x.types) (_ha:0≤x.a) (_hi:dV x.a) (_hb:0≤x.b) (_hj:dV x.b) (_hF:∀k,F k→k<w.heap.size) (_hT:kx m) (hk:dZ x.op=19):Calls G.P 41 #[.agg cs.toArray,.slice lp locals.length lc,.agg #[Value.int .i64 x.op,Value.int .i64 x.a,Value.int .i64 x.b,Value.int .u64 x.n,Value.int .i64 x.kind,Value.int .i64 x.val,Value.int .i64 x.index,Value.slice pt x.types.length ct,Value.slice pl x.labels.length cl]] w (fe (cE x.op) F w):=by
 have hm0:=hm
 obtain⟨v0,v1,v2,v3,v4,v5,v6,v7,v8,v9,rfl,r0,r1,r2,r3,r4,r5,r6,r7,r8,r9,g0⟩:=hm
 have hof:∀w',Calls G.P 86 #[.int .i64 x.op] w' fun e w2=>e=.returned (.int .i64 19)∧Ext w' w2:=fun w'=>by have:=cW x.op w';rw[show(dU x.op).2.2=19 from hk]at this;exact this
 refine Jy ?_
 repeat'(first|refine ar ?_|(refine KN fun b_=>?_)|refine pD ?_|(refine aa.ai (f:=104) ?_;refine aa.he (HE.rg (F:=fun _=>False) (r:=cE x.op) ak (fun _ h=>h.elim) rfl rfl (fun w' hw'=>du x.op w')) rfl ?_;rintro⟨D_,p_,c_,q_,d_⟩ hD_;dsimp only)|fail)
 all_goals exact ip
end Go.Proofs.YtgbgnipidakdhaaGreatDoor
