import Derived.Test.YtdkcljdfbemnbaaGreatDoorJWw
namespace Go.Proofs.YtdkcljdfbemnbaaGreatDoor
open Go.RowKit
set_option maxHeartbeats 8000000
open Value renaming int→Pm,slice→Pn
set_option maxRecDepth 100000
theorem mS {g g':Prop} (h:g') (hw:eA g'→g:=by(intro hk_;(first|refine OB ?_);exact hk_.out)):g:=hw ⟨h⟩
variable (F:Nat→Prop)
theorem wH (m:af) (cs:List Value) (locals:List Int) (x:cv) (lp pt pl:Option Addr) (lc ct cl:Nat) (w:World) (hm:au F w cs m) (hl:ai F w (.slice lp locals.length lc) locals) (_ht:ai F w (.slice pt x.types.length ct) x.types) (ha:0≤x.a) (_hi:eP x.a) (_hb:0≤x.b) (_hj:eP x.b) (_hF:∀k,F k→k<w.heap.size) (_hT:nb m) (hk:eR x.op=7):Calls G.P 122 #[.agg cs.toArray,.slice lp locals.length lc,.agg #[Pm .i64 x.op,Pm .i64 x.a,Pm .i64 x.b,Pm .u64 x.n,Pm .i64 x.kind,Pm .i64 x.val,Pm .i64 x.index,Pn pt x.types.length ct,Pn pl x.labels.length cl]] w (fL (eQ locals x) F w):=by
 have hm0:=hm
 obtain⟨v0,v1,v2,v3,v4,v5,v6,v7,v8,v9,rfl,r0,r1,r2,r3,r4,r5,r6,r7,r8,r9,g0⟩:=hm
 have hof:∀w',Calls G.P 105 #[.int .i64 x.op] w' fun e w2=>e=.returned (.int .i64 7)∧Ext w' w2:=fun w'=>by have:=dq x.op w';rw[show(eH x.op).2.2=7 from hk]at this;exact this
 refine Ms ?_
 repeat'(first|refine ar ?_|(refine NU fun b_=>?_)|refine mS ?_|(refine aa.aj (f:=156) ?_;refine aa.he (HE.rg (F:=fun _=>False) (r:=eQ locals x) ak (fun _ h=>h.elim) rfl rfl (fun w' hw'=>Au F locals x lp pt pl lc ct cl w' (hl.aN (show Ext w w' from hw'.at) (fun _ _ _ h=>h)) ha)) rfl ?_;rintro⟨D_,p_,c_,q_,d_⟩ hD_;dsimp only)|fail)
 all_goals first|omega|(refine ah.bB (.inl rfl) rfl rfl rfl rfl rfl aH rfl ?_;exact fun w' hw'=>bD.jl (f0:=(eQ locals x).1) (tf:=fun y:Value×Value=>.agg #[y.1,y.2,.int .i64 (eQ locals x).2]) ⟨D_,p_,c_,q_,d_⟩ hw' ak ak (fun k h=>.inr ((hD_ k h).resolve_left id)))
theorem wI (m:af) (cs:List Value) (locals:List Int) (x:cv) (lp pt pl:Option Addr) (lc ct cl:Nat) (w:World) (hm:au F w cs m) (_hl:ai F w (.slice lp locals.length lc) locals) (_ht:ai F w (.slice pt x.types.length ct) x.types) (ha:0≤x.a) (hi:eP x.a) (hb:0≤x.b) (hj:eP x.b) (_hF:∀k,F k→k<w.heap.size) (_hT:nb m) (hk:eR x.op=8):Calls G.P 122 #[.agg cs.toArray,.slice lp locals.length lc,.agg #[Pm .i64 x.op,Pm .i64 x.a,Pm .i64 x.b,Pm .u64 x.n,Pm .i64 x.kind,Pm .i64 x.val,Pm .i64 x.index,Pn pt x.types.length ct,Pn pl x.labels.length cl]] w (fL (dt m x) F w):=by
 have hm0:=hm
 obtain⟨v0,v1,v2,v3,v4,v5,v6,v7,v8,v9,rfl,r0,r1,r2,r3,r4,r5,r6,r7,r8,r9,g0⟩:=hm
 have hof:∀w',Calls G.P 105 #[.int .i64 x.op] w' fun e w2=>e=.returned (.int .i64 8)∧Ext w' w2:=fun w'=>by have:=dq x.op w';rw[show(eH x.op).2.2=8 from hk]at this;exact this
 refine Ms ?_
 repeat'(first|refine ar ?_|(refine NU fun b_=>?_)|refine mS ?_|(refine aa.aj (f:=157) ?_;refine aa.he (HE.rg (F:=fun _=>False) (r:=dt m x) ak (fun _ h=>h.elim) rfl rfl (fun w' hw'=>yJ F m _ x pt pl ct cl w' (hm0.aN (show Ext w w' from hw'.at) (fun _ _ _ h=>h)) ha hi hb hj)) rfl ?_;rintro⟨D_,p_,c_,q_,d_⟩ hD_;dsimp only)|fail)
 all_goals first|omega|(refine ah.bB (.inl rfl) rfl rfl rfl rfl rfl aH rfl ?_;exact fun w' hw'=>bD.jl (f0:=(dt m x).1) (tf:=fun y:Value×Value=>.agg #[y.1,y.2,.int .i64 (dt m x).2]) ⟨D_,p_,c_,q_,d_⟩ hw' ak ak (fun k h=>.inr ((hD_ k h).resolve_left id)))
theorem wJ (m:af) (cs:List Value) (locals:List Int) (x:cv) (lp pt pl:Option Addr) (lc ct cl:Nat) (w:World) (hm:au F w cs m) (_hl:ai F w (.slice lp locals.length lc) locals) (_ht:ai F w (.slice pt x.types.length ct) x.types) (ha:0≤x.a) (hi:eP x.a) (hb:0≤x.b) (hj:eP x.b) (_hF:∀k,F k→k<w.heap.size) (_hT:nb m) (hk:eR x.op=9):Calls G.P 122 #[.agg cs.toArray,.slice lp locals.length lc,.agg #[Pm .i64 x.op,Pm .i64 x.a,Pm .i64 x.b,Pm .u64 x.n,Pm .i64 x.kind,Pm .i64 x.val,Pm .i64 x.index,Pn pt x.types.length ct,Pn pl x.labels.length cl]] w (fL (dr m x) F w):=by
 have hm0:=hm
 obtain⟨v0,v1,v2,v3,v4,v5,v6,v7,v8,v9,rfl,r0,r1,r2,r3,r4,r5,r6,r7,r8,r9,g0⟩:=hm
 have hof:∀w',Calls G.P 105 #[.int .i64 x.op] w' fun e w2=>e=.returned (.int .i64 9)∧Ext w' w2:=fun w'=>by have:=dq x.op w';rw[show(eH x.op).2.2=9 from hk]at this;exact this
 refine Ms ?_
 repeat'(first|refine ar ?_|(refine NU fun b_=>?_)|refine mS ?_|(refine aa.aj (f:=158) ?_;refine aa.he (HE.rg (F:=fun _=>False) (r:=dr m x) ak (fun _ h=>h.elim) rfl rfl (fun w' hw'=>Aw F m _ x pt pl ct cl w' (hm0.aN (show Ext w w' from hw'.at) (fun _ _ _ h=>h)) ha hi hb hj)) rfl ?_;rintro⟨D_,p_,c_,q_,d_⟩ hD_;dsimp only)|fail)
 all_goals first|omega|(refine ah.bB (.inl rfl) rfl rfl rfl rfl rfl aH rfl ?_;exact fun w' hw'=>bD.jl (f0:=(dr m x).1) (tf:=fun y:Value×Value=>.agg #[y.1,y.2,.int .i64 (dr m x).2]) ⟨D_,p_,c_,q_,d_⟩ hw' ak ak (fun k h=>.inr ((hD_ k h).resolve_left id)))
theorem uM (m:af) (cs:List Value) (locals:List Int) (x:cv) (lp pt pl:Option Addr) (lc ct cl:Nat) (w:World) (hm:au F w cs m) (_hl:ai F w (.slice lp locals.length lc) locals) (_ht:ai F w (.slice pt x.types.length ct) x.types) (ha:0≤x.a) (hi:eP x.a) (hb:0≤x.b) (hj:eP x.b) (_hF:∀k,F k→k<w.heap.size) (_hT:nb m) (hk:eR x.op=10):Calls G.P 122 #[.agg cs.toArray,.slice lp locals.length lc,.agg #[Pm .i64 x.op,Pm .i64 x.a,Pm .i64 x.b,Pm .u64 x.n,Pm .i64 x.kind,Pm .i64 x.val,Pm .i64 x.index,Pn pt x.types.length ct,Pn pl x.labels.length cl]] w (fL (oO m x) F w):=by
 have hm0:=hm
 obtain⟨v0,v1,v2,v3,v4,v5,v6,v7,v8,v9,rfl,r0,r1,r2,r3,r4,r5,r6,r7,r8,r9,g0⟩:=hm
 have hof:∀w',Calls G.P 105 #[.int .i64 x.op] w' fun e w2=>e=.returned (.int .i64 10)∧Ext w' w2:=fun w'=>by have:=dq x.op w';rw[show(eH x.op).2.2=10 from hk]at this;exact this
 refine Ms ?_
 repeat'(first|refine ar ?_|(refine NU fun b_=>?_)|refine mS ?_|(refine aa.aj (f:=159) ?_;refine aa.he (HE.rg (F:=fun _=>False) (r:=oO m x) ak (fun _ h=>h.elim) rfl rfl (fun w' hw'=>xF F m _ x pt pl ct cl w' (hm0.aN (show Ext w w' from hw'.at) (fun _ _ _ h=>h)) ha hi hb hj)) rfl ?_;rintro⟨D_,p_,c_,q_,d_⟩ hD_;dsimp only)|fail)
 all_goals exact IR
theorem uN (m:af) (cs:List Value) (locals:List Int) (x:cv) (lp pt pl:Option Addr) (lc ct cl:Nat) (w:World) (hm:au F w cs m) (_hl:ai F w (.slice lp locals.length lc) locals) (_ht:ai F w (.slice pt x.types.length ct) x.types) (ha:0≤x.a) (hi:eP x.a) (hb:0≤x.b) (hj:eP x.b) (_hF:∀k,F k→k<w.heap.size) (_hT:nb m) (hk:eR x.op=11):Calls G.P 122 #[.agg cs.toArray,.slice lp locals.length lc,.agg #[Pm .i64 x.op,Pm .i64 x.a,Pm .i64 x.b,Pm .u64 x.n,Pm .i64 x.kind,Pm .i64 x.val,Pm .i64 x.index,Pn pt x.types.length ct,Pn pl x.labels.length cl]] w (fL (oO m x) F w):=by
 have hm0:=hm
 obtain⟨v0,v1,v2,v3,v4,v5,v6,v7,v8,v9,rfl,r0,r1,r2,r3,r4,r5,r6,r7,r8,r9,g0⟩:=hm
 have hof:∀w',Calls G.P 105 #[.int .i64 x.op] w' fun e w2=>e=.returned (.int .i64 11)∧Ext w' w2:=fun w'=>by have:=dq x.op w';rw[show(eH x.op).2.2=11 from hk]at this;exact this
 refine Ms ?_
 repeat'(first|refine ar ?_|(refine NU fun b_=>?_)|refine mS ?_|(refine aa.aj (f:=159) ?_;refine aa.he (HE.rg (F:=fun _=>False) (r:=oO m x) ak (fun _ h=>h.elim) rfl rfl (fun w' hw'=>xF F m _ x pt pl ct cl w' (hm0.aN (show Ext w w' from hw'.at) (fun _ _ _ h=>h)) ha hi hb hj)) rfl ?_;rintro⟨D_,p_,c_,q_,d_⟩ hD_;dsimp only)|fail)
 all_goals exact IR
theorem jA {g g':Prop} (h:g') (hw:eA g'→g:=by(intro hk_;(first|refine Oz ?_);exact hk_.out)):g:=hw ⟨h⟩
theorem CP {g g':Prop} (h:g') (hw:eA g'→g:=by(intro hk_;(first|refine jA ?_|refine OB ?_);exact hk_.out)):g:=hw ⟨h⟩
theorem uO (m:af) (cs:List Value) (locals:List Int) (x:cv) (lp pt pl:Option Addr) (lc ct cl:Nat) (w:World) (hm:au F w cs m) (_hl:ai F w (.slice lp locals.length lc) locals) (_ht:ai F w (.slice pt x.types.length ct) x.types) (_ha:0≤x.a) (_hi:eP x.a) (_hb:0≤x.b) (_hj:eP x.b) (_hF:∀k,F k→k<w.heap.size) (_hT:nb m) (hk:eR x.op=12):Calls G.P 122 #[.agg cs.toArray,.slice lp locals.length lc,.agg #[Pm .i64 x.op,Pm .i64 x.a,Pm .i64 x.b,Pm .u64 x.n,Pm .i64 x.kind,Pm .i64 x.val,Pm .i64 x.index,Pn pt x.types.length ct,Pn pl x.labels.length cl]] w (fL (if(cJ (dO m) x.a).isNone then(dF,11)else da x.op) F w):=by
 have hm0:=hm
 obtain⟨v0,v1,v2,v3,v4,v5,v6,v7,v8,v9,rfl,r0,r1,r2,r3,r4,r5,r6,r7,r8,r9,g0⟩:=hm
 have hof:∀w',Calls G.P 105 #[.int .i64 x.op] w' fun e w2=>e=.returned (.int .i64 12)∧Ext w' w2:=fun w'=>by have:=dq x.op w';rw[show(eH x.op).2.2=12 from hk]at this;exact this
 obtain⟨e0,jO⟩:∃e,(cJ (dO m) x.a).getD 0=e:=⟨_,rfl⟩
 cases hs:(cJ (dO m) x.a).isSome with
 |false=>
  rw[if_pos (by cases hz:cJ (dO m) x.a<;>simp_all)]
  refine Ms ?_
  repeat'(first|refine ar ?_|(refine NU fun b_=>?_)|refine CP ?_|(refine aa.aj (f:=160) ?_;refine aa.av (v:=.tuple #[.int .i64 e0,.bool false]) rfl rfl rfl (fun w' hw'=>by have:=qc F m x.a _ w' (hm0.aN (show Ext w w' from hw'.at) (fun _ _ _ h=>h));rw[jO,hs]at this;exact this) ?_)|fail)
  all_goals exact lw
 |true=>
  rw[if_neg (by cases hz:cJ (dO m) x.a<;>simp_all)]
  refine Ms ?_
  repeat'(first|refine ar ?_|(refine NU fun b_=>?_)|refine CP ?_|(refine aa.aj (f:=160) ?_;refine aa.av (v:=.tuple #[.int .i64 e0,.bool true]) rfl rfl rfl (fun w' hw'=>by have:=qc F m x.a _ w' (hm0.aN (show Ext w w' from hw'.at) (fun _ _ _ h=>h));rw[jO,hs]at this;exact this) ?_)|(refine aa.aj (f:=163) ?_;refine aa.he (HE.rg (F:=fun _=>False) (r:=da x.op) ak (fun _ h=>h.elim) rfl rfl (fun w' hw'=>dL x.op w')) rfl ?_;rintro⟨D_,p_,c_,q_,d_⟩ hD_;dsimp only)|fail)
  all_goals exact LE
def lI (m:af) (k:Int) (x:cv):aO×Int:=
 if k=14∧(cJ (ec m) x.a).isNone then(dF,11)else if k=15∧(m.bg.length:Int)≤x.a then(dF,11)else if(cJ (ec m) x.b).isNone then(dF,11)else if k=17∧mn x.op<x.a then(dF,19)else da x.op
theorem FV {g g':Prop} (h:g') (hw:eA g'→g:=by(intro hk_;(first|refine jA ?_|(refine aa.aj (f:=180) ?_;refine aa.av (v:=.bool false) rfl rfl rfl (fun w' hw'=>by have:=mU F m b _ w' (hm0.aN (show Ext w w' from hw'.at) (fun _ _ _ h=>h)) hb hj;rw[gb]at this;exact this) ?_));exact hk_.out)):g:=hw ⟨h⟩
theorem xC {g g':Prop} (h:g') (hw:eA g'→g:=by(intro hk_;(first|refine jA ?_|(refine aa.aj (f:=180) ?_;refine aa.av (v:=.bool true) rfl rfl rfl (fun w' hw'=>by have:=mU F m b _ w' (hm0.aN (show Ext w w' from hw'.at) (fun _ _ _ h=>h)) hb hj;rw[gb]at this;exact this) ?_));exact hk_.out)):g:=hw ⟨h⟩
theorem kF (m:af) (cs:List Value) (x:cv) (pt pl:Option Addr) (ct cl:Nat) (w:World) (hm:au F w cs m) (ha:0≤x.a) (hi:eP x.a) (hb:0≤x.b) (hj:eP x.b) (k:Int) (hk:eR x.op=k) (h14:k=14↔x.op=64522) (h15:k=15↔x.op=64520):Calls G.P 161 #[.agg cs.toArray,.agg #[Pm .i64 x.op,Pm .i64 x.a,Pm .i64 x.b,Pm .u64 x.n,Pm .i64 x.kind,Pm .i64 x.val,Pm .i64 x.index,Pn pt x.types.length ct,Pn pl x.labels.length cl]] w (fL (lI m k x) (fun _=>False) w):=by
 have hm0:=hm
 obtain⟨v0,v1,v2,v3,v4,v5,v6,v7,v8,v9,rfl,r0,r1,r2,r3,r4,r5,r6,r7,r8,r9,g0⟩:=hm
 obtain⟨op,a,b,n,kind,val,index,types,labels⟩:=x
 dsimp only at ha hi hb hj hk h14 h15 ⊢
 have hof:∀w',Calls G.P 105 #[.int .i64 op] w' fun e w2=>e=.returned (.int .i64 k)∧Ext w' w2:=fun w'=>by have:=dq op w';rw[show(eH op).2.2=k from hk]at this;exact this
 have hal:=fun w'=>Ad op w'
 have hda:=fun w' (hx:Ext w w')=>sn F m _ w' (hm0.aN hx (fun _ _ _ h=>h))
 unfold lI
 dsimp only
 obtain⟨al,hal0⟩:∃t,mn op=t:=⟨_,rfl⟩
 rw[hal0]at hal ⊢
 obtain⟨nd,hnd⟩:∃t:Int,(m.bg.length:Int)=t:=⟨_,rfl⟩
 rw[hnd]at hda ⊢
 clear hal0 hk hnd
 by_cases c14:op=64522
 ·obtain rfl:=h14.2 c14
  subst c14
  cases ga:(cJ (ec m) a).isSome with
  |false=>
   rw[if_pos ⟨rfl,by cases hz:cJ (ec m) a<;>simp_all⟩]
   refine Nu ?_
   repeat'(first|refine ar ?_|(refine NU fun b_=>?_)|refine jA ?_|(refine aa.cK (f:=180) ?_;refine aa.cB (v:=.bool false) rfl rfl rfl rfl (fun w' hw'=>by have:=mU F m a _ w' (hm0.aN (show Ext w w' from hw'.at) (fun _ _ _ h=>h)) ha hi;rw[ga]at this;exact this) ?_)|fail)
   all_goals exact lw
  |true=>
   rw[if_neg (by rintro⟨-,h⟩;cases hz:cJ (ec m) a<;>simp_all),if_neg Pi]
   cases gb:(cJ (ec m) b).isSome with
   |false=>
    rw[if_pos OY]
    refine Nu ?_
    repeat'(first|refine ar ?_|(refine NU fun b_=>?_)|refine jA ?_|(refine aa.cK (f:=180) ?_;refine aa.cB (v:=.bool true) rfl rfl rfl rfl (fun w' hw'=>by have:=mU F m a _ w' (hm0.aN (show Ext w w' from hw'.at) (fun _ _ _ h=>h)) ha hi;rw[ga]at this;exact this) ?_)|fail)
    refine Mq ?_
    refine cq ?_
    repeat'(first|refine ar ?_|(refine NU fun b_=>?_)|refine FV ?_|fail)
    all_goals exact lw
   |true=>
    rw[if_neg OY,if_neg Pi]
    refine Nu ?_
    repeat'(first|refine ar ?_|(refine NU fun b_=>?_)|refine jA ?_|(refine aa.cK (f:=180) ?_;refine aa.cB (v:=.bool true) rfl rfl rfl rfl (fun w' hw'=>by have:=mU F m a _ w' (hm0.aN (show Ext w w' from hw'.at) (fun _ _ _ h=>h)) ha hi;rw[ga]at this;exact this) ?_)|fail)
    refine Mq ?_
    refine cq ?_
    repeat'(first|refine ar ?_|(refine NU fun b_=>?_)|refine xC ?_|fail)
    refine Mq ?_
    refine cq ?_
    refine aq.oc (v:=.int .i64 14) rfl rfl rfl (fun w' hw'=>hof w') ?_
    refine cq ?_
    repeat'(first|refine ar ?_|(refine NU fun b_=>?_)|refine jA ?_|(refine aa.aj (f:=163) ?_;refine aa.he (HE.rg (F:=fun _=>False) (r:=da 64522) ak (fun _ h=>h.elim) rfl rfl (fun w' hw'=>dL 64522 w')) rfl ?_;rintro⟨D_,p_,c_,q_,d_⟩ hD_;dsimp only)|fail)
    all_goals first|omega|(refine ah.bB (.inl rfl) rfl rfl rfl rfl rfl aH rfl ?_;exact fun w' hw'=>bD.jl (f0:=(da 64522).1) (tf:=fun x:Value×Value=>.agg #[x.1,x.2,.int .i64 (da 64522).2]) ⟨D_,p_,c_,q_,d_⟩ hw' ak ak hD_)
 have n14:¬k=14:=fun h=>c14 (h14.1 h)
 rw[if_neg Pi]
 by_cases c15:op=64520
 ·obtain rfl:=h15.2 c15
  subst c15
  by_cases hd:nd≤a
  ·rw[if_pos ⟨rfl,hd⟩]
   refine Nu ?_
   repeat'(first|refine ar ?_|(refine NU fun b_=>?_)|refine xC ?_|fail)
   refine Mq ?_
   refine cq ?_
   refine aq.kR (v:=.int .i64 nd) rfl rfl rfl rfl (fun w' hw'=>hda w' hw'.at) ?_
   refine cq ?_
   repeat'(first|refine ar ?_|(refine NU fun b_=>?_)|refine jA ?_|fail)
   all_goals exact lw
  rw[if_neg Pi]
  cases gb:(cJ (ec m) b).isSome with
  |false=>
   rw[if_pos OY]
   refine Nu ?_
   repeat'(first|refine ar ?_|(refine NU fun b_=>?_)|refine jA ?_|fail)
   refine Mq ?_
   refine cq ?_
   refine aq.kR (v:=.int .i64 nd) rfl rfl rfl rfl (fun w' hw'=>hda w' hw'.at) ?_
   refine cq ?_
   repeat'(first|refine ar ?_|(refine NU fun b_=>?_)|refine FV ?_|fail)
   all_goals exact lw
  |true=>
   rw[if_neg OY,if_neg Pi]
   refine Nu ?_
   repeat'(first|refine ar ?_|(refine NU fun b_=>?_)|refine jA ?_|fail)
   refine Mq ?_
   refine cq ?_
   refine aq.kR (v:=.int .i64 nd) rfl rfl rfl rfl (fun w' hw'=>hda w' hw'.at) ?_
   refine cq ?_
   repeat'(first|refine ar ?_|(refine NU fun b_=>?_)|refine xC ?_|fail)
   refine Mq ?_
   refine cq ?_
   refine aq.oc (v:=.int .i64 15) rfl rfl rfl (fun w' hw'=>hof w') ?_
   refine cq ?_
   repeat'(first|refine ar ?_|(refine NU fun b_=>?_)|refine jA ?_|(refine aa.aj (f:=163) ?_;refine aa.he (HE.rg (F:=fun _=>False) (r:=da 64520) ak (fun _ h=>h.elim) rfl rfl (fun w' hw'=>dL 64520 w')) rfl ?_;rintro⟨D_,p_,c_,q_,d_⟩ hD_;dsimp only)|fail)
   all_goals first|omega|(refine ah.bB (.inl rfl) rfl rfl rfl rfl rfl aH rfl ?_;exact fun w' hw'=>bD.jl (f0:=(da 64520).1) (tf:=fun x:Value×Value=>.agg #[x.1,x.2,.int .i64 (da 64520).2]) ⟨D_,p_,c_,q_,d_⟩ hw' ak ak hD_)
 have n15:¬k=15:=fun h=>c15 (h15.1 h)
 rw[if_neg Pi]
 cases gb:(cJ (ec m) b).isSome with
 |false=>
  rw[if_pos OY]
  refine Nu ?_
  repeat'(first|refine ar ?_|(refine NU fun b_=>?_)|refine jA ?_|fail)
  refine Mq ?_
  refine cq ?_
  repeat'(first|refine ar ?_|(refine NU fun b_=>?_)|refine FV ?_|fail)
  all_goals exact lw
 |true=>
  rw[if_neg OY]
  by_cases c17:k=17
  ·subst c17
   by_cases hd:al<a
   ·rw[if_pos ⟨rfl,hd⟩]
    refine Nu ?_
    repeat'(first|refine ar ?_|(refine NU fun b_=>?_)|refine jA ?_|fail)
    refine Mq ?_
    refine cq ?_
    repeat'(first|refine ar ?_|(refine NU fun b_=>?_)|refine xC ?_|fail)
    refine Mq ?_
    refine cq ?_
    refine aq.oc (v:=.int .i64 17) rfl rfl rfl (fun w' hw'=>hof w') ?_
    refine cq ?_
    refine aq.kR (v:=.int .i64 al) rfl rfl rfl rfl (fun w' hw'=>hal w') ?_
    refine cq ?_
    repeat'(first|refine ar ?_|(refine NU fun b_=>?_)|refine jA ?_|fail)
    all_goals exact lw
   ·rw[if_neg Pi]
    refine Nu ?_
    repeat'(first|refine ar ?_|(refine NU fun b_=>?_)|refine jA ?_|fail)
    refine Mq ?_
    refine cq ?_
    repeat'(first|refine ar ?_|(refine NU fun b_=>?_)|refine xC ?_|fail)
    refine Mq ?_
    refine cq ?_
    refine aq.oc (v:=.int .i64 17) rfl rfl rfl (fun w' hw'=>hof w') ?_
    refine cq ?_
    refine aq.kR (v:=.int .i64 al) rfl rfl rfl rfl (fun w' hw'=>hal w') ?_
    refine cq ?_
    repeat'(first|refine ar ?_|(refine NU fun b_=>?_)|refine jA ?_|(refine aa.aj (f:=163) ?_;refine aa.he (HE.rg (F:=fun _=>False) (r:=da op) ak (fun _ h=>h.elim) rfl rfl (fun w' hw'=>dL op w')) rfl ?_;rintro⟨D_,p_,c_,q_,d_⟩ hD_;dsimp only)|fail)
    all_goals exact LT
  ·rw[if_neg Pi]
   refine Nu ?_
   repeat'(first|refine ar ?_|(refine NU fun b_=>?_)|refine jA ?_|fail)
   refine Mq ?_
   refine cq ?_
   repeat'(first|refine ar ?_|(refine NU fun b_=>?_)|refine xC ?_|fail)
   refine Mq ?_
   refine cq ?_
   refine aq.oc (v:=.int .i64 k) rfl rfl rfl (fun w' hw'=>hof w') ?_
   refine cq ?_
   repeat'(first|refine ar ?_|(refine NU fun b_=>?_)|refine jA ?_|(refine aa.aj (f:=163) ?_;refine aa.he (HE.rg (F:=fun _=>False) (r:=da op) ak (fun _ h=>h.elim) rfl rfl (fun w' hw'=>dL op w')) rfl ?_;rintro⟨D_,p_,c_,q_,d_⟩ hD_;dsimp only)|fail)
   all_goals exact LT
theorem Ii:∀{op:Int},eR op=10→op=64526:=fun{op} h=>by
 obtain⟨r,hr,h1,h2⟩:=tg (op:=op) Pi
 have:=List.all_eq_true.1 (show(lL.all fun r=>!decide (r.2.2=10) || decide (r.1=64526))=true by decide+kernel) r hr
 rw[h2,h,h1]at this
 simpa using this
theorem yj:∀{op:Int},eR op=14↔op=64522:=fun{op}=>⟨fun h=>by
 obtain⟨r,hr,h1,h2⟩:=tg (op:=op) Pi
 have:=List.all_eq_true.1 (show(lL.all fun r=>!decide (r.2.2=14) || decide (r.1=64522))=true by decide+kernel) r hr
 rw[h2,h,h1]at this
 simpa using this,fun h=>by rw[h];decide+kernel⟩
theorem yk:∀{op:Int},eR op=15↔op=64520:=fun{op}=>⟨fun h=>by
 obtain⟨r,hr,h1,h2⟩:=tg (op:=op) Pi
 have:=List.all_eq_true.1 (show(lL.all fun r=>!decide (r.2.2=15) || decide (r.1=64520))=true by decide+kernel) r hr
 rw[h2,h,h1]at this
 simpa using this,fun h=>by rw[h];decide+kernel⟩
theorem uP (m:af) (cs:List Value) (locals:List Int) (x:cv) (lp pt pl:Option Addr) (lc ct cl:Nat) (w:World) (hm:au F w cs m) (_hl:ai F w (.slice lp locals.length lc) locals) (_ht:ai F w (.slice pt x.types.length ct) x.types) (ha:0≤x.a) (hi:eP x.a) (hb:0≤x.b) (hj:eP x.b) (_hF:∀k,F k→k<w.heap.size) (_hT:nb m) (hk:eR x.op=13):Calls G.P 122 #[.agg cs.toArray,.slice lp locals.length lc,.agg #[Pm .i64 x.op,Pm .i64 x.a,Pm .i64 x.b,Pm .u64 x.n,Pm .i64 x.kind,Pm .i64 x.val,Pm .i64 x.index,Pn pt x.types.length ct,Pn pl x.labels.length cl]] w (fL (lI m 13 x) F w):=by
 have hm0:=hm
 obtain⟨v0,v1,v2,v3,v4,v5,v6,v7,v8,v9,rfl,r0,r1,r2,r3,r4,r5,r6,r7,r8,r9,g0⟩:=hm
 have hof:∀w',Calls G.P 105 #[.int .i64 x.op] w' fun e w2=>e=.returned (.int .i64 13)∧Ext w' w2:=fun w'=>by have:=dq x.op w';rw[show(eH x.op).2.2=13 from hk]at this;exact this
 have h14:=yj (op:=x.op)
 have h15:=yk (op:=x.op)
 rw[hk]at h14 h15
 refine Ms ?_
 repeat'(first|refine ar ?_|(refine NU fun b_=>?_)|refine mS ?_|(refine aa.aj (f:=161) ?_;refine aa.he (HE.rg (F:=fun _=>False) (r:=lI m 13 x) ak (fun _ h=>h.elim) rfl rfl (fun w' hw'=>kF F m _ x pt pl ct cl w' (hm0.aN (show Ext w w' from hw'.at) (fun _ _ _ h=>h)) ha hi hb hj 13 hk h14 h15)) rfl ?_;rintro⟨D_,p_,c_,q_,d_⟩ hD_;dsimp only)|fail)
 all_goals first|omega|(refine ah.bB (.inl rfl) rfl rfl rfl rfl rfl aH rfl ?_;exact fun w' hw'=>bD.jl (f0:=(lI m 13 x).1) (tf:=fun y:Value×Value=>.agg #[y.1,y.2,.int .i64 (lI m 13 x).2]) ⟨D_,p_,c_,q_,d_⟩ hw' ak ak (fun k h=>.inr ((hD_ k h).resolve_left id)))
theorem uQ (m:af) (cs:List Value) (locals:List Int) (x:cv) (lp pt pl:Option Addr) (lc ct cl:Nat) (w:World) (hm:au F w cs m) (_hl:ai F w (.slice lp locals.length lc) locals) (_ht:ai F w (.slice pt x.types.length ct) x.types) (ha:0≤x.a) (hi:eP x.a) (hb:0≤x.b) (hj:eP x.b) (_hF:∀k,F k→k<w.heap.size) (_hT:nb m) (hk:eR x.op=14):Calls G.P 122 #[.agg cs.toArray,.slice lp locals.length lc,.agg #[Pm .i64 x.op,Pm .i64 x.a,Pm .i64 x.b,Pm .u64 x.n,Pm .i64 x.kind,Pm .i64 x.val,Pm .i64 x.index,Pn pt x.types.length ct,Pn pl x.labels.length cl]] w (fL (lI m 14 x) F w):=by
 have hm0:=hm
 obtain⟨v0,v1,v2,v3,v4,v5,v6,v7,v8,v9,rfl,r0,r1,r2,r3,r4,r5,r6,r7,r8,r9,g0⟩:=hm
 have hof:∀w',Calls G.P 105 #[.int .i64 x.op] w' fun e w2=>e=.returned (.int .i64 14)∧Ext w' w2:=fun w'=>by have:=dq x.op w';rw[show(eH x.op).2.2=14 from hk]at this;exact this
 have h14:=yj (op:=x.op)
 have h15:=yk (op:=x.op)
 rw[hk]at h14 h15
 refine Ms ?_
 repeat'(first|refine ar ?_|(refine NU fun b_=>?_)|refine mS ?_|(refine aa.aj (f:=161) ?_;refine aa.he (HE.rg (F:=fun _=>False) (r:=lI m 14 x) ak (fun _ h=>h.elim) rfl rfl (fun w' hw'=>kF F m _ x pt pl ct cl w' (hm0.aN (show Ext w w' from hw'.at) (fun _ _ _ h=>h)) ha hi hb hj 14 hk h14 h15)) rfl ?_;rintro⟨D_,p_,c_,q_,d_⟩ hD_;dsimp only)|fail)
 all_goals first|omega|(refine ah.bB (.inl rfl) rfl rfl rfl rfl rfl aH rfl ?_;exact fun w' hw'=>bD.jl (f0:=(lI m 14 x).1) (tf:=fun y:Value×Value=>.agg #[y.1,y.2,.int .i64 (lI m 14 x).2]) ⟨D_,p_,c_,q_,d_⟩ hw' ak ak (fun k h=>.inr ((hD_ k h).resolve_left id)))
theorem uR (m:af) (cs:List Value) (locals:List Int) (x:cv) (lp pt pl:Option Addr) (lc ct cl:Nat) (w:World) (hm:au F w cs m) (_hl:ai F w (.slice lp locals.length lc) locals) (_ht:ai F w (.slice pt x.types.length ct) x.types) (ha:0≤x.a) (hi:eP x.a) (hb:0≤x.b) (hj:eP x.b) (_hF:∀k,F k→k<w.heap.size) (_hT:nb m) (hk:eR x.op=15):Calls G.P 122 #[.agg cs.toArray,.slice lp locals.length lc,.agg #[Pm .i64 x.op,Pm .i64 x.a,Pm .i64 x.b,Pm .u64 x.n,Pm .i64 x.kind,Pm .i64 x.val,Pm .i64 x.index,Pn pt x.types.length ct,Pn pl x.labels.length cl]] w (fL (lI m 15 x) F w):=by
 have hm0:=hm
 obtain⟨v0,v1,v2,v3,v4,v5,v6,v7,v8,v9,rfl,r0,r1,r2,r3,r4,r5,r6,r7,r8,r9,g0⟩:=hm
 have hof:∀w',Calls G.P 105 #[.int .i64 x.op] w' fun e w2=>e=.returned (.int .i64 15)∧Ext w' w2:=fun w'=>by have:=dq x.op w';rw[show(eH x.op).2.2=15 from hk]at this;exact this
 have h14:=yj (op:=x.op)
 have h15:=yk (op:=x.op)
 rw[hk]at h14 h15
 refine Ms ?_
 repeat'(first|refine ar ?_|(refine NU fun b_=>?_)|refine mS ?_|(refine aa.aj (f:=161) ?_;refine aa.he (HE.rg (F:=fun _=>False) (r:=lI m 15 x) ak (fun _ h=>h.elim) rfl rfl (fun w' hw'=>kF F m _ x pt pl ct cl w' (hm0.aN (show Ext w w' from hw'.at) (fun _ _ _ h=>h)) ha hi hb hj 15 hk h14 h15)) rfl ?_;rintro⟨D_,p_,c_,q_,d_⟩ hD_;dsimp only)|fail)
 all_goals first|omega|(refine ah.bB (.inl rfl) rfl rfl rfl rfl rfl aH rfl ?_;exact fun w' hw'=>bD.jl (f0:=(lI m 15 x).1) (tf:=fun y:Value×Value=>.agg #[y.1,y.2,.int .i64 (lI m 15 x).2]) ⟨D_,p_,c_,q_,d_⟩ hw' ak ak (fun k h=>.inr ((hD_ k h).resolve_left id)))
theorem uT (m:af) (cs:List Value) (locals:List Int) (x:cv) (lp pt pl:Option Addr) (lc ct cl:Nat) (w:World) (hm:au F w cs m) (_hl:ai F w (.slice lp locals.length lc) locals) (_ht:ai F w (.slice pt x.types.length ct) x.types) (ha:0≤x.a) (hi:eP x.a) (hb:0≤x.b) (hj:eP x.b) (_hF:∀k,F k→k<w.heap.size) (_hT:nb m) (hk:eR x.op=17):Calls G.P 122 #[.agg cs.toArray,.slice lp locals.length lc,.agg #[Pm .i64 x.op,Pm .i64 x.a,Pm .i64 x.b,Pm .u64 x.n,Pm .i64 x.kind,Pm .i64 x.val,Pm .i64 x.index,Pn pt x.types.length ct,Pn pl x.labels.length cl]] w (fL (lI m 17 x) F w):=by
 have hm0:=hm
 obtain⟨v0,v1,v2,v3,v4,v5,v6,v7,v8,v9,rfl,r0,r1,r2,r3,r4,r5,r6,r7,r8,r9,g0⟩:=hm
 have hof:∀w',Calls G.P 105 #[.int .i64 x.op] w' fun e w2=>e=.returned (.int .i64 17)∧Ext w' w2:=fun w'=>by have:=dq x.op w';rw[show(eH x.op).2.2=17 from hk]at this;exact this
 have h14:=yj (op:=x.op)
 have h15:=yk (op:=x.op)
 rw[hk]at h14 h15
 refine Ms ?_
 repeat'(first|refine ar ?_|(refine NU fun b_=>?_)|refine mS ?_|(refine aa.aj (f:=161) ?_;refine aa.he (HE.rg (F:=fun _=>False) (r:=lI m 17 x) ak (fun _ h=>h.elim) rfl rfl (fun w' hw'=>kF F m _ x pt pl ct cl w' (hm0.aN (show Ext w w' from hw'.at) (fun _ _ _ h=>h)) ha hi hb hj 17 hk h14 h15)) rfl ?_;rintro⟨D_,p_,c_,q_,d_⟩ hD_;dsimp only)|fail)
 all_goals first|omega|(refine ah.bB (.inl rfl) rfl rfl rfl rfl rfl aH rfl ?_;exact fun w' hw'=>bD.jl (f0:=(lI m 17 x).1) (tf:=fun y:Value×Value=>.agg #[y.1,y.2,.int .i64 (lI m 17 x).2]) ⟨D_,p_,c_,q_,d_⟩ hw' ak ak (fun k h=>.inr ((hD_ k h).resolve_left id)))
theorem uS (m:af) (cs:List Value) (locals:List Int) (x:cv) (lp pt pl:Option Addr) (lc ct cl:Nat) (w:World) (hm:au F w cs m) (_hl:ai F w (.slice lp locals.length lc) locals) (_ht:ai F w (.slice pt x.types.length ct) x.types) (_ha:0≤x.a) (_hi:eP x.a) (_hb:0≤x.b) (_hj:eP x.b) (_hF:∀k,F k→k<w.heap.size) (_hT:nb m) (hk:eR x.op=16):Calls G.P 122 #[.agg cs.toArray,.slice lp locals.length lc,.agg #[Pm .i64 x.op,Pm .i64 x.a,Pm .i64 x.b,Pm .u64 x.n,Pm .i64 x.kind,Pm .i64 x.val,Pm .i64 x.index,Pn pt x.types.length ct,Pn pl x.labels.length cl]] w (fL (if(m.bg.length:Int)≤x.a then(dF,11)else da x.op) F w):=by
 have hm0:=hm
 obtain⟨v0,v1,v2,v3,v4,v5,v6,v7,v8,v9,rfl,r0,r1,r2,r3,r4,r5,r6,r7,r8,r9,g0⟩:=hm
 have hof:∀w',Calls G.P 105 #[.int .i64 x.op] w' fun e w2=>e=.returned (.int .i64 16)∧Ext w' w2:=fun w'=>by have:=dq x.op w';rw[show(eH x.op).2.2=16 from hk]at this;exact this
 have hda:=fun w' (hx:Ext w w')=>sn F m _ w' (hm0.aN hx (fun _ _ _ h=>h))
 obtain⟨nd,hnd⟩:∃t:Int,(m.bg.length:Int)=t:=⟨_,rfl⟩
 rw[hnd]at hda ⊢
 clear hnd
 by_cases hd:nd≤x.a
 ·rw[if_pos hd]
  refine Ms ?_
  repeat'(first|refine ar ?_|(refine NU fun b_=>?_)|refine CP ?_|fail)
  refine Mq ?_
  refine cq ?_
  refine aq.oc (v:=.int .i64 nd) rfl rfl rfl (fun w' hw'=>hda w' hw'.at) ?_
  refine cq ?_
  repeat'(first|refine ar ?_|(refine NU fun b_=>?_)|refine jA ?_|fail)
  all_goals exact lw
 ·rw[if_neg hd]
  refine Ms ?_
  repeat'(first|refine ar ?_|(refine NU fun b_=>?_)|refine CP ?_|fail)
  refine Mq ?_
  refine cq ?_
  refine aq.oc (v:=.int .i64 nd) rfl rfl rfl (fun w' hw'=>hda w' hw'.at) ?_
  refine cq ?_
  repeat'(first|refine ar ?_|(refine NU fun b_=>?_)|refine jA ?_|(refine aa.aj (f:=163) ?_;refine aa.he (HE.rg (F:=fun _=>False) (r:=da x.op) ak (fun _ h=>h.elim) rfl rfl (fun w' hw'=>dL x.op w')) rfl ?_;rintro⟨D_,p_,c_,q_,d_⟩ hD_;dsimp only)|fail)
  all_goals exact LE
theorem uW (m:af) (cs:List Value) (locals:List Int) (x:cv) (lp pt pl:Option Addr) (lc ct cl:Nat) (w:World) (hm:au F w cs m) (_hl:ai F w (.slice lp locals.length lc) locals) (_ht:ai F w (.slice pt x.types.length ct) x.types) (_ha:0≤x.a) (_hi:eP x.a) (_hb:0≤x.b) (_hj:eP x.b) (_hF:∀k,F k→k<w.heap.size) (_hT:nb m) (hk:eR x.op=20):Calls G.P 122 #[.agg cs.toArray,.slice lp locals.length lc,.agg #[Pm .i64 x.op,Pm .i64 x.a,Pm .i64 x.b,Pm .u64 x.n,Pm .i64 x.kind,Pm .i64 x.val,Pm .i64 x.index,Pn pt x.types.length ct,Pn pl x.labels.length cl]] w (fL (⟨[],[x.a]⟩,0) F w):=by
 have hm0:=hm
 obtain⟨v0,v1,v2,v3,v4,v5,v6,v7,v8,v9,rfl,r0,r1,r2,r3,r4,r5,r6,r7,r8,r9,g0⟩:=hm
 have hof:∀w',Calls G.P 105 #[.int .i64 x.op] w' fun e w2=>e=.returned (.int .i64 20)∧Ext w' w2:=fun w'=>by have:=dq x.op w';rw[show(eH x.op).2.2=20 from hk]at this;exact this
 refine Ms ?_
 repeat'(first|refine ar ?_|(refine NU fun b_=>?_)|(refine fC fun b_ _=>?_)|refine Og ?_|refine mS ?_|fail)
 all_goals exact wl
theorem wu (m:af) (cs:List Value) (locals:List Int) (x:cv) (lp pt pl:Option Addr) (lc ct cl:Nat) (w:World) (hm:au F w cs m) (_hl:ai F w (.slice lp locals.length lc) locals) (_ht:ai F w (.slice pt x.types.length ct) x.types) (_ha:0≤x.a) (_hi:eP x.a) (_hb:0≤x.b) (_hj:eP x.b) (_hF:∀k,F k→k<w.heap.size) (_hT:nb m) (hk:eR x.op=0):Calls G.P 122 #[.agg cs.toArray,.slice lp locals.length lc,.agg #[Pm .i64 x.op,Pm .i64 x.a,Pm .i64 x.b,Pm .u64 x.n,Pm .i64 x.kind,Pm .i64 x.val,Pm .i64 x.index,Pn pt x.types.length ct,Pn pl x.labels.length cl]] w (fL (da x.op) F w):=by
 have hm0:=hm
 obtain⟨v0,v1,v2,v3,v4,v5,v6,v7,v8,v9,rfl,r0,r1,r2,r3,r4,r5,r6,r7,r8,r9,g0⟩:=hm
 have hof:∀w',Calls G.P 105 #[.int .i64 x.op] w' fun e w2=>e=.returned (.int .i64 0)∧Ext w' w2:=fun w'=>by have:=dq x.op w';rw[show(eH x.op).2.2=0 from hk]at this;exact this
 refine Ms ?_
 repeat'(first|refine ar ?_|(refine NU fun b_=>?_)|refine mS ?_|(refine aa.aj (f:=163) ?_;refine aa.he (HE.rg (F:=fun _=>False) (r:=da x.op) ak (fun _ h=>h.elim) rfl rfl (fun w' hw'=>dL x.op w')) rfl ?_;rintro⟨D_,p_,c_,q_,d_⟩ hD_;dsimp only)|fail)
 all_goals exact LE
theorem uU (m:af) (cs:List Value) (locals:List Int) (x:cv) (lp pt pl:Option Addr) (lc ct cl:Nat) (w:World) (hm:au F w cs m) (_hl:ai F w (.slice lp locals.length lc) locals) (_ht:ai F w (.slice pt x.types.length ct) x.types) (_ha:0≤x.a) (_hi:eP x.a) (_hb:0≤x.b) (_hj:eP x.b) (_hF:∀k,F k→k<w.heap.size) (_hT:nb m) (hk:eR x.op=18):Calls G.P 122 #[.agg cs.toArray,.slice lp locals.length lc,.agg #[Pm .i64 x.op,Pm .i64 x.a,Pm .i64 x.b,Pm .u64 x.n,Pm .i64 x.kind,Pm .i64 x.val,Pm .i64 x.index,Pn pt x.types.length ct,Pn pl x.labels.length cl]] w (fL (da x.op) F w):=by
 have hm0:=hm
 obtain⟨v0,v1,v2,v3,v4,v5,v6,v7,v8,v9,rfl,r0,r1,r2,r3,r4,r5,r6,r7,r8,r9,g0⟩:=hm
 have hof:∀w',Calls G.P 105 #[.int .i64 x.op] w' fun e w2=>e=.returned (.int .i64 18)∧Ext w' w2:=fun w'=>by have:=dq x.op w';rw[show(eH x.op).2.2=18 from hk]at this;exact this
 refine Ms ?_
 repeat'(first|refine ar ?_|(refine NU fun b_=>?_)|refine mS ?_|(refine aa.aj (f:=163) ?_;refine aa.he (HE.rg (F:=fun _=>False) (r:=da x.op) ak (fun _ h=>h.elim) rfl rfl (fun w' hw'=>dL x.op w')) rfl ?_;rintro⟨D_,p_,c_,q_,d_⟩ hD_;dsimp only)|fail)
 all_goals exact LE
theorem uV (m:af) (cs:List Value) (locals:List Int) (x:cv) (lp pt pl:Option Addr) (lc ct cl:Nat) (w:World) (hm:au F w cs m) (_hl:ai F w (.slice lp locals.length lc) locals) (_ht:ai F w (.slice pt x.types.length ct) x.types) (_ha:0≤x.a) (_hi:eP x.a) (_hb:0≤x.b) (_hj:eP x.b) (_hF:∀k,F k→k<w.heap.size) (_hT:nb m) (hk:eR x.op=19):Calls G.P 122 #[.agg cs.toArray,.slice lp locals.length lc,.agg #[Pm .i64 x.op,Pm .i64 x.a,Pm .i64 x.b,Pm .u64 x.n,Pm .i64 x.kind,Pm .i64 x.val,Pm .i64 x.index,Pn pt x.types.length ct,Pn pl x.labels.length cl]] w (fL (da x.op) F w):=by
 have hm0:=hm
 obtain⟨v0,v1,v2,v3,v4,v5,v6,v7,v8,v9,rfl,r0,r1,r2,r3,r4,r5,r6,r7,r8,r9,g0⟩:=hm
 have hof:∀w',Calls G.P 105 #[.int .i64 x.op] w' fun e w2=>e=.returned (.int .i64 19)∧Ext w' w2:=fun w'=>by have:=dq x.op w';rw[show(eH x.op).2.2=19 from hk]at this;exact this
 refine Ms ?_
 repeat'(first|refine ar ?_|(refine NU fun b_=>?_)|refine mS ?_|(refine aa.aj (f:=163) ?_;refine aa.he (HE.rg (F:=fun _=>False) (r:=da x.op) ak (fun _ h=>h.elim) rfl rfl (fun w' hw'=>dL x.op w')) rfl ?_;rintro⟨D_,p_,c_,q_,d_⟩ hD_;dsimp only)|fail)
 all_goals exact LE
end Go.Proofs.YtdkcljdfbemnbaaGreatDoor
