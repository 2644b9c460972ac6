/- The reference of layer 23: memories and calls. Printed by gen_wt.py. -/
import Derived.Test.YtdkcljdfbemnbaaGreatDoorJWu
import Derived.Test.YtdkcljdfbemnbaaGreatDoorJUt
import Derived.Test.YtdkcljdfbemnbaaGreatDoorJLm
namespace Go.Proofs.YtdkcljdfbemnbaaGreatDoor
open Go.RowKit
set_option maxHeartbeats 8000000
open List renaming all_eq_true→Pv,length_append→Pt,length_take→Ps
open Nat renaming le_refl→Pr,le_trans→Py,zero_le→Po
open Value renaming int→Pf,slice→Pg
set_option maxRecDepth 100000
def lI (m:af) (k:Int) (x:cv):aO×Int:=
 if k=14∧(cJ (dZ m) x.a).isNone then(dF,11)else if k=15∧(m.bg.length:Int)≤x.a then(dF,11)else if(cJ (dZ m) x.b).isNone then(dF,11)else if k=17∧ml x.op<x.a then(dF,19)else da x.op
theorem jj {g g':Prop} (h:g') (hw:eI g'→g:=by(intro hk_;(first|refine Ot ?_);exact hk_.out)):g:=hw ⟨h⟩
theorem FP {g g':Prop} (h:g') (hw:eI g'→g:=by(intro hk_;(first|refine jj ?_|(refine aa.aj (f:=180) ?_;refine aa.au (v:=.bool false) rfl rfl rfl (fun w' hw'=>by have:=mQ F m b _ w' (hm0.aP (show Ext w w' from hw'.at) (fun _ _ _ h=>h)) hb hj;rw[gb]at this;exact this) ?_));exact hk_.out)):g:=hw ⟨h⟩
theorem xz {g g':Prop} (h:g') (hw:eI g'→g:=by(intro hk_;(first|refine jj ?_|(refine aa.aj (f:=180) ?_;refine aa.au (v:=.bool true) rfl rfl rfl (fun w' hw'=>by have:=mQ F m b _ w' (hm0.aP (show Ext w w' from hw'.at) (fun _ _ _ h=>h)) hb hj;rw[gb]at this;exact this) ?_));exact hk_.out)):g:=hw ⟨h⟩
variable (s:ck) {K:Nat} {fs:List nS} {c:dv} (F:Nat→Prop) (m:af) (cs:List Value) (locals:List Int) (x:cv) (lp pt pl:Option Addr)
theorem kE (pt pl:Option Addr) (ct cl:Nat) (w:World) (hm:av F w cs m) (ha:0≤x.a) (hi:eO x.a) (hb:0≤x.b) (hj:eO x.b) (k:Int) (hk:eQ x.op=k) (h14:k=14↔x.op=64522) (h15:k=15↔x.op=64520):Calls G.P 161 #[.agg cs.toArray,.agg #[Pf .i64 x.op,Pf .i64 x.a,Pf .i64 x.b,Pf .u64 x.n,Pf .i64 x.kind,Pf .i64 x.val,Pf .i64 x.index,Pg pt x.types.length ct,Pg pl x.labels.length cl]] w (fK (lI m k x) (fun _=>False) w):=by
 have hm0:=hm
 obtain⟨v0,v1,v2,v3,v4,v5,v6,v7,v8,v9,rfl,r0,r1,r2,r3,r4,r5,r6,r7,r8,r9,g0⟩:=hm
 obtain⟨op,a,b,n,kind,val,index,types,labels⟩:=x
 dsimp only at ha hi hb hj hk h14 h15 ⊢
 have hof:∀w',Calls G.P 105 #[.int .i64 op] w' fun e w2=>e=.returned (.int .i64 k)∧Ext w' w2:=fun w'=>by have:=dq op w';rw[show(eE op).2.2=k from hk]at this;exact this
 have hal:=fun w'=>z7 op w'
 have hda:=fun w' (hx:Ext w w')=>sj F m _ w' (hm0.aP hx (fun _ _ _ h=>h))
 unfold lI
 dsimp only
 obtain⟨al,hal0⟩:∃t,ml op=t:=⟨_,rfl⟩
 rw[hal0]at hal ⊢
 obtain⟨nd,hnd⟩:∃t:Int,(m.bg.length:Int)=t:=⟨_,rfl⟩
 rw[hnd]at hda ⊢
 clear hal0 hk hnd
 by_cases c14:op=64522
 ·obtain rfl:=h14.2 c14
  subst c14
  cases ga:(cJ (dZ m) a).isSome with
  |false=>
   rw[if_pos ⟨rfl,by cases hz:cJ (dZ m) a<;>simp_all⟩]
   refine Nt ?_
   repeat'(first|refine ar ?_|(refine NO fun b_=>?_)|refine jj ?_|(refine aa.cQ (f:=180) ?_;refine aa.cH (v:=.bool false) rfl rfl rfl rfl (fun w' hw'=>by have:=mQ F m a _ w' (hm0.aP (show Ext w w' from hw'.at) (fun _ _ _ h=>h)) ha hi;rw[ga]at this;exact this) ?_)|fail)
   all_goals exact ap
  |true=>
   rw[if_neg (by rintro⟨-,h⟩;cases hz:cJ (dZ m) a<;>simp_all),if_neg Pc]
   cases gb:(cJ (dZ m) b).isSome with
   |false=>
    rw[if_pos OS]
    refine Nt ?_
    repeat'(first|refine ar ?_|(refine NO fun b_=>?_)|refine jj ?_|(refine aa.cQ (f:=180) ?_;refine aa.cH (v:=.bool true) rfl rfl rfl rfl (fun w' hw'=>by have:=mQ F m a _ w' (hm0.aP (show Ext w w' from hw'.at) (fun _ _ _ h=>h)) ha hi;rw[ga]at this;exact this) ?_)|fail)
    refine M6 ?_
    refine cq ?_
    repeat'(first|refine ar ?_|(refine NO fun b_=>?_)|refine FP ?_|fail)
    all_goals exact ap
   |true=>
    rw[if_neg OS,if_neg Pc]
    refine Nt ?_
    repeat'(first|refine ar ?_|(refine NO fun b_=>?_)|refine jj ?_|(refine aa.cQ (f:=180) ?_;refine aa.cH (v:=.bool true) rfl rfl rfl rfl (fun w' hw'=>by have:=mQ F m a _ w' (hm0.aP (show Ext w w' from hw'.at) (fun _ _ _ h=>h)) ha hi;rw[ga]at this;exact this) ?_)|fail)
    refine M6 ?_
    refine cq ?_
    repeat'(first|refine ar ?_|(refine NO fun b_=>?_)|refine xz ?_|fail)
    refine M6 ?_
    refine cq ?_
    refine aq.nW (v:=.int .i64 14) rfl rfl rfl (fun w' hw'=>hof w') ?_
    refine cq ?_
    repeat'(first|refine ar ?_|(refine NO fun b_=>?_)|refine jj ?_|(refine aa.aj (f:=163) ?_;refine aa.he (HE.rg (F:=fun _=>False) (r:=da 64522) ak (fun _ h=>h.elim) rfl rfl (fun w' hw'=>dK 64522 w')) rfl ?_;rintro⟨D_,p_,c_,q_,d_⟩ hD_;dsimp only)|fail)
    all_goals first|omega|(refine ah.bB (.inl rfl) rfl rfl rfl rfl rfl aH rfl ?_;exact fun w' hw'=>bD.jm (f0:=(da 64522).1) (tf:=fun x:Value×Value=>.agg #[x.1,x.2,.int .i64 (da 64522).2]) ⟨D_,p_,c_,q_,d_⟩ hw' ak ak hD_)
 have n14:¬k=14:=fun h=>c14 (h14.1 h)
 rw[if_neg Pc]
 by_cases c15:op=64520
 ·obtain rfl:=h15.2 c15
  subst c15
  by_cases hd:nd≤a
  ·rw[if_pos ⟨rfl,hd⟩]
   refine Nt ?_
   repeat'(first|refine ar ?_|(refine NO fun b_=>?_)|refine xz ?_|fail)
   refine M6 ?_
   refine cq ?_
   refine aq.kP (v:=.int .i64 nd) rfl rfl rfl rfl (fun w' hw'=>hda w' hw'.at) ?_
   refine cq ?_
   repeat'(first|refine ar ?_|(refine NO fun b_=>?_)|refine jj ?_|fail)
   all_goals exact ap
  rw[if_neg Pc]
  cases gb:(cJ (dZ m) b).isSome with
  |false=>
   rw[if_pos OS]
   refine Nt ?_
   repeat'(first|refine ar ?_|(refine NO fun b_=>?_)|refine jj ?_|fail)
   refine M6 ?_
   refine cq ?_
   refine aq.kP (v:=.int .i64 nd) rfl rfl rfl rfl (fun w' hw'=>hda w' hw'.at) ?_
   refine cq ?_
   repeat'(first|refine ar ?_|(refine NO fun b_=>?_)|refine FP ?_|fail)
   all_goals exact ap
  |true=>
   rw[if_neg OS,if_neg Pc]
   refine Nt ?_
   repeat'(first|refine ar ?_|(refine NO fun b_=>?_)|refine jj ?_|fail)
   refine M6 ?_
   refine cq ?_
   refine aq.kP (v:=.int .i64 nd) rfl rfl rfl rfl (fun w' hw'=>hda w' hw'.at) ?_
   refine cq ?_
   repeat'(first|refine ar ?_|(refine NO fun b_=>?_)|refine xz ?_|fail)
   refine M6 ?_
   refine cq ?_
   refine aq.nW (v:=.int .i64 15) rfl rfl rfl (fun w' hw'=>hof w') ?_
   refine cq ?_
   repeat'(first|refine ar ?_|(refine NO fun b_=>?_)|refine jj ?_|(refine aa.aj (f:=163) ?_;refine aa.he (HE.rg (F:=fun _=>False) (r:=da 64520) ak (fun _ h=>h.elim) rfl rfl (fun w' hw'=>dK 64520 w')) rfl ?_;rintro⟨D_,p_,c_,q_,d_⟩ hD_;dsimp only)|fail)
   all_goals first|omega|(refine ah.bB (.inl rfl) rfl rfl rfl rfl rfl aH rfl ?_;exact fun w' hw'=>bD.jm (f0:=(da 64520).1) (tf:=fun x:Value×Value=>.agg #[x.1,x.2,.int .i64 (da 64520).2]) ⟨D_,p_,c_,q_,d_⟩ hw' ak ak hD_)
 have n15:¬k=15:=fun h=>c15 (h15.1 h)
 rw[if_neg Pc]
 cases gb:(cJ (dZ m) b).isSome with
 |false=>
  rw[if_pos OS]
  refine Nt ?_
  repeat'(first|refine ar ?_|(refine NO fun b_=>?_)|refine jj ?_|fail)
  refine M6 ?_
  refine cq ?_
  repeat'(first|refine ar ?_|(refine NO fun b_=>?_)|refine FP ?_|fail)
  all_goals exact ap
 |true=>
  rw[if_neg OS]
  by_cases c17:k=17
  ·subst c17
   by_cases hd:al<a
   ·rw[if_pos ⟨rfl,hd⟩]
    refine Nt ?_
    repeat'(first|refine ar ?_|(refine NO fun b_=>?_)|refine jj ?_|fail)
    refine M6 ?_
    refine cq ?_
    repeat'(first|refine ar ?_|(refine NO fun b_=>?_)|refine xz ?_|fail)
    refine M6 ?_
    refine cq ?_
    refine aq.nW (v:=.int .i64 17) rfl rfl rfl (fun w' hw'=>hof w') ?_
    refine cq ?_
    refine aq.kP (v:=.int .i64 al) rfl rfl rfl rfl (fun w' hw'=>hal w') ?_
    refine cq ?_
    repeat'(first|refine ar ?_|(refine NO fun b_=>?_)|refine jj ?_|fail)
    all_goals exact ap
   ·rw[if_neg Pc]
    refine Nt ?_
    repeat'(first|refine ar ?_|(refine NO fun b_=>?_)|refine jj ?_|fail)
    refine M6 ?_
    refine cq ?_
    repeat'(first|refine ar ?_|(refine NO fun b_=>?_)|refine xz ?_|fail)
    refine M6 ?_
    refine cq ?_
    refine aq.nW (v:=.int .i64 17) rfl rfl rfl (fun w' hw'=>hof w') ?_
    refine cq ?_
    refine aq.kP (v:=.int .i64 al) rfl rfl rfl rfl (fun w' hw'=>hal w') ?_
    refine cq ?_
    repeat'(first|refine ar ?_|(refine NO fun b_=>?_)|refine jj ?_|(refine aa.aj (f:=163) ?_;refine aa.he (HE.rg (F:=fun _=>False) (r:=da op) ak (fun _ h=>h.elim) rfl rfl (fun w' hw'=>dK op w')) rfl ?_;rintro⟨D_,p_,c_,q_,d_⟩ hD_;dsimp only)|fail)
    all_goals exact LT
  ·rw[if_neg Pc]
   refine Nt ?_
   repeat'(first|refine ar ?_|(refine NO fun b_=>?_)|refine jj ?_|fail)
   refine M6 ?_
   refine cq ?_
   repeat'(first|refine ar ?_|(refine NO fun b_=>?_)|refine xz ?_|fail)
   refine M6 ?_
   refine cq ?_
   refine aq.nW (v:=.int .i64 k) rfl rfl rfl (fun w' hw'=>hof w') ?_
   refine cq ?_
   repeat'(first|refine ar ?_|(refine NO fun b_=>?_)|refine jj ?_|(refine aa.aj (f:=163) ?_;refine aa.he (HE.rg (F:=fun _=>False) (r:=da op) ak (fun _ h=>h.elim) rfl rfl (fun w' hw'=>dK op w')) rfl ?_;rintro⟨D_,p_,c_,q_,d_⟩ hD_;dsimp only)|fail)
   all_goals exact LT
theorem H5:∀{op:Int},eQ op=10→op=64526:=fun{op} h=>by
 obtain⟨r,hr,h1,h2⟩:=s7 (op:=op) Pc
 have:=Pv.1 (show(lL.all fun r=>!decide (r.2.2=10) || decide (r.1=64526))=true by decide+kernel) r hr
 rw[h2,h,h1]at this
 simpa using this
theorem ye:∀{op:Int},eQ op=14↔op=64522:=fun{op}=>⟨fun h=>by
 obtain⟨r,hr,h1,h2⟩:=s7 (op:=op) Pc
 have:=Pv.1 (show(lL.all fun r=>!decide (r.2.2=14) || decide (r.1=64522))=true by decide+kernel) r hr
 rw[h2,h,h1]at this
 simpa using this,fun h=>by rw[h];decide+kernel⟩
theorem yf:∀{op:Int},eQ op=15↔op=64520:=fun{op}=>⟨fun h=>by
 obtain⟨r,hr,h1,h2⟩:=s7 (op:=op) Pc
 have:=Pv.1 (show(lL.all fun r=>!decide (r.2.2=15) || decide (r.1=64520))=true by decide+kernel) r hr
 rw[h2,h,h1]at this
 simpa using this,fun h=>by rw[h];decide+kernel⟩
theorem pq {g g':Prop} (h:g') (hw:eI g'→g:=by(intro hk_;(first|refine Ov ?_);exact hk_.out)):g:=hw ⟨h⟩
theorem uK (lc ct cl:Nat) (w:World) (hm:av F w cs m) (_hl:ai F w (.slice lp locals.length lc) locals) (_ht:ai F w (.slice pt x.types.length ct) x.types) (ha:0≤x.a) (hi:eO x.a) (hb:0≤x.b) (hj:eO x.b) (_hF:∀k,F k→k<w.heap.size) (_hT:m7 m) (hk:eQ x.op=13):Calls G.P 122 #[.agg cs.toArray,.slice lp locals.length lc,.agg #[Pf .i64 x.op,Pf .i64 x.a,Pf .i64 x.b,Pf .u64 x.n,Pf .i64 x.kind,Pf .i64 x.val,Pf .i64 x.index,Pg pt x.types.length ct,Pg pl x.labels.length cl]] w (fK (lI m 13 x) F w):=by
 have hm0:=hm
 obtain⟨v0,v1,v2,v3,v4,v5,v6,v7,v8,v9,rfl,r0,r1,r2,r3,r4,r5,r6,r7,r8,r9,g0⟩:=hm
 have hof:∀w',Calls G.P 105 #[.int .i64 x.op] w' fun e w2=>e=.returned (.int .i64 13)∧Ext w' w2:=fun w'=>by have:=dq x.op w';rw[show(eE x.op).2.2=13 from hk]at this;exact this
 have h14:=ye (op:=x.op)
 have h15:=yf (op:=x.op)
 rw[hk]at h14 h15
 refine Ma ?_
 repeat'(first|refine ar ?_|(refine NO fun b_=>?_)|refine pq ?_|(refine aa.aj (f:=161) ?_;refine aa.he (HE.rg (F:=fun _=>False) (r:=lI m 13 x) ak (fun _ h=>h.elim) rfl rfl (fun w' hw'=>kE F m _ x pt pl ct cl w' (hm0.aP (show Ext w w' from hw'.at) (fun _ _ _ h=>h)) ha hi hb hj 13 hk h14 h15)) rfl ?_;rintro⟨D_,p_,c_,q_,d_⟩ hD_;dsimp only)|fail)
 all_goals first|omega|(refine ah.bB (.inl rfl) rfl rfl rfl rfl rfl aH rfl ?_;exact fun w' hw'=>bD.jm (f0:=(lI m 13 x).1) (tf:=fun y:Value×Value=>.agg #[y.1,y.2,.int .i64 (lI m 13 x).2]) ⟨D_,p_,c_,q_,d_⟩ hw' ak ak (fun k h=>.inr ((hD_ k h).resolve_left id)))
theorem uL (lc ct cl:Nat) (w:World) (hm:av F w cs m) (_hl:ai F w (.slice lp locals.length lc) locals) (_ht:ai F w (.slice pt x.types.length ct) x.types) (ha:0≤x.a) (hi:eO x.a) (hb:0≤x.b) (hj:eO x.b) (_hF:∀k,F k→k<w.heap.size) (_hT:m7 m) (hk:eQ x.op=14):Calls G.P 122 #[.agg cs.toArray,.slice lp locals.length lc,.agg #[Pf .i64 x.op,Pf .i64 x.a,Pf .i64 x.b,Pf .u64 x.n,Pf .i64 x.kind,Pf .i64 x.val,Pf .i64 x.index,Pg pt x.types.length ct,Pg pl x.labels.length cl]] w (fK (lI m 14 x) F w):=by
 have hm0:=hm
 obtain⟨v0,v1,v2,v3,v4,v5,v6,v7,v8,v9,rfl,r0,r1,r2,r3,r4,r5,r6,r7,r8,r9,g0⟩:=hm
 have hof:∀w',Calls G.P 105 #[.int .i64 x.op] w' fun e w2=>e=.returned (.int .i64 14)∧Ext w' w2:=fun w'=>by have:=dq x.op w';rw[show(eE x.op).2.2=14 from hk]at this;exact this
 have h14:=ye (op:=x.op)
 have h15:=yf (op:=x.op)
 rw[hk]at h14 h15
 refine Ma ?_
 repeat'(first|refine ar ?_|(refine NO fun b_=>?_)|refine pq ?_|(refine aa.aj (f:=161) ?_;refine aa.he (HE.rg (F:=fun _=>False) (r:=lI m 14 x) ak (fun _ h=>h.elim) rfl rfl (fun w' hw'=>kE F m _ x pt pl ct cl w' (hm0.aP (show Ext w w' from hw'.at) (fun _ _ _ h=>h)) ha hi hb hj 14 hk h14 h15)) rfl ?_;rintro⟨D_,p_,c_,q_,d_⟩ hD_;dsimp only)|fail)
 all_goals first|omega|(refine ah.bB (.inl rfl) rfl rfl rfl rfl rfl aH rfl ?_;exact fun w' hw'=>bD.jm (f0:=(lI m 14 x).1) (tf:=fun y:Value×Value=>.agg #[y.1,y.2,.int .i64 (lI m 14 x).2]) ⟨D_,p_,c_,q_,d_⟩ hw' ak ak (fun k h=>.inr ((hD_ k h).resolve_left id)))
theorem uM (lc ct cl:Nat) (w:World) (hm:av F w cs m) (_hl:ai F w (.slice lp locals.length lc) locals) (_ht:ai F w (.slice pt x.types.length ct) x.types) (ha:0≤x.a) (hi:eO x.a) (hb:0≤x.b) (hj:eO x.b) (_hF:∀k,F k→k<w.heap.size) (_hT:m7 m) (hk:eQ x.op=15):Calls G.P 122 #[.agg cs.toArray,.slice lp locals.length lc,.agg #[Pf .i64 x.op,Pf .i64 x.a,Pf .i64 x.b,Pf .u64 x.n,Pf .i64 x.kind,Pf .i64 x.val,Pf .i64 x.index,Pg pt x.types.length ct,Pg pl x.labels.length cl]] w (fK (lI m 15 x) F w):=by
 have hm0:=hm
 obtain⟨v0,v1,v2,v3,v4,v5,v6,v7,v8,v9,rfl,r0,r1,r2,r3,r4,r5,r6,r7,r8,r9,g0⟩:=hm
 have hof:∀w',Calls G.P 105 #[.int .i64 x.op] w' fun e w2=>e=.returned (.int .i64 15)∧Ext w' w2:=fun w'=>by have:=dq x.op w';rw[show(eE x.op).2.2=15 from hk]at this;exact this
 have h14:=ye (op:=x.op)
 have h15:=yf (op:=x.op)
 rw[hk]at h14 h15
 refine Ma ?_
 repeat'(first|refine ar ?_|(refine NO fun b_=>?_)|refine pq ?_|(refine aa.aj (f:=161) ?_;refine aa.he (HE.rg (F:=fun _=>False) (r:=lI m 15 x) ak (fun _ h=>h.elim) rfl rfl (fun w' hw'=>kE F m _ x pt pl ct cl w' (hm0.aP (show Ext w w' from hw'.at) (fun _ _ _ h=>h)) ha hi hb hj 15 hk h14 h15)) rfl ?_;rintro⟨D_,p_,c_,q_,d_⟩ hD_;dsimp only)|fail)
 all_goals first|omega|(refine ah.bB (.inl rfl) rfl rfl rfl rfl rfl aH rfl ?_;exact fun w' hw'=>bD.jm (f0:=(lI m 15 x).1) (tf:=fun y:Value×Value=>.agg #[y.1,y.2,.int .i64 (lI m 15 x).2]) ⟨D_,p_,c_,q_,d_⟩ hw' ak ak (fun k h=>.inr ((hD_ k h).resolve_left id)))
theorem uO (lc ct cl:Nat) (w:World) (hm:av F w cs m) (_hl:ai F w (.slice lp locals.length lc) locals) (_ht:ai F w (.slice pt x.types.length ct) x.types) (ha:0≤x.a) (hi:eO x.a) (hb:0≤x.b) (hj:eO x.b) (_hF:∀k,F k→k<w.heap.size) (_hT:m7 m) (hk:eQ x.op=17):Calls G.P 122 #[.agg cs.toArray,.slice lp locals.length lc,.agg #[Pf .i64 x.op,Pf .i64 x.a,Pf .i64 x.b,Pf .u64 x.n,Pf .i64 x.kind,Pf .i64 x.val,Pf .i64 x.index,Pg pt x.types.length ct,Pg pl x.labels.length cl]] w (fK (lI m 17 x) F w):=by
 have hm0:=hm
 obtain⟨v0,v1,v2,v3,v4,v5,v6,v7,v8,v9,rfl,r0,r1,r2,r3,r4,r5,r6,r7,r8,r9,g0⟩:=hm
 have hof:∀w',Calls G.P 105 #[.int .i64 x.op] w' fun e w2=>e=.returned (.int .i64 17)∧Ext w' w2:=fun w'=>by have:=dq x.op w';rw[show(eE x.op).2.2=17 from hk]at this;exact this
 have h14:=ye (op:=x.op)
 have h15:=yf (op:=x.op)
 rw[hk]at h14 h15
 refine Ma ?_
 repeat'(first|refine ar ?_|(refine NO fun b_=>?_)|refine pq ?_|(refine aa.aj (f:=161) ?_;refine aa.he (HE.rg (F:=fun _=>False) (r:=lI m 17 x) ak (fun _ h=>h.elim) rfl rfl (fun w' hw'=>kE F m _ x pt pl ct cl w' (hm0.aP (show Ext w w' from hw'.at) (fun _ _ _ h=>h)) ha hi hb hj 17 hk h14 h15)) rfl ?_;rintro⟨D_,p_,c_,q_,d_⟩ hD_;dsimp only)|fail)
 all_goals first|omega|(refine ah.bB (.inl rfl) rfl rfl rfl rfl rfl aH rfl ?_;exact fun w' hw'=>bD.jm (f0:=(lI m 17 x).1) (tf:=fun y:Value×Value=>.agg #[y.1,y.2,.int .i64 (lI m 17 x).2]) ⟨D_,p_,c_,q_,d_⟩ hw' ak ak (fun k h=>.inr ((hD_ k h).resolve_left id)))
theorem uN (lc ct cl:Nat) (w:World) (hm:av F w cs m) (_hl:ai F w (.slice lp locals.length lc) locals) (_ht:ai F w (.slice pt x.types.length ct) x.types) (_ha:0≤x.a) (_hi:eO x.a) (_hb:0≤x.b) (_hj:eO x.b) (_hF:∀k,F k→k<w.heap.size) (_hT:m7 m) (hk:eQ x.op=16):Calls G.P 122 #[.agg cs.toArray,.slice lp locals.length lc,.agg #[Pf .i64 x.op,Pf .i64 x.a,Pf .i64 x.b,Pf .u64 x.n,Pf .i64 x.kind,Pf .i64 x.val,Pf .i64 x.index,Pg pt x.types.length ct,Pg pl x.labels.length cl]] w (fK (if(m.bg.length:Int)≤x.a then(dF,11)else da x.op) F w):=by
 have hm0:=hm
 obtain⟨v0,v1,v2,v3,v4,v5,v6,v7,v8,v9,rfl,r0,r1,r2,r3,r4,r5,r6,r7,r8,r9,g0⟩:=hm
 have hof:∀w',Calls G.P 105 #[.int .i64 x.op] w' fun e w2=>e=.returned (.int .i64 16)∧Ext w' w2:=fun w'=>by have:=dq x.op w';rw[show(eE x.op).2.2=16 from hk]at this;exact this
 have hda:=fun w' (hx:Ext w w')=>sj F m _ w' (hm0.aP hx (fun _ _ _ h=>h))
 obtain⟨nd,hnd⟩:∃t:Int,(m.bg.length:Int)=t:=⟨_,rfl⟩
 rw[hnd]at hda ⊢
 clear hnd
 by_cases hd:nd≤x.a
 ·rw[if_pos hd]
  refine Ma ?_
  repeat'(first|refine ar ?_|(refine NO fun b_=>?_)|refine jj ?_|refine pq ?_|fail)
  refine M6 ?_
  refine cq ?_
  refine aq.nW (v:=.int .i64 nd) rfl rfl rfl (fun w' hw'=>hda w' hw'.at) ?_
  refine cq ?_
  repeat'(first|refine ar ?_|(refine NO fun b_=>?_)|refine jj ?_|fail)
  all_goals exact ap
 ·rw[if_neg hd]
  refine Ma ?_
  repeat'(first|refine ar ?_|(refine NO fun b_=>?_)|refine jj ?_|refine pq ?_|fail)
  refine M6 ?_
  refine cq ?_
  refine aq.nW (v:=.int .i64 nd) rfl rfl rfl (fun w' hw'=>hda w' hw'.at) ?_
  refine cq ?_
  repeat'(first|refine ar ?_|(refine NO fun b_=>?_)|refine jj ?_|(refine aa.aj (f:=163) ?_;refine aa.he (HE.rg (F:=fun _=>False) (r:=da x.op) ak (fun _ h=>h.elim) rfl rfl (fun w' hw'=>dK x.op w')) rfl ?_;rintro⟨D_,p_,c_,q_,d_⟩ hD_;dsimp only)|fail)
  all_goals exact bi
theorem uR (lc ct cl:Nat) (w:World) (hm:av F w cs m) (_hl:ai F w (.slice lp locals.length lc) locals) (_ht:ai F w (.slice pt x.types.length ct) x.types) (_ha:0≤x.a) (_hi:eO x.a) (_hb:0≤x.b) (_hj:eO x.b) (_hF:∀k,F k→k<w.heap.size) (_hT:m7 m) (hk:eQ x.op=20):Calls G.P 122 #[.agg cs.toArray,.slice lp locals.length lc,.agg #[Pf .i64 x.op,Pf .i64 x.a,Pf .i64 x.b,Pf .u64 x.n,Pf .i64 x.kind,Pf .i64 x.val,Pf .i64 x.index,Pg pt x.types.length ct,Pg pl x.labels.length cl]] w (fK (⟨[],[x.a]⟩,0) F w):=by
 have hm0:=hm
 obtain⟨v0,v1,v2,v3,v4,v5,v6,v7,v8,v9,rfl,r0,r1,r2,r3,r4,r5,r6,r7,r8,r9,g0⟩:=hm
 have hof:∀w',Calls G.P 105 #[.int .i64 x.op] w' fun e w2=>e=.returned (.int .i64 20)∧Ext w' w2:=fun w'=>by have:=dq x.op w';rw[show(eE x.op).2.2=20 from hk]at this;exact this
 refine Ma ?_
 repeat'(first|refine ar ?_|(refine NO fun b_=>?_)|(refine fB fun b_ _=>?_)|refine Oa ?_|refine pq ?_|fail)
 all_goals exact ul
theorem wi (lc ct cl:Nat) (w:World) (hm:av F w cs m) (_hl:ai F w (.slice lp locals.length lc) locals) (_ht:ai F w (.slice pt x.types.length ct) x.types) (_ha:0≤x.a) (_hi:eO x.a) (_hb:0≤x.b) (_hj:eO x.b) (_hF:∀k,F k→k<w.heap.size) (_hT:m7 m) (hk:eQ x.op=0):Calls G.P 122 #[.agg cs.toArray,.slice lp locals.length lc,.agg #[Pf .i64 x.op,Pf .i64 x.a,Pf .i64 x.b,Pf .u64 x.n,Pf .i64 x.kind,Pf .i64 x.val,Pf .i64 x.index,Pg pt x.types.length ct,Pg pl x.labels.length cl]] w (fK (da x.op) F w):=by
 have hm0:=hm
 obtain⟨v0,v1,v2,v3,v4,v5,v6,v7,v8,v9,rfl,r0,r1,r2,r3,r4,r5,r6,r7,r8,r9,g0⟩:=hm
 have hof:∀w',Calls G.P 105 #[.int .i64 x.op] w' fun e w2=>e=.returned (.int .i64 0)∧Ext w' w2:=fun w'=>by have:=dq x.op w';rw[show(eE x.op).2.2=0 from hk]at this;exact this
 refine Ma ?_
 repeat'(first|refine ar ?_|(refine NO fun b_=>?_)|refine pq ?_|(refine aa.aj (f:=163) ?_;refine aa.he (HE.rg (F:=fun _=>False) (r:=da x.op) ak (fun _ h=>h.elim) rfl rfl (fun w' hw'=>dK x.op w')) rfl ?_;rintro⟨D_,p_,c_,q_,d_⟩ hD_;dsimp only)|fail)
 all_goals exact bi
theorem uP (lc ct cl:Nat) (w:World) (hm:av F w cs m) (_hl:ai F w (.slice lp locals.length lc) locals) (_ht:ai F w (.slice pt x.types.length ct) x.types) (_ha:0≤x.a) (_hi:eO x.a) (_hb:0≤x.b) (_hj:eO x.b) (_hF:∀k,F k→k<w.heap.size) (_hT:m7 m) (hk:eQ x.op=18):Calls G.P 122 #[.agg cs.toArray,.slice lp locals.length lc,.agg #[Pf .i64 x.op,Pf .i64 x.a,Pf .i64 x.b,Pf .u64 x.n,Pf .i64 x.kind,Pf .i64 x.val,Pf .i64 x.index,Pg pt x.types.length ct,Pg pl x.labels.length cl]] w (fK (da x.op) F w):=by
 have hm0:=hm
 obtain⟨v0,v1,v2,v3,v4,v5,v6,v7,v8,v9,rfl,r0,r1,r2,r3,r4,r5,r6,r7,r8,r9,g0⟩:=hm
 have hof:∀w',Calls G.P 105 #[.int .i64 x.op] w' fun e w2=>e=.returned (.int .i64 18)∧Ext w' w2:=fun w'=>by have:=dq x.op w';rw[show(eE x.op).2.2=18 from hk]at this;exact this
 refine Ma ?_
 repeat'(first|refine ar ?_|(refine NO fun b_=>?_)|refine pq ?_|(refine aa.aj (f:=163) ?_;refine aa.he (HE.rg (F:=fun _=>False) (r:=da x.op) ak (fun _ h=>h.elim) rfl rfl (fun w' hw'=>dK x.op w')) rfl ?_;rintro⟨D_,p_,c_,q_,d_⟩ hD_;dsimp only)|fail)
 all_goals exact bi
theorem uQ (lc ct cl:Nat) (w:World) (hm:av F w cs m) (_hl:ai F w (.slice lp locals.length lc) locals) (_ht:ai F w (.slice pt x.types.length ct) x.types) (_ha:0≤x.a) (_hi:eO x.a) (_hb:0≤x.b) (_hj:eO x.b) (_hF:∀k,F k→k<w.heap.size) (_hT:m7 m) (hk:eQ x.op=19):Calls G.P 122 #[.agg cs.toArray,.slice lp locals.length lc,.agg #[Pf .i64 x.op,Pf .i64 x.a,Pf .i64 x.b,Pf .u64 x.n,Pf .i64 x.kind,Pf .i64 x.val,Pf .i64 x.index,Pg pt x.types.length ct,Pg pl x.labels.length cl]] w (fK (da x.op) F w):=by
 have hm0:=hm
 obtain⟨v0,v1,v2,v3,v4,v5,v6,v7,v8,v9,rfl,r0,r1,r2,r3,r4,r5,r6,r7,r8,r9,g0⟩:=hm
 have hof:∀w',Calls G.P 105 #[.int .i64 x.op] w' fun e w2=>e=.returned (.int .i64 19)∧Ext w' w2:=fun w'=>by have:=dq x.op w';rw[show(eE x.op).2.2=19 from hk]at this;exact this
 refine Ma ?_
 repeat'(first|refine ar ?_|(refine NO fun b_=>?_)|refine pq ?_|(refine aa.aj (f:=163) ?_;refine aa.he (HE.rg (F:=fun _=>False) (r:=da x.op) ak (fun _ h=>h.elim) rfl rfl (fun w' hw'=>dK x.op w')) rfl ?_;rintro⟨D_,p_,c_,q_,d_⟩ hD_;dsimp only)|fail)
 all_goals exact bi
theorem dv.Wf.ok (h:c.Wf):c.Ok:=⟨h.ao.ok,h.many,h.fr.kinds,h.fr.other,h.ended,fun h0=>(h.fr.first h0).1⟩
def Cl (K:Nat) (fs:List nS):Prop:=∀f∈fs,f.par.length≤K∧f.res.length≤K
theorem Cl.ix (h:Cl K fs) {i:Nat} (hi:i<fs.length):(Go.Proofs.YtdkcljdfbemnbaaGreatDoor.ix fs i).par.length≤K∧(Go.Proofs.YtdkcljdfbemnbaaGreatDoor.ix fs i).res.length≤K:=by
 rw[cz hi];exact h _ (List.getElem_mem hi)
theorem Cl.top (h:Cl K c.fs):c.top.par.length≤K∧c.top.res.length≤K:=by
 unfold dv.top
 by_cases h0:c.fs.length=0
 ·have:c.fs=[]:=List.eq_nil_of_length_eq_zero h0
  rw[this];exact⟨Nat.zero_le _,Po _⟩
 ·exact h.ix Pc
theorem Cl.snoc {f:nS} (h:Cl K fs) (h1:f.par.length≤K) (h2:f.res.length≤K):Cl K (fs++[f]):=fun g hg=>by
 rcases List.mem_append.1 hg with hg|hg
 ·exact h g hg
 ·rw[List.mem_singleton]at hg;subst hg;exact⟨h1,h2⟩
theorem Cl.take (h:Cl K fs) (n:Nat):Cl K (fs.take n):=fun f hf=>h f (List.mem_of_mem_take hf)
theorem Cl.label (h:Cl K c.fs) (n:Int):(cT c n).1.length≤K:=by
 unfold cT
 split
 ·exact Po _
 ·split
  ·exact Po _
  ·rename_i hn
   have:=h.ix (i:=c.fs.length - 1 - n.toNat) Pc
   dsimp only
   split
   ·exact this.1
   ·exact this.2
structure kn (K L:Nat) (c:dv):Prop where
 wf:c.Wf
 bk:c.broken=0
 fit:c.ao.Fit
 fr:Cl K c.fs
 ts:c.ao.ts.length≤L
theorem xp:(dG s).ts.length≤s.ts.length:=by unfold dG;rw[List.length_take];omega
theorem Bm {s:ck} (h:s.Fit):(dG s).Fit:=by
 have:=h;clear this
 have h1:=xp s
 have h2:(dG s).bQ=s.bQ:=rfl
 unfold ck.Fit at*;omega
theorem FJ:∀n,(dp s n).1.ts.length≤s.ts.length∧(s.Fit→(dp s n).1.Fit):=by
 intro n
 induction n generalizing s with
 |zero=>exact⟨Nat.le_refl _,fun h=>h⟩
 |succ n ih=>
  have h1:=jO s
  have h2:=ih (aY s).1
  rw[dp]
  split
  ·exact⟨Nat.le_refl _,fun h=>h⟩
  ·split
   ·exact⟨Nat.le_trans h2.1 h1,fun h=>h2.2 (tY h)⟩
   ·exact⟨Nat.le_trans h2.1 h1,fun h=>h2.2 (tY h)⟩
theorem De (rows:List (List Int)) (s:ck):(fL rows s).1.ts.length≤s.ts.length∧(s.Fit→(fL rows s).1.Fit):=by
 have h1:=dD s [1]
 have h2:=FJ (aK s [1]).1 (ix rows (rows.length - 1)).length
 unfold fL
 split
 ·exact⟨Nat.le_refl _,fun h=>h⟩
 ·split
  ·exact⟨Nat.le_refl _,fun h=>h⟩
  ·split
   ·exact⟨Nat.le_refl _,fun h=>h⟩
   ·split
    ·exact⟨Nat.le_refl _,fun h=>h⟩
    ·exact⟨Nat.le_trans h2.1 h1,fun h=>h2.2 (kL h _)⟩
theorem AP (f:aO):(fS s f).1.ts.length≤s.ts.length+f.results.length∧(s.Fit→(fS s f).1.Fit):=by
 have h1:=dD s f.params
 unfold fS
 split
 ·exact⟨by omega,fun h=>kL h _⟩
 ·refine⟨?_,fun _=>mO _ _⟩
  show((aK s f.params).1.ts++f.results).length≤_
  rw[Pt];omega
theorem BD {s:ck} (h:s.Wf) (op:Int):(ia s op).1.Wf∧(ia s op).1.ps=s.ps∧(ia s op).1.ts.length≤s.ts.length+1∧(s.Fit→(ia s op).1.Fit):=by
 have hpp:∀s:ck,(aY s).1.ps=s.ps:=fun s=>by unfold aY;split<;>(try rfl);split<;>rfl
 have base:∀s:ck,s.Wf→s.Wf∧s.ps=s.ps∧s.ts.length≤s.ts.length∧(s.Fit→s.Fit):=fun s h=>⟨h,rfl,Pr _,fun h=>h⟩
 have pop:∀{a b:ck},(b.Wf∧b.ps=a.ps∧b.ts.length≤a.ts.length∧(a.Fit→b.Fit))→((aY b).1.Wf∧(aY b).1.ps=a.ps∧(aY b).1.ts.length≤a.ts.length∧(a.Fit→(aY b).1.Fit)):=fun{a b} h=>⟨jn h.1,(hpp b).trans h.2.1,Py (jO b) h.2.2.1,fun hf=>tY (h.2.2.2 hf)⟩
 have want:(aK s [1]).1.Wf∧(aK s [1]).1.ps=s.ps∧(aK s [1]).1.ts.length≤s.ts.length∧(s.Fit→(aK s [1]).1.Fit):=⟨dE h _,fm _ _,dD _ _,fun hf=>kL hf _⟩
 have out:∀{b:ck},(b.Wf∧b.ps=s.ps∧b.ts.length≤s.ts.length∧(s.Fit→b.Fit))→(b.Wf∧b.ps=s.ps∧b.ts.length≤s.ts.length+1∧(s.Fit→b.Fit)):=fun{b} h=>⟨h.1,h.2.1,by omega,h.2.2.2⟩
 have push:∀{b:ck} (a:Int),(b.Wf∧b.ps=s.ps∧b.ts.length≤s.ts.length∧(s.Fit→b.Fit))→((aS b [a]).Wf∧(aS b [a]).ps=s.ps∧(aS b [a]).ts.length≤s.ts.length+1∧(s.Fit→(aS b [a]).Fit)):=fun{b} a h=>⟨qK h.1 _,h.2.1,by show(b.ts++[a]).length≤_;rw[Pt];show _+1≤_;omega,fun _=>mO _ _⟩
 have w2:(if op=27 then aK s [1]else(s,0)).1.Wf∧(if op=27 then aK s [1]else(s,0)).1.ps=s.ps∧(if op=27 then aK s [1]else(s,0)).1.ts.length≤s.ts.length∧(s.Fit→(if op=27 then aK s [1]else(s,0)).1.Fit):=by
  split
  ·exact want
  ·exact base s h
 have ite:∀{p:Prop} [Decidable p] {a b:ck×Int},(a.1.Wf∧a.1.ps=s.ps∧a.1.ts.length≤s.ts.length+1∧(s.Fit→a.1.Fit))→(b.1.Wf∧b.1.ps=s.ps∧b.1.ts.length≤s.ts.length+1∧(s.Fit→b.1.Fit))→((if p then a else b).1.Wf∧(if p then a else b).1.ps=s.ps∧(if p then a else b).1.ts.length≤s.ts.length+1∧(s.Fit→(if p then a else b).1.Fit)):=fun{p _ a b} h1 h2=>by
  by_cases hp:p
  ·rw[if_pos hp];exact h1
  ·rw[if_neg hp];exact h2
 unfold ia
 exact ite (out w2) (ite (out (pop w2)) (ite (out (pop (base s h))) (ite (ite (out (pop (base s h))) (push _ (pop (base s h)))) (ite (out (pop (pop want))) (ite (out (pop (pop want))) (push _ (pop (pop want))))))))
theorem kn.ao {K L L':Nat} {c:dv} (h:kn K L c) {s:ck} (h1:s.Wf) (h2:s.ps=c.ao.ps) (h3:s.Fit) (h4:s.ts.length≤L'):kn K L' {c with ao:=s}:=
 ⟨⟨h1,by show s.ps.length=_;rw[h2];exact h.wf.many,h.wf.fr,h.wf.ended⟩,h.bk,h3,h.fr,h4⟩
theorem kn.mono {K L L':Nat} {c:dv} (h:kn K L c) (hl:L≤L'):kn K L' c:=⟨h.wf,h.bk,h.fit,h.fr,Py h.ts hl⟩
theorem kn.dead {K L:Nat} {c:dv} (h:kn K L c):kn K L (iE c)∧(iE c).fs=c.fs∧(iE c).results=c.results:=by
 refine⟨⟨EY h.wf,?_,?_,?_,?_⟩,?_,?_⟩
 all_goals
  unfold iE
  split
 ·exact h.bk
 ·exact h.bk
 ·exact h.fit
 ·exact Bm h.fit
 ·exact h.fr
 ·exact h.fr
 ·exact h.ts
 ·exact Py (xp _) h.ts
 all_goals rfl
theorem qt {K L:Nat} {c:dv} (h:kn K L c) {m:af} {locals:List Int} {x:cv} (_h1:1≤K) (hbl:∀f,cX m x.kind x.val x.index=some f→f.params.length≤K∧f.results.length≤K) (_hty:(fN m locals x).1.results.length≤K) (he:(fC c m locals x).2=0):
  kn K (L+K) (fC c m locals x).1∧(fC c m locals x).1.results=c.results∧(fC c m locals x).1.fs.length≤c.fs.length+1∧c.fs.length≤(fC c m locals x).1.fs.length+1:=by
 have hts:=h.ts
 have same:kn K (L+K) c∧c.results=c.results∧c.fs.length≤c.fs.length+1∧c.fs.length≤c.fs.length+1:=⟨h.mono Pc,rfl,by omega,by omega⟩
 have dead:∀s:ck,s.Wf→s.ps=c.ao.ps→s.Fit→s.ts.length≤L→kn K (L+K) (iE {c with ao:=s})∧(iE {c with ao:=s}).results=c.results∧(iE {c with ao:=s}).fs.length≤c.fs.length+1∧c.fs.length≤(iE {c with ao:=s}).fs.length+1:=fun s a b d e=>by
  have k:=(h.ao a b d e).dead
  rw[k.2.1,k.2.2]
  exact⟨k.1.mono Pc,rfl,by show c.fs.length≤_;omega,by show c.fs.length≤c.fs.length+1;omega⟩
 have lea:∀l,(iz c l).2=0→kn K (L+K) (iz c l).1∧(iz c l).1.results=c.results∧(iz c l).1.fs.length≤c.fs.length+1∧c.fs.length≤(iz c l).1.fs.length+1:=fun l hl=>by
  unfold iz at hl ⊢
  split
  ·exact same
  ·exact dead _ (dE h.wf.ao l) (fm _ _) (kL h.fit l) (by have:=dD c.ao l;omega)
 have ao:∀s:ck,s.Wf→s.ps=c.ao.ps→s.Fit→s.ts.length≤L+K→kn K (L+K) {c with ao:=s}∧({c with ao:=s}:dv).results=c.results∧({c with ao:=s}:dv).fs.length≤c.fs.length+1∧c.fs.length≤({c with ao:=s}:dv).fs.length+1:=fun s a b d e=>⟨h.ao a b d e,rfl,by show c.fs.length≤_;omega,by show c.fs.length≤c.fs.length+1;omega⟩
 unfold fC at he ⊢
 by_cases q0:cW x=false
 ·rw[if_pos q0]at he;exact absurd he (show¬(10:Int)=0 by decide)
 rw[if_neg q0]at he ⊢
 by_cases q1:opens x.op
 ·rw[if_pos q1]at he ⊢
  cases hf:cX m x.kind x.val x.index with
  |none=>rw[hf]at he;exact absurd he (show¬(11:Int)=0 by decide)
  |some f=>
   rw[hf]at he
   dsimp only at he ⊢
   obtain⟨b1,b2⟩:=hbl f hf
   have hwf:=Dj h.wf x.op f.params f.results
   unfold jv at he hwf ⊢
   rw[if_neg (fun hh=>hh h.bk)]at he hwf ⊢
   by_cases e1:x.op≠2∧x.op≠3∧x.op≠4
   ·rw[if_pos e1]at he;exact absurd he (show¬(1:Int)=0 by decide)
   rw[if_neg e1]at he hwf ⊢
   by_cases e2:c.fs.length=0
   ·rw[if_pos e2]at he;exact absurd he (show¬(16:Int)=0 by decide)
   rw[if_neg e2]at he hwf ⊢
   dsimp only at he hwf ⊢
   have ha:(if x.op=4 then aK c.ao [1]else(c.ao,0)).1.ts.length≤c.ao.ts.length:=by
    split
    ·exact dD _ _
    ·exact Pr _
   generalize (if x.op=4 then aK c.ao [1]else(c.ao,0))=a at he hwf ha ⊢
   by_cases e3:a.2≠0
   ·rw[if_pos e3]at he;exact absurd he e3
   rw[if_neg e3]at he hwf ⊢
   by_cases e4:(aK a.1 f.params).2≠0
   ·rw[if_pos e4]at he;exact absurd he e4
   rw[if_neg e4]at hwf ⊢
   have hw:=dD a.1 f.params
   refine⟨⟨hwf,h.bk,mO _ _,h.fr.snoc b1 b2,?_⟩,rfl,?_,?_⟩
   ·show((aK a.1 f.params).1.ts++f.params).length≤_
    rw[Pt];omega
   ·show(c.fs++[_]).length≤_;rw[Pt];exact Pr _
   ·show _≤(c.fs++[_]).length+1;rw[Pt];omega
 rw[if_neg q1]at he ⊢
 by_cases q2:x.op=5
 ·rw[if_pos q2]at he ⊢
  have hwf:=E6 h.wf
  unfold my at he hwf ⊢
  rw[if_neg (fun hh=>hh h.bk)]at he hwf ⊢
  by_cases e1:c.fs.length=0∨c.top.kind≠4∨c.top.other=true
  ·rw[if_pos e1]at he;exact absurd he (show¬(16:Int)=0 by decide)
  rw[if_neg e1]at he hwf ⊢
  dsimp only at he hwf ⊢
  have hn:c.fs.length≠0:=fun hh=>e1 (.inl hh)
  by_cases e2:(cP c.ao c.top.res).2≠0
  ·rw[if_pos e2]at he;exact absurd he e2
  rw[if_neg e2]at hwf ⊢
  have hw:=mS c.ao c.top.res
  have ht:=h.fr.top
  have hl:(c.fs.take (c.fs.length - 1)++[{c.top with other:=true}]).length=c.fs.length:=by rw[Pt,Ps];show _+1=_;omega
  refine⟨⟨hwf,h.bk,mO _ _,(h.fr.take _).snoc ht.1 ht.2,?_⟩,rfl,?_,?_⟩
  ·show((cP c.ao c.top.res).1.ts++c.top.par).length≤_
   rw[Pt];omega
  ·show(c.fs.take (c.fs.length - 1)++[{c.top with other:=true}]).length≤_;omega
  ·show _≤(c.fs.take (c.fs.length - 1)++[{c.top with other:=true}]).length+1;omega
 rw[if_neg q2]at he ⊢
 by_cases q3:x.op=11
 ·rw[if_pos q3]at he ⊢
  have hwf:=DA h.wf
  unfold ke at he hwf ⊢
  rw[if_neg (fun hh=>hh h.bk)]at he hwf ⊢
  by_cases e1:c.fs.length=0
  ·rw[if_pos e1]at he;exact absurd he (show¬(16:Int)=0 by decide)
  rw[if_neg e1]at he hwf ⊢
  dsimp only at he hwf ⊢
  by_cases e2:(cP c.ao c.top.res).2≠0
  ·rw[if_pos e2]at he;exact absurd he e2
  rw[if_neg e2]at he hwf ⊢
  by_cases e3:c.top.kind=4∧c.top.other=false∧c.top.par≠c.top.res
  ·rw[if_pos e3]at he;exact absurd he (show¬(12:Int)=0 by decide)
  rw[if_neg e3]at hwf ⊢
  have hw:=mS c.ao c.top.res
  have ht:=h.fr.top
  have hl:(c.fs.take (c.fs.length - 1)).length=c.fs.length - 1:=by rw[Ps];omega
  refine⟨⟨hwf,h.bk,mO _ _,h.fr.take _,?_⟩,rfl,?_,?_⟩
  ·show((cP c.ao c.top.res).1.ts++c.top.res).length≤_
   rw[Pt];omega
  ·show(c.fs.take (c.fs.length - 1)).length≤_;omega
  ·show _≤(c.fs.take (c.fs.length - 1)).length+1;omega
 rw[if_neg q3]at he ⊢
 by_cases q4:x.op=0
 ·rw[if_pos q4];exact dead c.ao h.wf.ao rfl h.fit h.ts
 rw[if_neg q4]at he ⊢
 by_cases q5:jumps x.op
 ·rw[if_pos q5]at he ⊢
  unfold lO at he ⊢
  by_cases e1:x.op=15
  ·rw[if_pos e1]at he ⊢;exact lea _ he
  rw[if_neg e1]at he ⊢
  by_cases e2:x.op=14
  ·rw[if_pos e2]at he ⊢
   unfold jy at he ⊢
   split
   ·exact same
   ·have hk:(dM c x).1.Wf∧(dM c x).1.ps=c.ao.ps∧(dM c x).1.Fit∧(dM c x).1.ts.length≤L:=by
     unfold dM
     split
     ·exact⟨h.wf.ao,rfl,h.fit,h.ts⟩
     ·have a:=wZ h.wf.ao (fO (cT c) (x.labels++[x.a])).1
      have b:=De (fO (cT c) (x.labels++[x.a])).1 c.ao
      exact⟨a.1,a.2,b.2 h.fit,Py b.1 h.ts⟩
    exact dead _ hk.1 hk.2.1 hk.2.2.1 hk.2.2.2
  rw[if_neg e2]at he ⊢
  by_cases e3:(cT c x.a).2≠0
  ·rw[if_pos e3]at he;exact absurd he e3
  rw[if_neg e3]at he ⊢
  by_cases e4:x.op=13
  ·rw[if_pos e4]at he ⊢
   unfold w8 at he ⊢
   split
   ·exact same
   ·have a:=dE h.wf.ao [1]
    have b:=AP (aK c.ao [1]).1 ⟨(cT c x.a).1,(cT c x.a).1⟩
    have d:=dD c.ao [1]
    have hl:=h.fr.label x.a
    refine ao _ (vv a _) ((vu _ _).trans (fm _ _)) (b.2 (kL h.fit _)) ?_
    have b1:=b.1
    dsimp only at b1
    show(fS (aK c.ao [1]).1 ⟨(cT c x.a).1,(cT c x.a).1⟩).1.ts.length≤L+K
    omega
  rw[if_neg e4]at he ⊢;exact lea _ he
 rw[if_neg q5]at he ⊢
 by_cases q6:ku x.op
 ·rw[if_pos q6]
  have a:=BD h.wf.ao x.op
  exact ao _ a.1 a.2.1 (a.2.2.2 h.fit) (by have:=a.2.2.1;omega)
 rw[if_neg q6]at he ⊢
 unfold tm at he ⊢
 by_cases e1:(fN m locals x).2≠0
 ·rw[if_pos e1]at he;exact absurd he e1
 rw[if_neg e1]at he ⊢
 have a:=AP c.ao (fN m locals x).1
 exact ao _ (vv h.wf.ao _) (vu _ _) (a.2 h.fit) (by have:=a.1;omega)
end Go.Proofs.YtdkcljdfbemnbaaGreatDoor
