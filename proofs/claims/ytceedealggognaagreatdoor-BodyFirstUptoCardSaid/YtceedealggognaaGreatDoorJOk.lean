/- rule.pick of select. Printed by gen_uq.py 27. -/
import Derived.Test.YtceedealggognaaGreatDoorJUh
import Derived.Test.YtceedealggognaaGreatDoorJUt
import Derived.Test.YtceedealggognaaGreatDoorJAr
import Derived.Test.YtceedealggognaaGreatDoorJNb
namespace Go.Proofs.YtceedealggognaaGreatDoor
open Go.RowKit
set_option maxRecDepth 100000
set_option maxHeartbeats 16000000 in
theorem su (sp:Nat) (s:cZ) (y:Value×Value) (op:Int) (ho:op=27) (w:World) (hw:Ok (ay sp s y) [] w) (hwf:s.Wf) (hb:(s.ts.length+1)*8≤140737488355328):Calls G.P 58 #[.pointer (some ⟨sp,0,none⟩),.int .i64 op] w (dr sp s y (.int .i64 (fq s op).2) (fq s op).1 w):=by
 obtain⟨tv,pv⟩:=y
 have hp:=hwf.some
 have h0:=hwf.at_.1
 have hle:=hwf.at_.2
 unfold fq
 simp only[if_pos ho]
 have n26:¬op=26:=by omega
 have n209:¬op=209:=by omega
 simp only[if_neg n26,if_neg n209]
 have hw0:=dx hwf [1]
 have ht0:=dw s [1]
 refine aj (l:=[_,_]) Tryz.func58 rfl Tryz.ntmps58 rfl (Ok.bW hw) ?_;unfold dr;generalize hS:Mb (ay sp s (tv,pv))=S0;dsimp only[ay]
 repeat'(first|refine ax ?_|(refine gh fun b_ _=>?_)|(refine aO ?_ ?_<;>intro hc_))
 obtain⟨b0,rfl⟩:∃y:Nat,y=b_:=⟨_,rfl⟩
 refine aa.freeze (q:=.aJ b0 [.int .i64 1] fl) (fun w=>af (fun k=>k=b0) w (.slice (some ⟨b0,0,none⟩) 1 1) [1]) hU (fun w' h _=>fg h) ?_
 refine aa.he (HE.aW (M0:=ay sp s (tv,pv)) cE rfl rfl (fun w' hw'=>dX (fun k=>k=b0) sp s (tv,pv) (.slice (some ⟨b0,0,none⟩) 1 1) [1] w' (hw'.bV cT aY) hp h0 hle)) rfl ?_
 rintro⟨tv0,pv0⟩ _
 obtain⟨r0,hr0⟩:∃r,aT s [1]=r:=⟨_,rfl⟩
 rw[hr0]at hw0 ht0 ⊢
 obtain⟨s0,e0⟩:=r0
 dsimp only[ay,List.cons_append,List.nil_append]at hw0 ht0 ⊢
 by_cases m6:e0=0
 ·subst m6
  repeat rw[if_neg (show¬((0:Int)≠0)from fun h=>h rfl)]
  repeat'(first|refine ax ?_|(refine aO ?_ ?_<;>intro hc_))
  refine aa.he (HE.aW (M0:=ay sp s0 (tv0,pv0)) cE rfl rfl (fun w' hw'=>jJ sp s0 (tv0,pv0) w' (hw'.bV cT (fun p hp=>absurd hp Hc)) hw0.some hw0.at_.1)) rfl ?_
  rintro⟨tv1,pv1⟩ _
  obtain⟨pr1,hpr1⟩:∃r,aZ s0=r:=⟨_,rfl⟩
  have wf1:(aZ s0).1.Wf:=kc hw0
  have tl1:(aZ s0).1.ts.length≤s0.ts.length:=kb s0
  rw[hpr1]at wf1 tl1 ⊢
  obtain⟨s1,a1,e1⟩:=pr1
  dsimp only[ay,List.cons_append,List.nil_append]at wf1 tl1 ⊢
  by_cases he:e1=0
  ·subst he
   repeat rw[if_neg (show¬((0:Int)≠0)from fun h=>h rfl)]
   repeat'(first|refine ax ?_|(refine aO ?_ ?_<;>intro hc_))
   refine t8 ?_
   rintro⟨tv2,pv2⟩ _
   obtain⟨pr2,hpr2⟩:∃r,aZ s1=r:=⟨_,rfl⟩
   have AN:(aZ s1).1.Wf:=kc wf1
   have tl2:(aZ s1).1.ts.length≤s1.ts.length:=kb s1
   rw[hpr2]at AN tl2 ⊢
   obtain⟨s2,a2,e2⟩:=pr2
   dsimp only[ay,List.cons_append,List.nil_append]at AN tl2 ⊢
   by_cases he2:e2=0
   ·subst he2
    repeat rw[if_neg (show¬((0:Int)≠0)from fun h=>h rfl)]
    cases ra:nk a1 with
    |true=>
     have k1:∀w',Calls G.P 97 #[.int .i64 a1] w' fun e w2=>e=.returned (.bool true)∧Ext w' w2:=fun w'=>by have:=mV a1 w';rwa[ra]at this
     have hbad:a1=3∨a1=4∨a2=3∨a2=4∨(a1≠a2∧a1≠0∧a2≠0):=by unfold nk at ra;simp only[Bool.or_eq_true,decide_eq_true_eq]at ra;omega
     repeat rw[if_pos hbad]
     clear hbad ra
     repeat'(first|refine ax ?_|refine GE ?_|(refine aO ?_ ?_<;>intro hc_))
     all_goals exact em
    |false=>
     have k1:∀w',Calls G.P 97 #[.int .i64 a1] w' fun e w2=>e=.returned (.bool false)∧Ext w' w2:=fun w'=>by have:=mV a1 w';rwa[ra]at this
     have n1:a1≠3∧a1≠4:=by unfold nk at ra;simp only[Bool.or_eq_false_iff,decide_eq_false_iff_not]at ra;exact ra
     obtain⟨n13,n14⟩:=n1
     clear ra
     cases rb:nk a2 with
     |true=>
      have k2:∀w',Calls G.P 97 #[.int .i64 a2] w' fun e w2=>e=.returned (.bool true)∧Ext w' w2:=fun w'=>by have:=mV a2 w';rwa[rb]at this
      have hbad:a1=3∨a1=4∨a2=3∨a2=4∨(a1≠a2∧a1≠0∧a2≠0):=by unfold nk at rb;simp only[Bool.or_eq_true,decide_eq_true_eq]at rb;omega
      repeat rw[if_pos hbad]
      clear hbad rb
      repeat'(first|refine ax ?_|refine GE ?_|(refine aa.dV (f:=97) Hd rfl rfl rfl (fun w' _=>k2 w') ?_)|(refine aO ?_ ?_<;>intro hc_))
      all_goals exact em
     |false=>
      have k2:∀w',Calls G.P 97 #[.int .i64 a2] w' fun e w2=>e=.returned (.bool false)∧Ext w' w2:=fun w'=>by have:=mV a2 w';rwa[rb]at this
      have n2:a2≠3∧a2≠4:=by unfold nk at rb;simp only[Bool.or_eq_false_iff,decide_eq_false_iff_not]at rb;exact rb
      obtain⟨n23,n24⟩:=n2
      clear rb
      by_cases z:a1≠a2∧a1≠0∧a2≠0
      ·repeat rw[if_pos (show a1=3∨a1=4∨a2=3∨a2=4∨(a1≠a2∧a1≠0∧a2≠0)from .inr (.inr (.inr (.inr z))))]
       obtain⟨q1,q2,q3⟩:=z
       repeat'(first|refine ax ?_|refine GE ?_|(refine aa.dV (f:=97) Hd rfl rfl rfl (fun w' _=>k2 w') ?_)|(refine aO ?_ ?_<;>intro hc_))
       all_goals exact em
      ·repeat rw[if_neg (show¬(a1=3∨a1=4∨a2=3∨a2=4∨(a1≠a2∧a1≠0∧a2≠0))from fun h=>by rcases h with h|h|h|h|h;exact n13 h;exact n14 h;exact n23 h;exact n24 h;exact z h)]
       have hfin:(s2.ts.length+1)*8≤140737488355328:=by clear n13 n14 n23 n24 n26 n209 z;omega
       clear n13 n14 n23 n24 n26 n209 hr0 hpr1 hpr2 ht0 tl1 tl2 hb
       have wf2s:=AN.some
       by_cases z1:a1=0
       ·subst z1
        rw[if_pos rfl]
        clear z
        repeat'(first|refine ax ?_|refine GE ?_|(refine aa.dV (f:=97) Hd rfl rfl rfl (fun w' _=>k2 w') ?_)|(refine gh fun b_ _=>?_)|(refine aO ?_ ?_<;>intro hc_))
        all_goals first|(exfalso;omega)|skip
        all_goals
         obtain⟨bl,rfl⟩:∃y:Nat,y=b_:=⟨_,rfl⟩
         try simp only[List.getElem_toArray,List.getElem_cons_succ,List.getElem_cons_zero]
         refine aa.freeze (q:=.aJ bl [.int .i64 a2] fl) (fun w=>af (fun k=>k=bl) w (.slice (some ⟨bl,0,none⟩) 1 1) [a2]) hU (fun w' h _=>fg h) ?_
         refine aa.he (HE.aW (M0:=ay sp s2 (tv2,pv2)) cE rfl rfl (fun w' hw'=>eB (fun k=>k=bl) sp s2 (tv2,pv2) (.slice (some ⟨bl,0,none⟩) 1 1) [a2] w' (hw'.bV cT aY) wf2s (by show(s2.ts.length+1)*8≤_;omega))) rfl ?_
         rintro⟨tv3,pv3⟩ _
         dsimp only[ay,List.cons_append,List.nil_append]
         repeat'(first|refine ax ?_|(refine aO ?_ ?_<;>intro hc_))
         all_goals exact ex
       ·rw[if_neg z1]
        by_cases z2:a1=a2
        ·subst z2
         clear z
         repeat'(first|refine ax ?_|refine GE ?_|(refine aa.dV (f:=97) Hd rfl rfl rfl (fun w' _=>k2 w') ?_)|(refine gh fun b_ _=>?_)|(refine aO ?_ ?_<;>intro hc_))
         all_goals first|(exfalso;omega)|skip
         all_goals
          obtain⟨bl,rfl⟩:∃y:Nat,y=b_:=⟨_,rfl⟩
          try simp only[List.getElem_toArray,List.getElem_cons_succ,List.getElem_cons_zero]
          refine aa.freeze (q:=.aJ bl [.int .i64 a1] fl) (fun w=>af (fun k=>k=bl) w (.slice (some ⟨bl,0,none⟩) 1 1) [a1]) hU (fun w' h _=>fg h) ?_
          refine aa.he (HE.aW (M0:=ay sp s2 (tv2,pv2)) cE rfl rfl (fun w' hw'=>eB (fun k=>k=bl) sp s2 (tv2,pv2) (.slice (some ⟨bl,0,none⟩) 1 1) [a1] w' (hw'.bV cT aY) wf2s (by show(s2.ts.length+1)*8≤_;omega))) rfl ?_
          rintro⟨tv3,pv3⟩ _
          dsimp only[ay,List.cons_append,List.nil_append]
          repeat'(first|refine ax ?_|(refine aO ?_ ?_<;>intro hc_))
          all_goals exact ex
        ·have z3:a2=0:=Classical.byContradiction fun h=>z ⟨z2,z1,h⟩
         subst z3
         clear z
         repeat'(first|refine ax ?_|refine GE ?_|(refine aa.dV (f:=97) Hd rfl rfl rfl (fun w' _=>k2 w') ?_)|(refine gh fun b_ _=>?_)|(refine aO ?_ ?_<;>intro hc_))
         all_goals first|(exfalso;omega)|skip
         all_goals
          obtain⟨bl,rfl⟩:∃y:Nat,y=b_:=⟨_,rfl⟩
          try simp only[List.getElem_toArray,List.getElem_cons_succ,List.getElem_cons_zero]
          refine aa.freeze (q:=.aJ bl [.int .i64 a1] fl) (fun w=>af (fun k=>k=bl) w (.slice (some ⟨bl,0,none⟩) 1 1) [a1]) hU (fun w' h _=>fg h) ?_
          refine aa.he (HE.aW (M0:=ay sp s2 (tv2,pv2)) cE rfl rfl (fun w' hw'=>eB (fun k=>k=bl) sp s2 (tv2,pv2) (.slice (some ⟨bl,0,none⟩) 1 1) [a1] w' (hw'.bV cT aY) wf2s (by show(s2.ts.length+1)*8≤_;omega))) rfl ?_
          rintro⟨tv3,pv3⟩ _
          dsimp only[ay,List.cons_append,List.nil_append]
          repeat'(first|refine ax ?_|(refine aO ?_ ?_<;>intro hc_))
          all_goals exact ex
   ·repeat rw[if_pos he2]
    repeat'(first|refine ax ?_|(refine aO ?_ ?_<;>intro hc_))
    all_goals exact em
  ·repeat rw[if_pos he]
   repeat'(first|refine ax ?_|(refine aO ?_ ?_<;>intro hc_))
   all_goals exact fd
 ·repeat rw[if_pos m6]
  repeat'(first|refine ax ?_|(refine aO ?_ ?_<;>intro hc_))
  all_goals first|omega|exact ai.aA rfl rfl fun w' hw'=>aq.mM (x:=(tv0,pv0)) trivial hS hw' cT ao
theorem xC (sp:Nat) (s:cZ) (y:Value×Value) (op:Int) (ho:kP op) (w:World) (hw:Ok (ay sp s y) [] w) (hwf:s.Wf) (hb:(s.ts.length+1)*8≤140737488355328):Calls G.P 58 #[.pointer (some ⟨sp,0,none⟩),.int .i64 op] w (dr sp s y (.int .i64 (fq s op).2) (fq s op).1 w):=by
 unfold kP at ho
 rcases ho with h|h|h
 ·have:=ss sp s y op h w hw hwf
  have e:fq s op=((aZ s).1,(aZ s).2.2):=by
   unfold fq
   have n27:¬op=27:=by omega
   simp only[if_neg n27,if_pos h]
   by_cases h2:(aZ s).2.2=0
   ·simp[h2]
   ·simp[h2]
  rw[e];exact this
 ·exact su sp s y op h w hw hwf hb
 ·have:=qq sp s y op h w hw hwf hb
  have e:fq s op=(if(aZ s).2.2≠0 then(aZ s).1 else if(aZ s).2.1=1∨(aZ s).2.1=2 then(aZ s).1 else gg (aZ s).1 [1],if(aZ s).2.2≠0 then(aZ s).2.2 else if(aZ s).2.1=1∨(aZ s).2.1=2 then 12 else 0):=by
   unfold fq
   have n27:¬op=27:=by omega
   have n26:¬op=26:=by omega
   simp only[if_neg n27,if_neg n26,if_pos h]
   by_cases h2:(aZ s).2.2=0
   ·by_cases h3:(aZ s).2.1=1∨(aZ s).2.1=2
    ·simp[h2,h3]
    ·simp[h2,h3]
   ·simp[h2]
  rw[e];exact this
section
variable {n:Nat} {E:Env} {M:List aV} {R:List (World→Prop)} {f:Nat} {args:List Operand} {tys:Array TypeId} {vs:List Value}
theorem HE.B7 {r:Option aE} (hf:G.fb[f]?=some true) (ha:ju E args=some vs) (hc:∀w,Ok M R w→Calls G.P f vs.toArray w (kD r (fun _=>False) w)):
  HE n (.call ⟨.value (.func f),args.toArray,tys⟩) E M R (fun _:zF=>True) (fun x=>.tuple #[.agg #[.slice x.p (r.getD gG).params.length x.c,.slice x.q (r.getD gG).results.length x.d],.bool r.isSome]) (fun _=>M) (fun x=>uw (r.getD gG) x::R):=
 ⟨fun w hw=>(bB.call hf ha (hc w hw) (fun e w' h=>by obtain⟨⟨x,e1,_⟩,_⟩:=h;exact⟨_,e1⟩)).mono fun v w' ⟨⟨⟨x1,x2⟩,e1,hv⟩,hx⟩=>by
  cases e1
  obtain⟨⟨p,c,rfl⟩,⟨q,d,rfl⟩⟩:=hv.shape
  refine⟨⟨fun k=>False∨w.heap.size≤k,p,c,q,d⟩,trivial,rfl,(hw.ext hx).add fun w2 h2=>fa.fr _ hv h2 fun k _ hk hm=>?_⟩
  rcases hk with hk|hk
  ·exact hk
  ·obtain⟨q,hq,hk'⟩:=hm
   have:=(hw.m q hq).2 k hk';omega⟩
end
theorem pq {g g':Prop} (h:g') (hw:ek g'→g:=by(intro hk_;(first|refine GD ?_|refine Gw ?_|refine Gv ?_);exact hk_.out)):g:=hw ⟨h⟩
set_option maxHeartbeats 8000000 in
theorem n8 (B:Nat) (F:Nat→Prop) (cp:Nat) (c:dq) (v:fU) (m:ae) (locals:List Int) (sv:Value) (x:bP) (lp pt pl:Option Addr) (lc ct cl:Nat) (w:World) (hw:Ok (aw cp c v) (mj B F m sv locals (.slice lp locals.length lc) x (.slice pt x.types.length ct) (.slice pl x.labels.length cl)) w) (hg:v.Good c) (hwf:c.Wf) (hb:c.broken=0) (hp:db x=true) (hop:x.op=5) (hfl:c.fs.length≤1000) (hts:(c.aG.ts.length+c.top.par.length)*8≤140737488355328):Calls G.P 35 #[.pointer (some ⟨cp,0,none⟩),sv,.slice lp locals.length lc,.agg #[Value.int .i64 x.op,Value.int .i64 x.a,Value.int .i64 x.b,Value.int .u64 x.n,Value.int .i64 x.kind,Value.int .i64 x.val,Value.int .i64 x.index,Value.slice pt x.types.length ct,Value.slice pl x.labels.length cl]] w (ar (aw cp c v) cp (mH c) w):=by
 refine aj (l:=[_,_,_,_]) Tryz.func35 rfl Tryz.ntmps35 rfl (Ok.bW hw) ?_;generalize hS:Mb (aw cp c v)=S0;unfold mj;obtain⟨sp,tv,pv,bv,rv,fv,D,L⟩:=v;dsimp only[aw,ay,List.cons_append,List.nil_append];have hno:=fun w' M (hw':Ok M _ w')=>jc (B:=B) (F:=F) (m:=m) (locals:=locals) (sv:=sv) (lv:=.slice lp locals.length lc) (x:=x) (pt:=pt) (pl:=pl) (ct:=ct) (cl:=cl) hw';rw[hp]at hno
 obtain⟨r,hr⟩:∃r,mH c=r:=⟨_,rfl⟩
 have hk:∀w',Ok (aw cp c ⟨sp,tv,pv,bv,rv,fv,D,L⟩) [] w'→Calls G.P 54 #[.pointer (some ⟨cp,0,none⟩)] w' (ar (aw cp c ⟨sp,tv,pv,bv,rv,fv,D,L⟩) cp r w'):=fun w' hw'=>by rw[←hr];exact wK cp c ⟨sp,tv,pv,bv,rv,fv,D,L⟩ w' hw' hg hb hwf hfl hts
 rw[hr]
 clear hr
 obtain⟨c1,e1⟩:=r
 by_cases he1:e1=0
 ·subst he1
  repeat'(first|refine ax ?_|(refine bz fun b_=>?_)|refine pq ?_|fail)
  all_goals first|(exfalso;omega)|skip
  refine ul ?_
  rintro⟨sp1,tv1,pv1,bv1,rv1,fv1,D1,L1⟩ hg1
  dsimp only[aw,ay,List.cons_append,List.nil_append]at hg1 ⊢
  repeat'(first|refine ax ?_|fail)
  all_goals exact f8
 ·repeat'(first|refine ax ?_|(refine bz fun b_=>?_)|refine pq ?_|fail)
  all_goals first|(exfalso;omega)|skip
  refine ut ?_
  rintro _ _
  dsimp only[List.nil_append]
  repeat'(first|refine ax ?_|fail)
  all_goals exact gc
set_option maxHeartbeats 8000000 in
theorem pD (B:Nat) (F:Nat→Prop) (cp:Nat) (c:dq) (v:fU) (m:ae) (locals:List Int) (sv:Value) (x:bP) (lp pt pl:Option Addr) (lc ct cl:Nat) (w:World) (hw:Ok (aw cp c v) (mj B F m sv locals (.slice lp locals.length lc) x (.slice pt x.types.length ct) (.slice pl x.labels.length cl)) w) (hg:v.Good c) (hwf:c.Wf) (hb:c.broken=0) (hp:db x=true) (hop:x.op=11) (hfl:c.fs.length≤1000) (hts:(c.aG.ts.length+c.top.res.length)*8≤140737488355328):Calls G.P 35 #[.pointer (some ⟨cp,0,none⟩),sv,.slice lp locals.length lc,.agg #[Value.int .i64 x.op,Value.int .i64 x.a,Value.int .i64 x.b,Value.int .u64 x.n,Value.int .i64 x.kind,Value.int .i64 x.val,Value.int .i64 x.index,Value.slice pt x.types.length ct,Value.slice pl x.labels.length cl]] w (ar (aw cp c v) cp (jY c) w):=by
 refine aj (l:=[_,_,_,_]) Tryz.func35 rfl Tryz.ntmps35 rfl (Ok.bW hw) ?_;generalize hS:Mb (aw cp c v)=S0;unfold mj;obtain⟨sp,tv,pv,bv,rv,fv,D,L⟩:=v;dsimp only[aw,ay,List.cons_append,List.nil_append];have hno:=fun w' M (hw':Ok M _ w')=>jc (B:=B) (F:=F) (m:=m) (locals:=locals) (sv:=sv) (lv:=.slice lp locals.length lc) (x:=x) (pt:=pt) (pl:=pl) (ct:=ct) (cl:=cl) hw';rw[hp]at hno
 obtain⟨r,hr⟩:∃r,jY c=r:=⟨_,rfl⟩
 have hk:∀w',Ok (aw cp c ⟨sp,tv,pv,bv,rv,fv,D,L⟩) [] w'→Calls G.P 55 #[.pointer (some ⟨cp,0,none⟩)] w' (ar (aw cp c ⟨sp,tv,pv,bv,rv,fv,D,L⟩) cp r w'):=fun w' hw'=>by rw[←hr];exact uJ cp c ⟨sp,tv,pv,bv,rv,fv,D,L⟩ w' hw' hg hb hwf hfl hts
 rw[hr]
 clear hr
 obtain⟨c1,e1⟩:=r
 by_cases he1:e1=0
 ·subst he1
  repeat'(first|refine ax ?_|(refine bz fun b_=>?_)|refine pq ?_|fail)
  all_goals first|(exfalso;omega)|skip
  refine ul ?_
  rintro⟨sp1,tv1,pv1,bv1,rv1,fv1,D1,L1⟩ hg1
  dsimp only[aw,ay,List.cons_append,List.nil_append]at hg1 ⊢
  repeat'(first|refine ax ?_|fail)
  all_goals exact f8
 ·repeat'(first|refine ax ?_|(refine bz fun b_=>?_)|refine pq ?_|fail)
  all_goals first|(exfalso;omega)|skip
  refine ut ?_
  rintro _ _
  dsimp only[List.nil_append]
  repeat'(first|refine ax ?_|fail)
  all_goals exact gc
set_option maxHeartbeats 8000000 in
theorem n9 (B:Nat) (F:Nat→Prop) (cp:Nat) (c:dq) (v:fU) (m:ae) (locals:List Int) (sv:Value) (x:bP) (lp pt pl:Option Addr) (lc ct cl:Nat) (w:World) (hw:Ok (aw cp c v) (mj B F m sv locals (.slice lp locals.length lc) x (.slice pt x.types.length ct) (.slice pl x.labels.length cl)) w) (hg:v.Good c) (hwf:c.Wf) (hb:c.broken=0) (hp:db x=true) (hop:jumps x.op) (hres:c.results.length≤100000000000) (hlb:∀n,(bU c n).1.length≤100000000000) (hll:x.labels.length≤10000000) (hts:c.aG.ts.length≤1000000000000):Calls G.P 35 #[.pointer (some ⟨cp,0,none⟩),sv,.slice lp locals.length lc,.agg #[Value.int .i64 x.op,Value.int .i64 x.a,Value.int .i64 x.b,Value.int .u64 x.n,Value.int .i64 x.kind,Value.int .i64 x.val,Value.int .i64 x.index,Value.slice pt x.types.length ct,Value.slice pl x.labels.length cl]] w (ar (aw cp c v) cp (k9 c x) w):=by
 have hI:=hw.get (p:=fun w=>af F w (.slice pl x.labels.length cl) x.labels) G9
 refine aj (l:=[_,_,_,_]) Tryz.func35 rfl Tryz.ntmps35 rfl (Ok.bW hw) ?_;generalize hS:Mb (aw cp c v)=S0;unfold mj;obtain⟨sp,tv,pv,bv,rv,fv,D,L⟩:=v;dsimp only[aw,ay,List.cons_append,List.nil_append];have hno:=fun w' M (hw':Ok M _ w')=>jc (B:=B) (F:=F) (m:=m) (locals:=locals) (sv:=sv) (lv:=.slice lp locals.length lc) (x:=x) (pt:=pt) (pl:=pl) (ct:=ct) (cl:=cl) hw';rw[hp]at hno
 have hop':=hop
 unfold jumps at hop
 rcases hop with hop|hop|hop|hop
 all_goals
  obtain⟨r,hr⟩:∃r,k9 c x=r:=⟨_,rfl⟩
  have hk:∀w',Ok (aw cp c ⟨sp,tv,pv,bv,rv,fv,D,L⟩) [fun w=>af F w (.slice pl x.labels.length cl) x.labels] w'→Calls G.P 57 #[.pointer (some ⟨cp,0,none⟩),.agg #[Value.int .i64 x.op,Value.int .i64 x.a,Value.int .i64 x.b,Value.int .u64 x.n,Value.int .i64 x.kind,Value.int .i64 x.val,Value.int .i64 x.index,Value.slice pt x.types.length ct,Value.slice pl x.labels.length cl]] w' (ar (aw cp c ⟨sp,tv,pv,bv,rv,fv,D,L⟩) cp r w'):=fun w' hw'=>by rw[←hr];exact tS F cp c ⟨sp,tv,pv,bv,rv,fv,D,L⟩ x pt pl ct cl w' hw' hg hb hwf hres hlb hll hop' hts
  rw[hr]
  clear hr
  obtain⟨c1,e1⟩:=r
  by_cases he1:e1=0
  ·subst he1
   repeat'(first|refine ax ?_|(refine bz fun b_=>?_)|refine pq ?_|fail)
   all_goals first|(exfalso;omega)|skip
   refine ul ?_
   rintro⟨sp1,tv1,pv1,bv1,rv1,fv1,D1,L1⟩ hg1
   dsimp only[aw,ay,List.cons_append,List.nil_append]at hg1 ⊢
   repeat'(first|refine ax ?_|fail)
   all_goals exact f8
  ·repeat'(first|refine ax ?_|(refine bz fun b_=>?_)|refine pq ?_|fail)
   all_goals first|(exfalso;omega)|skip
   refine ut ?_
   rintro _ _
   dsimp only[List.nil_append]
   repeat'(first|refine ax ?_|fail)
   all_goals exact gc
theorem zi {g g':Prop} (h:g') (hw:ek g'→g:=by(intro hk_;(first|refine Gw ?_|refine Gv ?_);exact hk_.out)):g:=hw ⟨h⟩
set_option maxHeartbeats 8000000 in
theorem oa (B:Nat) (F:Nat→Prop) (cp:Nat) (c:dq) (v:fU) (m:ae) (locals:List Int) (sv:Value) (x:bP) (lp pt pl:Option Addr) (lc ct cl:Nat) (w:World) (hw:Ok (aw cp c v) (mj B F m sv locals (.slice lp locals.length lc) x (.slice pt x.types.length ct) (.slice pl x.labels.length cl)) w) (hg:v.Good c) (hwf:c.Wf) (hb:c.broken=0) (hp:db x=true) (hop:opens x.op) (hfl:c.fs.length≤1000) (hts:∀f,dD m x.kind x.val x.index=some f→(c.aG.ts.length+f.params.length)*8≤140737488355328):Calls G.P 35 #[.pointer (some ⟨cp,0,none⟩),sv,.slice lp locals.length lc,.agg #[Value.int .i64 x.op,Value.int .i64 x.a,Value.int .i64 x.b,Value.int .u64 x.n,Value.int .i64 x.kind,Value.int .i64 x.val,Value.int .i64 x.index,Value.slice pt x.types.length ct,Value.slice pl x.labels.length cl]] w (ar (aw cp c v) cp (match dD m x.kind x.val x.index with|none=>(c,11)|some f=>iu c x.op f.params f.results) w):=by
 refine aj (l:=[_,_,_,_]) Tryz.func35 rfl Tryz.ntmps35 rfl (Ok.bW hw) ?_;generalize hS:Mb (aw cp c v)=S0;unfold mj;obtain⟨sp,tv,pv,bv,rv,fv,D,L⟩:=v;dsimp only[aw,ay,List.cons_append,List.nil_append];have hno:=fun w' M (hw':Ok M _ w')=>jc (B:=B) (F:=F) (m:=m) (locals:=locals) (sv:=sv) (lv:=.slice lp locals.length lc) (x:=x) (pt:=pt) (pl:=pl) (ct:=ct) (cl:=cl) hw';rw[hp]at hno
 have hbl:=fun w' M (hw':Ok M [fun w=>aR B m w sv] w')=>kU B m sv x.kind x.val x.index w' (hw'.get (p:=fun w=>aR B m w sv) Hc)
 generalize dD m x.kind x.val x.index=r at hbl hts ⊢
 have hop':=hop
 unfold opens at hop
 cases r with
 |none=>
  dsimp only
  rcases hop with hop|hop|hop
  all_goals
   repeat'(first|refine ax ?_|(refine bz fun b_=>?_)|refine GD ?_|(refine aX fun b_=>?_)|refine zi ?_|(refine aa.ak (f:=52) ?_;refine aa.he (HE.B7 (r:=none) rfl rfl (fun w' hw'=>hbl w' _ (hw'.sub (List.Sublist.refl _) aY))) rfl ?_;rintro⟨D_,p_,c_,q_,d_⟩ _;dsimp only[Option.isSome,Option.getD])|fail)
   all_goals first|omega|exact ai.aA rfl rfl fun w' hw'=>ar.err 11 rfl Ha hS hw' ao
 |some f=>
  dsimp only
  have hts:=hts f rfl
  rcases hop with hop|hop|hop
  all_goals
   obtain⟨r,hr⟩:∃r,iu c x.op f.params f.results=r:=⟨_,rfl⟩
   have hk:∀(D_:Nat→Prop) (p_ q_:Option Addr) (c_ d_:Nat) w',Ok (aw cp c ⟨sp,tv,pv,bv,rv,fv,D,L⟩) [uw f ⟨D_,p_,c_,q_,d_⟩] w'→Calls G.P 53 #[.pointer (some ⟨cp,0,none⟩),.int .i64 x.op,.agg #[.slice p_ f.params.length c_,.slice q_ f.results.length d_]] w' (ar (aw cp c ⟨sp,tv,pv,bv,rv,fv,D,L⟩) cp r w'):=fun D_ p_ q_ c_ d_ w' hw'=>by rw[←hr];exact uI D_ cp c ⟨sp,tv,pv,bv,rv,fv,D,L⟩ x.op f.params f.results (.slice p_ f.params.length c_,.slice q_ f.results.length d_) w' hw' hg hb hwf hop' hfl hts
   rw[hr]
   clear hr
   obtain⟨c1,e1⟩:=r
   by_cases he1:e1=0
   ·subst he1
    repeat'(first|refine ax ?_|(refine bz fun b_=>?_)|refine GD ?_|(refine aX fun b_=>?_)|refine zi ?_|(refine aa.ak (f:=52) ?_;refine aa.he (HE.B7 (r:=some f) rfl rfl (fun w' hw'=>hbl w' _ (hw'.sub (List.Sublist.refl _) aY))) rfl ?_;rintro⟨D_,p_,c_,q_,d_⟩ _;dsimp only[Option.isSome,Option.getD])|fail)
    all_goals first|(exfalso;omega)|skip
    refine aa.he (HE.aW (M0:=aw cp c ⟨sp,tv,pv,bv,rv,fv,D,L⟩) cE rfl rfl (fun w' hw'=>(hk D_ p_ q_ c_ d_ w' (hw'.bV cT aY)).mono fun _ _ h=>h.wS rfl)) rfl ?_
    rintro⟨sp1,tv1,pv1,bv1,rv1,fv1,D1,L1⟩ hg1
    dsimp only[aw,ay,List.cons_append,List.nil_append]at hg1 ⊢
    repeat'(first|refine ax ?_|fail)
    all_goals exact f8
   ·repeat'(first|refine ax ?_|(refine bz fun b_=>?_)|refine GD ?_|(refine aX fun b_=>?_)|refine zi ?_|(refine aa.ak (f:=52) ?_;refine aa.he (HE.B7 (r:=some f) rfl rfl (fun w' hw'=>hbl w' _ (hw'.sub (List.Sublist.refl _) aY))) rfl ?_;rintro⟨D_,p_,c_,q_,d_⟩ _;dsimp only[Option.isSome,Option.getD])|fail)
    all_goals first|(exfalso;omega)|skip
    refine aa.he (HE.aW (M0:=aw cp c ⟨sp,tv,pv,bv,rv,fv,D,L⟩) cE rfl rfl (fun w' hw'=>(hk D_ p_ q_ c_ d_ w' (hw'.bV cT aY)).mono fun _ _ h=>h.bad (q:=e1) rfl he1)) rfl ?_
    rintro _ _
    dsimp only[List.nil_append]
    repeat'(first|refine ax ?_|fail)
    all_goals exact gc
set_option maxHeartbeats 8000000 in
theorem oc (B:Nat) (F:Nat→Prop) (cp:Nat) (c:dq) (v:fU) (m:ae) (locals:List Int) (sv:Value) (x:bP) (lp pt pl:Option Addr) (lc ct cl:Nat) (w:World) (hw:Ok (aw cp c v) (mj B F m sv locals (.slice lp locals.length lc) x (.slice pt x.types.length ct) (.slice pl x.labels.length cl)) w) (hg:v.Good c) (hwf:c.Wf) (_hb:c.broken=0) (hp:db x=true) (hop:kP x.op) (hts:(c.aG.ts.length+1)*8≤140737488355328):Calls G.P 35 #[.pointer (some ⟨cp,0,none⟩),sv,.slice lp locals.length lc,.agg #[Value.int .i64 x.op,Value.int .i64 x.a,Value.int .i64 x.b,Value.int .u64 x.n,Value.int .i64 x.kind,Value.int .i64 x.val,Value.int .i64 x.index,Value.slice pt x.types.length ct,Value.slice pl x.labels.length cl]] w (ar (aw cp c v) cp ({c with aG:=(fq c.aG x.op).1},(fq c.aG x.op).2) w):=by
 refine aj (l:=[_,_,_,_]) Tryz.func35 rfl Tryz.ntmps35 rfl (Ok.bW hw) ?_;generalize hS:Mb (aw cp c v)=S0;unfold mj;obtain⟨sp,tv,pv,bv,rv,fv,D,L⟩:=v;dsimp only[aw,ay,List.cons_append,List.nil_append];have hno:=fun w' M (hw':Ok M _ w')=>jc (B:=B) (F:=F) (m:=m) (locals:=locals) (sv:=sv) (lv:=.slice lp locals.length lc) (x:=x) (pt:=pt) (pl:=pl) (ct:=ct) (cl:=cl) hw';rw[hp]at hno
 have hop':=hop
 unfold kP at hop
 rcases hop with hop|hop|hop
 all_goals
  repeat'(first|refine ax ?_|(refine bz fun b_=>?_)|refine pq ?_|fail)
  all_goals first|(exfalso;omega)|skip
  refine aQ.de [.aJ b_ [Value.int .i64 x.op,Value.int .i64 x.a,Value.int .i64 x.b,Value.int .u64 x.n,Value.int .i64 x.kind,Value.int .i64 x.val,Value.int .i64 x.index,Value.slice pt x.types.length ct,Value.slice pl x.labels.length cl] DW] [] bN aY ?_
  repeat'(first|refine uo ?_|(refine aI.eU 29 ?_;refine aI.he rfl rfl (HE.kp rfl rfl (fun w' hw'=>cW cp ⟨sp,0,none⟩ w' (hw'.c1 bJ Hd))) (fun _=>bN) (fun _=>aY) ?_;rintro⟨⟩ _)|(refine aI.eU 58 ?_;refine aI.he rfl rfl (HE.aW (M0:=ay sp c.aG (tv,pv)) cE rfl rfl (fun w' hw'=>xC sp c.aG (tv,pv) x.op hop' w' (hw'.bV cT (fun p hp=>absurd hp Hc)) hwf.aG hts)) (fun _=>by dsimp only[ay,List.cons_append,List.nil_append];exact bN) (fun _=>aY) ?_;rintro⟨tvb,pvb⟩ _;dsimp only[ay,List.cons_append,List.nil_append])|refine aK.nil G6 ?_|refine aK.any G6 ?_|exact aC.fin rfl|refine aC.skip G6 ?_|refine aC.go ?_ ?_)
  all_goals
   repeat'(first|refine ax ?_|fail)
   exact ai.aA rfl rfl fun w' hw'=>by
    by_cases h2:(fq c.aG x.op).2=0
    ·have:=ar.ok (cp:=cp) (r:=({c with aG:=(fq c.aG x.op).1},(fq c.aG x.op).2)) (⟨sp,tvb,pvb,bv,rv,fv,D,L⟩:fU) h2 ⟨hg.len,hg.fr,hg.rs⟩ hS hw' GP ao
     rw[show Value.int .i64 (fq c.aG x.op).2=.int .i64 0 by rw[h2]];exact this
    ·exact ar.err _ rfl h2 hS hw' ao
theorem Au (op t:Int) (s:List UInt8):(fi op t s).params.length≤3∧(fi op t s).results.length≤3:=by
 unfold fi
 repeat' split
 all_goals(dsimp only[List.length_cons,List.length_nil];omega)
theorem AH (op:Int):((gk op).getD gG).params.length≤3∧((gk op).getD gG).results.length≤3:=by
 unfold gk
 repeat' split
 all_goals first|exact⟨by decide,by decide⟩|exact Au _ _ _|(dsimp only[Option.getD_some,Option.getD_none,gG,List.length_cons,List.length_nil];omega)
def vD (K:Nat) (fs:List nw):Prop:=∀f∈fs,f.par.length≤K∧f.res.length≤K
theorem vD.ix {K:Nat} {fs:List nw} (h:vD K fs) {i:Nat} (hi:i<fs.length):(Go.Proofs.YtceedealggognaaGreatDoor.ix fs i).par.length≤K∧(Go.Proofs.YtceedealggognaaGreatDoor.ix fs i).res.length≤K:=by
 rw[cw hi];exact h _ (List.getElem_mem hi)
theorem vD.top {K:Nat} {c:dq} (h:vD K c.fs):c.top.par.length≤K∧c.top.res.length≤K:=by
 unfold dq.top
 by_cases h0:c.fs.length=0
 ·have:c.fs=[]:=List.eq_nil_of_length_eq_zero h0
  rw[this];exact⟨Nat.zero_le _,Nat.zero_le _⟩
 ·exact h.ix Hb
theorem vD.snoc {K:Nat} {fs:List nw} {f:nw} (h:vD K fs) (h1:f.par.length≤K) (h2:f.res.length≤K):vD K (fs++[f]):=fun g hg=>by
 rcases List.mem_append.1 hg with hg|hg
 ·exact h g hg
 ·rw[List.mem_singleton]at hg;subst hg;exact⟨h1,h2⟩
theorem vD.take {K:Nat} {fs:List nw} (h:vD K fs) (n:Nat):vD K (fs.take n):=fun f hf=>h f (List.mem_of_mem_take hf)
theorem vD.label {K:Nat} {c:dq} (h:vD K c.fs) (n:Int):(bU c n).1.length≤K:=by
 unfold bU
 split
 ·exact Nat.zero_le _
 ·split
  ·exact Nat.zero_le _
  ·rename_i hn
   have:=h.ix (i:=c.fs.length - 1 - n.toNat) Hb
   dsimp only
   split
   ·exact this.1
   ·exact this.2
structure gI (K L:Nat) (c:dq):Prop where
 wf:c.Wf
 bk:c.broken=0
 fit:c.aG.Fit
 fr:vD K c.fs
 ts:c.aG.ts.length≤L
theorem qV (s:cZ):(gA s).ts.length≤s.ts.length:=by unfold gA;rw[List.length_take];omega
theorem uT {s:cZ} (h:s.Fit):(gA s).Fit:=by
 have h1:=qV s
 have h2:(gA s).mK=s.mK:=rfl
 unfold cZ.Fit at*;omega
theorem zc (s:cZ):∀n,(dC s n).1.ts.length≤s.ts.length∧(s.Fit→(dC s n).1.Fit):=by
 intro n
 induction n generalizing s with
 |zero=>exact⟨Nat.le_refl _,fun h=>h⟩
 |succ n ih=>
  have h1:=kb s
  have h2:=ih (aZ s).1
  rw[dC]
  split
  ·exact⟨Nat.le_refl _,fun h=>h⟩
  ·split
   ·exact⟨Nat.le_trans h2.1 h1,fun h=>h2.2 (pk h)⟩
   ·exact⟨Nat.le_trans h2.1 h1,fun h=>h2.2 (pk h)⟩
theorem wG (rows:List (List Int)) (s:cZ):(jo rows s).1.ts.length≤s.ts.length∧(s.Fit→(jo rows s).1.Fit):=by
 have h1:=dw s [1]
 have h2:=zc (aT s [1]).1 (ix rows (rows.length - 1)).length
 unfold jo
 split
 ·exact⟨Nat.le_refl _,fun h=>h⟩
 ·split
  ·exact⟨Nat.le_refl _,fun h=>h⟩
  ·split
   ·exact⟨Nat.le_refl _,fun h=>h⟩
   ·split
    ·exact⟨Nat.le_refl _,fun h=>h⟩
    ·exact⟨Nat.le_trans h2.1 h1,fun h=>h2.2 (jL h _)⟩
theorem uf (s:cZ) (f:aE):(fQ s f).1.ts.length≤s.ts.length+f.results.length∧(s.Fit→(fQ s f).1.Fit):=by
 have h1:=dw s f.params
 unfold fQ
 split
 ·exact⟨by omega,fun h=>jL h _⟩
 ·refine⟨?_,fun _=>jG _ _⟩
  show((aT s f.params).1.ts++f.results).length≤_
  rw[List.length_append];omega
theorem ve {s:cZ} (h:s.Wf) (op:Int):(fq s op).1.Wf∧(fq s op).1.ps=s.ps∧(fq s op).1.ts.length≤s.ts.length+1∧(s.Fit→(fq s op).1.Fit):=by
 have hpp:∀s:cZ,(aZ s).1.ps=s.ps:=fun s=>by unfold aZ;split<;>(try rfl);split<;>rfl
 have base:∀s:cZ,s.Wf→s.Wf∧s.ps=s.ps∧s.ts.length≤s.ts.length∧(s.Fit→s.Fit):=fun s h=>⟨h,rfl,Nat.le_refl _,fun h=>h⟩
 have pop:∀{a b:cZ},(b.Wf∧b.ps=a.ps∧b.ts.length≤a.ts.length∧(a.Fit→b.Fit))→((aZ b).1.Wf∧(aZ b).1.ps=a.ps∧(aZ b).1.ts.length≤a.ts.length∧(a.Fit→(aZ b).1.Fit)):=fun{a b} h=>⟨kc h.1,(hpp b).trans h.2.1,Nat.le_trans (kb b) h.2.2.1,fun hf=>pk (h.2.2.2 hf)⟩
 have want:(aT s [1]).1.Wf∧(aT s [1]).1.ps=s.ps∧(aT s [1]).1.ts.length≤s.ts.length∧(s.Fit→(aT s [1]).1.Fit):=⟨dx h _,eu _ _,dw _ _,fun hf=>jL hf _⟩
 have out:∀{b:cZ},(b.Wf∧b.ps=s.ps∧b.ts.length≤s.ts.length∧(s.Fit→b.Fit))→(b.Wf∧b.ps=s.ps∧b.ts.length≤s.ts.length+1∧(s.Fit→b.Fit)):=fun{b} h=>⟨h.1,h.2.1,by omega,h.2.2.2⟩
 have push:∀{b:cZ} (a:Int),(b.Wf∧b.ps=s.ps∧b.ts.length≤s.ts.length∧(s.Fit→b.Fit))→((gg b [a]).Wf∧(gg b [a]).ps=s.ps∧(gg b [a]).ts.length≤s.ts.length+1∧(s.Fit→(gg b [a]).Fit)):=fun{b} a h=>⟨mR h.1 _,h.2.1,by show(b.ts++[a]).length≤_;rw[List.length_append];show _+1≤_;omega,fun _=>jG _ _⟩
 have w2:(if op=27 then aT s [1]else(s,0)).1.Wf∧(if op=27 then aT s [1]else(s,0)).1.ps=s.ps∧(if op=27 then aT s [1]else(s,0)).1.ts.length≤s.ts.length∧(s.Fit→(if op=27 then aT s [1]else(s,0)).1.Fit):=by
  split
  ·exact want
  ·exact base s h
 have ite:∀{p:Prop} [Decidable p] {a b:cZ×Int},(a.1.Wf∧a.1.ps=s.ps∧a.1.ts.length≤s.ts.length+1∧(s.Fit→a.1.Fit))→(b.1.Wf∧b.1.ps=s.ps∧b.1.ts.length≤s.ts.length+1∧(s.Fit→b.1.Fit))→((if p then a else b).1.Wf∧(if p then a else b).1.ps=s.ps∧(if p then a else b).1.ts.length≤s.ts.length+1∧(s.Fit→(if p then a else b).1.Fit)):=fun{p _ a b} h1 h2=>by
  by_cases hp:p
  ·rw[if_pos hp];exact h1
  ·rw[if_neg hp];exact h2
 unfold fq
 exact ite (out w2) (ite (out (pop w2)) (ite (out (pop (base s h))) (ite (ite (out (pop (base s h))) (push _ (pop (base s h)))) (ite (out (pop (pop want))) (ite (out (pop (pop want))) (push _ (pop (pop want))))))))
theorem gI.aG {K L L':Nat} {c:dq} (h:gI K L c) {s:cZ} (h1:s.Wf) (h2:s.ps=c.aG.ps) (h3:s.Fit) (h4:s.ts.length≤L'):gI K L' {c with aG:=s}:=
 ⟨⟨h1,by show s.ps.length=_;rw[h2];exact h.wf.many,h.wf.fr,h.wf.ended⟩,h.bk,h3,h.fr,h4⟩
theorem gI.mono {K L L':Nat} {c:dq} (h:gI K L c) (hl:L≤L'):gI K L' c:=⟨h.wf,h.bk,h.fit,h.fr,Nat.le_trans h.ts hl⟩
theorem gI.dead {K L:Nat} {c:dq} (h:gI K L c):gI K L (fD c)∧(fD c).fs=c.fs∧(fD c).results=c.results:=by
 refine⟨⟨yx h.wf,?_,?_,?_,?_⟩,?_,?_⟩
 all_goals
  unfold fD
  split
 ·exact h.bk
 ·exact h.bk
 ·exact h.fit
 ·exact uT h.fit
 ·exact h.fr
 ·exact h.fr
 ·exact h.ts
 ·exact Nat.le_trans (qV _) h.ts
 all_goals rfl
theorem mD {K L:Nat} {c:dq} (h:gI K L c) {m:ae} {locals:List Int} {x:bP} (h1:1≤K) (hbl:∀f,dD m x.kind x.val x.index=some f→f.params.length≤K∧f.results.length≤K) (hty:(dY m locals x).1.results.length≤K) (he:(dj c m locals x).2=0):
  gI K (L+K) (dj c m locals x).1∧(dj c m locals x).1.results=c.results∧(dj c m locals x).1.fs.length≤c.fs.length+1∧c.fs.length≤(dj c m locals x).1.fs.length+1:=by
 have hts:=h.ts
 have same:gI K (L+K) c∧c.results=c.results∧c.fs.length≤c.fs.length+1∧c.fs.length≤c.fs.length+1:=⟨h.mono Hb,rfl,by omega,by omega⟩
 have dead:∀s:cZ,s.Wf→s.ps=c.aG.ps→s.Fit→s.ts.length≤L→gI K (L+K) (fD {c with aG:=s})∧(fD {c with aG:=s}).results=c.results∧(fD {c with aG:=s}).fs.length≤c.fs.length+1∧c.fs.length≤(fD {c with aG:=s}).fs.length+1:=fun s a b d e=>by
  have k:=(h.aG a b d e).dead
  rw[k.2.1,k.2.2]
  exact⟨k.1.mono Hb,rfl,by show c.fs.length≤_;omega,by show c.fs.length≤c.fs.length+1;omega⟩
 have lea:∀l,(fH c l).2=0→gI K (L+K) (fH c l).1∧(fH c l).1.results=c.results∧(fH c l).1.fs.length≤c.fs.length+1∧c.fs.length≤(fH c l).1.fs.length+1:=fun l hl=>by
  unfold fH at hl ⊢
  split
  ·exact same
  ·exact dead _ (dx h.wf.aG l) (eu _ _) (jL h.fit l) (by have:=dw c.aG l;omega)
 have aG:∀s:cZ,s.Wf→s.ps=c.aG.ps→s.Fit→s.ts.length≤L+K→gI K (L+K) {c with aG:=s}∧({c with aG:=s}:dq).results=c.results∧({c with aG:=s}:dq).fs.length≤c.fs.length+1∧c.fs.length≤({c with aG:=s}:dq).fs.length+1:=fun s a b d e=>⟨h.aG a b d e,rfl,by show c.fs.length≤_;omega,by show c.fs.length≤c.fs.length+1;omega⟩
 unfold dj at he ⊢
 by_cases q0:db x=false
 ·rw[if_pos q0]at he;exact absurd he (show¬(10:Int)=0 by decide)
 rw[if_neg q0]at he ⊢
 by_cases q1:opens x.op
 ·rw[if_pos q1]at he ⊢
  cases hf:dD m x.kind x.val x.index with
  |none=>rw[hf]at he;exact absurd he (show¬(11:Int)=0 by decide)
  |some f=>
   rw[hf]at he
   dsimp only at he ⊢
   obtain⟨b1,b2⟩:=hbl f hf
   have hwf:=wM h.wf x.op f.params f.results
   unfold iu at he hwf ⊢
   rw[if_neg (fun hh=>hh h.bk)]at he hwf ⊢
   by_cases e1:x.op≠2∧x.op≠3∧x.op≠4
   ·rw[if_pos e1]at he;exact absurd he (show¬(1:Int)=0 by decide)
   rw[if_neg e1]at he hwf ⊢
   by_cases e2:c.fs.length=0
   ·rw[if_pos e2]at he;exact absurd he (show¬(16:Int)=0 by decide)
   rw[if_neg e2]at he hwf ⊢
   dsimp only at he hwf ⊢
   have ha:(if x.op=4 then aT c.aG [1]else(c.aG,0)).1.ts.length≤c.aG.ts.length:=by
    split
    ·exact dw _ _
    ·exact Nat.le_refl _
   generalize (if x.op=4 then aT c.aG [1]else(c.aG,0))=a at he hwf ha ⊢
   by_cases e3:a.2≠0
   ·rw[if_pos e3]at he;exact absurd he e3
   rw[if_neg e3]at he hwf ⊢
   by_cases e4:(aT a.1 f.params).2≠0
   ·rw[if_pos e4]at he;exact absurd he e4
   rw[if_neg e4]at hwf ⊢
   have hw:=dw a.1 f.params
   refine⟨⟨hwf,h.bk,jG _ _,h.fr.snoc b1 b2,?_⟩,rfl,?_,?_⟩
   ·show((aT a.1 f.params).1.ts++f.params).length≤_
    rw[List.length_append];omega
   ·show(c.fs++[_]).length≤_;rw[List.length_append];exact Nat.le_refl _
   ·show _≤(c.fs++[_]).length+1;rw[List.length_append];omega
 rw[if_neg q1]at he ⊢
 by_cases q2:x.op=5
 ·rw[if_pos q2]at he ⊢
  have hwf:=yz h.wf
  unfold mH at he hwf ⊢
  rw[if_neg (fun hh=>hh h.bk)]at he hwf ⊢
  by_cases e1:c.fs.length=0∨c.top.kind≠4∨c.top.other=true
  ·rw[if_pos e1]at he;exact absurd he (show¬(16:Int)=0 by decide)
  rw[if_neg e1]at he hwf ⊢
  dsimp only at he hwf ⊢
  have hn:c.fs.length≠0:=fun hh=>e1 (.inl hh)
  by_cases e2:(dA c.aG c.top.res).2≠0
  ·rw[if_pos e2]at he;exact absurd he e2
  rw[if_neg e2]at hwf ⊢
  have hw:=mW c.aG c.top.res
  have ht:=h.fr.top
  have hl:(c.fs.take (c.fs.length - 1)++[{c.top with other:=true}]).length=c.fs.length:=by rw[List.length_append,List.length_take];show _+1=_;omega
  refine⟨⟨hwf,h.bk,jG _ _,(h.fr.take _).snoc ht.1 ht.2,?_⟩,rfl,?_,?_⟩
  ·show((dA c.aG c.top.res).1.ts++c.top.par).length≤_
   rw[List.length_append];omega
  ·show(c.fs.take (c.fs.length - 1)++[{c.top with other:=true}]).length≤_;omega
  ·show _≤(c.fs.take (c.fs.length - 1)++[{c.top with other:=true}]).length+1;omega
 rw[if_neg q2]at he ⊢
 by_cases q3:x.op=11
 ·rw[if_pos q3]at he ⊢
  have hwf:=xg h.wf
  unfold jY at he hwf ⊢
  rw[if_neg (fun hh=>hh h.bk)]at he hwf ⊢
  by_cases e1:c.fs.length=0
  ·rw[if_pos e1]at he;exact absurd he (show¬(16:Int)=0 by decide)
  rw[if_neg e1]at he hwf ⊢
  dsimp only at he hwf ⊢
  by_cases e2:(dA c.aG c.top.res).2≠0
  ·rw[if_pos e2]at he;exact absurd he e2
  rw[if_neg e2]at he hwf ⊢
  by_cases e3:c.top.kind=4∧c.top.other=false∧c.top.par≠c.top.res
  ·rw[if_pos e3]at he;exact absurd he (show¬(12:Int)=0 by decide)
  rw[if_neg e3]at hwf ⊢
  have hw:=mW c.aG c.top.res
  have ht:=h.fr.top
  have hl:(c.fs.take (c.fs.length - 1)).length=c.fs.length - 1:=by rw[List.length_take];omega
  refine⟨⟨hwf,h.bk,jG _ _,h.fr.take _,?_⟩,rfl,?_,?_⟩
  ·show((dA c.aG c.top.res).1.ts++c.top.res).length≤_
   rw[List.length_append];omega
  ·show(c.fs.take (c.fs.length - 1)).length≤_;omega
  ·show _≤(c.fs.take (c.fs.length - 1)).length+1;omega
 rw[if_neg q3]at he ⊢
 by_cases q4:x.op=0
 ·rw[if_pos q4];exact dead c.aG h.wf.aG rfl h.fit h.ts
 rw[if_neg q4]at he ⊢
 by_cases q5:jumps x.op
 ·rw[if_pos q5]at he ⊢
  unfold k9 at he ⊢
  by_cases e1:x.op=15
  ·rw[if_pos e1]at he ⊢;exact lea _ he
  rw[if_neg e1]at he ⊢
  by_cases e2:x.op=14
  ·rw[if_pos e2]at he ⊢
   unfold ld at he ⊢
   split
   ·exact same
   ·have hk:(cD c x).1.Wf∧(cD c x).1.ps=c.aG.ps∧(cD c x).1.Fit∧(cD c x).1.ts.length≤L:=by
     unfold cD
     split
     ·exact⟨h.wf.aG,rfl,h.fit,h.ts⟩
     ·have a:=qG h.wf.aG (fN (bU c) (x.labels++[x.a])).1
      have b:=wG (fN (bU c) (x.labels++[x.a])).1 c.aG
      exact⟨a.1,a.2,b.2 h.fit,Nat.le_trans b.1 h.ts⟩
    exact dead _ hk.1 hk.2.1 hk.2.2.1 hk.2.2.2
  rw[if_neg e2]at he ⊢
  by_cases e3:(bU c x.a).2≠0
  ·rw[if_pos e3]at he;exact absurd he e3
  rw[if_neg e3]at he ⊢
  by_cases e4:x.op=13
  ·rw[if_pos e4]at he ⊢
   unfold vL at he ⊢
   split
   ·exact same
   ·have a:=dx h.wf.aG [1]
    have b:=uf (aT c.aG [1]).1 ⟨(bU c x.a).1,(bU c x.a).1⟩
    have d:=dw c.aG [1]
    have hl:=h.fr.label x.a
    refine aG _ (ug a _) ((ue _ _).trans (eu _ _)) (b.2 (jL h.fit _)) ?_
    have b1:=b.1
    dsimp only at b1
    show(fQ (aT c.aG [1]).1 ⟨(bU c x.a).1,(bU c x.a).1⟩).1.ts.length≤L+K
    omega
  rw[if_neg e4]at he ⊢;exact lea _ he
 rw[if_neg q5]at he ⊢
 by_cases q6:kP x.op
 ·rw[if_pos q6]
  have a:=ve h.wf.aG x.op
  exact aG _ a.1 a.2.1 (a.2.2.2 h.fit) (by have:=a.2.2.1;omega)
 rw[if_neg q6]at he ⊢
 unfold rB at he ⊢
 by_cases e1:(dY m locals x).2≠0
 ·rw[if_pos e1]at he;exact absurd he e1
 rw[if_neg e1]at he ⊢
 have a:=uf c.aG (dY m locals x).1
 exact aG _ (ug h.wf.aG _) (ue _ _) (a.2 h.fit) (by have:=a.1;omega)
end Go.Proofs.YtceedealggognaaGreatDoor
