/- rule.pick of select. Printed by gen_uq.py 27. -/
import Derived.Test.YtgbgnipidakdhaaGreatDoorJLz
import Derived.Test.YtgbgnipidakdhaaGreatDoorJOk
import Derived.Test.YtgbgnipidakdhaaGreatDoorJZt
namespace Go.Proofs.YtgbgnipidakdhaaGreatDoor
open Go.RowKit
set_option maxRecDepth 100000
set_option maxHeartbeats 16000000 in
theorem vX (sp:Nat) (s:bP) (y:Value×Value) (op:Int) (ho:op=27) (w:World) (hw:Ok (aS sp s y) [] w) (hwf:s.Wf) (hb:(s.ts.length+1)*8≤140737488355328):Calls G.P 47 #[.pointer (some ⟨sp,0,none⟩),.int .i64 op] w (eF sp s y (.int .i64 (gH s op).2) (gH s op).1 w):=by
 obtain⟨tv,pv⟩:=y
 have hp:=hwf.some
 have h0:=hwf.at_.1
 have hle:=hwf.at_.2
 unfold gH
 simp only[if_pos ho]
 have n26:¬op=26:=by omega
 have n209:¬op=209:=by omega
 simp only[if_neg n26,if_neg n209]
 have hw0:=dn hwf [1]
 have ht0:=dp s [1]
 refine ae (l:=[_,_]) Tryz.func47 rfl Tryz.ntmps47 rfl (Ok.dj hw) ?_;unfold eF;generalize hS:Mb (aS sp s (tv,pv))=S0;dsimp only[aS]
 repeat'(first|refine ar ?_|(refine eH fun b_ _=>?_)|(refine a7 ?_ ?_<;>intro hc_))
 obtain⟨b0,rfl⟩:∃y:Nat,y=b_:=⟨_,rfl⟩
 refine aa.freeze (q:=.aT b0 [.int .i64 1] fY) (fun w=>af (fun k=>k=b0) w (.slice (some ⟨b0,0,none⟩) 1 1) [1]) je (fun w' h _=>cZ h) ?_
 refine aa.he (HE.bC (M0:=aS sp s (tv,pv)) dt rfl rfl (fun w' hw'=>fK (fun k=>k=b0) sp s (tv,pv) (.slice (some ⟨b0,0,none⟩) 1 1) [1] w' (hw'.cF dM aV) hp h0 hle)) rfl ?_
 rintro⟨tv0,pv0⟩ _
 obtain⟨r0,hr0⟩:∃r,aE s [1]=r:=⟨_,rfl⟩
 rw[hr0]at hw0 ht0 ⊢
 obtain⟨s0,e0⟩:=r0
 dsimp only[aS,List.cons_append,List.nil_append]at hw0 ht0 ⊢
 by_cases jf:e0=0
 ·subst jf
  repeat rw[if_neg (show¬((0:Int)≠0)from fun h=>h rfl)]
  repeat'(first|refine ar ?_|(refine a7 ?_ ?_<;>intro hc_))
  refine aa.he (HE.bC (M0:=aS sp s0 (tv0,pv0)) dt rfl rfl (fun w' hw'=>lx sp s0 (tv0,pv0) w' (hw'.cF dM (fun p hp=>absurd hp Mk)) hw0.some hw0.at_.1)) rfl ?_
  rintro⟨tv1,pv1⟩ _
  obtain⟨pr1,hpr1⟩:∃r,aU s0=r:=⟨_,rfl⟩
  have wf1:(aU s0).1.Wf:=iC hw0
  have tl1:(aU s0).1.ts.length≤s0.ts.length:=ja s0
  rw[hpr1]at wf1 tl1 ⊢
  obtain⟨s1,a1,e1⟩:=pr1
  dsimp only[aS,List.cons_append,List.nil_append]at wf1 tl1 ⊢
  by_cases he:e1=0
  ·subst he
   repeat rw[if_neg (show¬((0:Int)≠0)from fun h=>h rfl)]
   repeat'(first|refine ar ?_|(refine a7 ?_ ?_<;>intro hc_))
   refine JY ?_
   rintro⟨tv2,pv2⟩ _
   obtain⟨pr2,hpr2⟩:∃r,aU s1=r:=⟨_,rfl⟩
   have wf2:(aU s1).1.Wf:=iC wf1
   have tl2:(aU s1).1.ts.length≤s1.ts.length:=ja s1
   rw[hpr2]at wf2 tl2 ⊢
   obtain⟨s2,a2,e2⟩:=pr2
   dsimp only[aS,List.cons_append,List.nil_append]at wf2 tl2 ⊢
   by_cases he2:e2=0
   ·subst he2
    repeat rw[if_neg (show¬((0:Int)≠0)from fun h=>h rfl)]
    cases ra:pB a1 with
    |true=>
     have k1:∀w',Calls G.P 114 #[.int .i64 a1] w' fun e w2=>e=.returned (.bool true)∧Ext w' w2:=fun w'=>by have:=oK a1 w';rwa[ra]at this
     have hbad:a1=3∨a1=4∨a2=3∨a2=4∨(a1≠a2∧a1≠0∧a2≠0):=by unfold pB at ra;simp only[Bool.or_eq_true,decide_eq_true_eq]at ra;omega
     repeat rw[if_pos hbad]
     clear hbad ra
     repeat'(first|refine ar ?_|refine Lr ?_|(refine a7 ?_ ?_<;>intro hc_))
     all_goals exact lw
    |false=>
     have k1:∀w',Calls G.P 114 #[.int .i64 a1] w' fun e w2=>e=.returned (.bool false)∧Ext w' w2:=fun w'=>by have:=oK a1 w';rwa[ra]at this
     have n1:a1≠3∧a1≠4:=by unfold pB at ra;simp only[Bool.or_eq_false_iff,decide_eq_false_iff_not]at ra;exact ra
     obtain⟨n13,n14⟩:=n1
     clear ra
     cases rb:pB a2 with
     |true=>
      have k2:∀w',Calls G.P 114 #[.int .i64 a2] w' fun e w2=>e=.returned (.bool true)∧Ext w' w2:=fun w'=>by have:=oK a2 w';rwa[rb]at this
      have hbad:a1=3∨a1=4∨a2=3∨a2=4∨(a1≠a2∧a1≠0∧a2≠0):=by unfold pB at rb;simp only[Bool.or_eq_true,decide_eq_true_eq]at rb;omega
      repeat rw[if_pos hbad]
      clear hbad rb
      repeat'(first|refine ar ?_|refine Lr ?_|(refine aa.bV (f:=114) Ml rfl rfl rfl (fun w' _=>k2 w') ?_)|(refine a7 ?_ ?_<;>intro hc_))
      all_goals exact lw
     |false=>
      have k2:∀w',Calls G.P 114 #[.int .i64 a2] w' fun e w2=>e=.returned (.bool false)∧Ext w' w2:=fun w'=>by have:=oK a2 w';rwa[rb]at this
      have n2:a2≠3∧a2≠4:=by unfold pB at rb;simp only[Bool.or_eq_false_iff,decide_eq_false_iff_not]at rb;exact rb
      obtain⟨n23,n24⟩:=n2
      clear rb
      by_cases z:a1≠a2∧a1≠0∧a2≠0
      ·repeat rw[if_pos (show a1=3∨a1=4∨a2=3∨a2=4∨(a1≠a2∧a1≠0∧a2≠0)from .inr (.inr (.inr (.inr z))))]
       obtain⟨q1,q2,q3⟩:=z
       repeat'(first|refine ar ?_|refine Lr ?_|(refine aa.bV (f:=114) Ml rfl rfl rfl (fun w' _=>k2 w') ?_)|(refine a7 ?_ ?_<;>intro hc_))
       all_goals exact lw
      ·repeat rw[if_neg (show¬(a1=3∨a1=4∨a2=3∨a2=4∨(a1≠a2∧a1≠0∧a2≠0))from fun h=>by rcases h with h|h|h|h|h;exact n13 h;exact n14 h;exact n23 h;exact n24 h;exact z h)]
       have hfin:(s2.ts.length+1)*8≤140737488355328:=by clear n13 n14 n23 n24 n26 n209 z;omega
       clear n13 n14 n23 n24 n26 n209 hr0 hpr1 hpr2 ht0 tl1 tl2 hb
       have wf2s:=wf2.some
       by_cases z1:a1=0
       ·subst z1
        rw[if_pos rfl]
        clear z
        repeat'(first|refine ar ?_|refine Lr ?_|(refine aa.bV (f:=114) Ml rfl rfl rfl (fun w' _=>k2 w') ?_)|(refine eH fun b_ _=>?_)|(refine a7 ?_ ?_<;>intro hc_))
        all_goals first|(exfalso;omega)|skip
        all_goals
         obtain⟨bl,rfl⟩:∃y:Nat,y=b_:=⟨_,rfl⟩
         try simp only[List.getElem_toArray,List.getElem_cons_succ,List.getElem_cons_zero]
         refine aa.freeze (q:=.aT bl [.int .i64 a2] fY) (fun w=>af (fun k=>k=bl) w (.slice (some ⟨bl,0,none⟩) 1 1) [a2]) je (fun w' h _=>cZ h) ?_
         refine aa.he (HE.bC (M0:=aS sp s2 (tv2,pv2)) dt rfl rfl (fun w' hw'=>fH (fun k=>k=bl) sp s2 (tv2,pv2) (.slice (some ⟨bl,0,none⟩) 1 1) [a2] w' (hw'.cF dM aV) wf2s (by show(s2.ts.length+1)*8≤_;omega))) rfl ?_
         rintro⟨tv3,pv3⟩ _
         dsimp only[aS,List.cons_append,List.nil_append]
         repeat'(first|refine ar ?_|(refine a7 ?_ ?_<;>intro hc_))
         all_goals exact mp
       ·rw[if_neg z1]
        by_cases z2:a1=a2
        ·subst z2
         clear z
         repeat'(first|refine ar ?_|refine Lr ?_|(refine aa.bV (f:=114) Ml rfl rfl rfl (fun w' _=>k2 w') ?_)|(refine eH fun b_ _=>?_)|(refine a7 ?_ ?_<;>intro hc_))
         all_goals first|(exfalso;omega)|skip
         all_goals
          obtain⟨bl,rfl⟩:∃y:Nat,y=b_:=⟨_,rfl⟩
          try simp only[List.getElem_toArray,List.getElem_cons_succ,List.getElem_cons_zero]
          refine aa.freeze (q:=.aT bl [.int .i64 a1] fY) (fun w=>af (fun k=>k=bl) w (.slice (some ⟨bl,0,none⟩) 1 1) [a1]) je (fun w' h _=>cZ h) ?_
          refine aa.he (HE.bC (M0:=aS sp s2 (tv2,pv2)) dt rfl rfl (fun w' hw'=>fH (fun k=>k=bl) sp s2 (tv2,pv2) (.slice (some ⟨bl,0,none⟩) 1 1) [a1] w' (hw'.cF dM aV) wf2s (by show(s2.ts.length+1)*8≤_;omega))) rfl ?_
          rintro⟨tv3,pv3⟩ _
          dsimp only[aS,List.cons_append,List.nil_append]
          repeat'(first|refine ar ?_|(refine a7 ?_ ?_<;>intro hc_))
          all_goals exact mp
        ·have z3:a2=0:=Classical.byContradiction fun h=>z ⟨z2,z1,h⟩
         subst z3
         clear z
         repeat'(first|refine ar ?_|refine Lr ?_|(refine aa.bV (f:=114) Ml rfl rfl rfl (fun w' _=>k2 w') ?_)|(refine eH fun b_ _=>?_)|(refine a7 ?_ ?_<;>intro hc_))
         all_goals first|(exfalso;omega)|skip
         all_goals
          obtain⟨bl,rfl⟩:∃y:Nat,y=b_:=⟨_,rfl⟩
          try simp only[List.getElem_toArray,List.getElem_cons_succ,List.getElem_cons_zero]
          refine aa.freeze (q:=.aT bl [.int .i64 a1] fY) (fun w=>af (fun k=>k=bl) w (.slice (some ⟨bl,0,none⟩) 1 1) [a1]) je (fun w' h _=>cZ h) ?_
          refine aa.he (HE.bC (M0:=aS sp s2 (tv2,pv2)) dt rfl rfl (fun w' hw'=>fH (fun k=>k=bl) sp s2 (tv2,pv2) (.slice (some ⟨bl,0,none⟩) 1 1) [a1] w' (hw'.cF dM aV) wf2s (by show(s2.ts.length+1)*8≤_;omega))) rfl ?_
          rintro⟨tv3,pv3⟩ _
          dsimp only[aS,List.cons_append,List.nil_append]
          repeat'(first|refine ar ?_|(refine a7 ?_ ?_<;>intro hc_))
          all_goals exact mp
   ·repeat rw[if_pos he2]
    repeat'(first|refine ar ?_|(refine a7 ?_ ?_<;>intro hc_))
    all_goals exact lw
  ·repeat rw[if_pos he]
   repeat'(first|refine ar ?_|(refine a7 ?_ ?_<;>intro hc_))
   all_goals exact mt
 ·repeat rw[if_pos jf]
  repeat'(first|refine ar ?_|(refine a7 ?_ ?_<;>intro hc_))
  all_goals first|omega|exact ah.aB rfl rfl fun w' hw'=>aM.oY (x:=(tv0,pv0)) trivial hS hw' dM ak
theorem Az (sp:Nat) (s:bP) (y:Value×Value) (op:Int) (ho:jy op) (w:World) (hw:Ok (aS sp s y) [] w) (hwf:s.Wf) (hb:(s.ts.length+1)*8≤140737488355328):Calls G.P 47 #[.pointer (some ⟨sp,0,none⟩),.int .i64 op] w (eF sp s y (.int .i64 (gH s op).2) (gH s op).1 w):=by
 unfold jy at ho
 rcases ho with h|h|h
 ·have:=vS sp s y op h w hw hwf
  have e:gH s op=((aU s).1,(aU s).2.2):=by
   unfold gH
   have n27:¬op=27:=by omega
   simp only[if_neg n27,if_pos h]
   by_cases h2:(aU s).2.2=0
   ·simp[h2]
   ·simp[h2]
  rw[e];exact this
 ·exact vX sp s y op h w hw hwf hb
 ·have:=tF sp s y op h w hw hwf hb
  have e:gH s op=(if(aU s).2.2≠0 then(aU s).1 else if(aU s).2.1=1∨(aU s).2.1=2 then(aU s).1 else aJ (aU s).1 [1],if(aU s).2.2≠0 then(aU s).2.2 else if(aU s).2.1=1∨(aU s).2.1=2 then 12 else 0):=by
   unfold gH
   have n27:¬op=27:=by omega
   have n26:¬op=26:=by omega
   simp only[if_neg n27,if_neg n26,if_pos h]
   by_cases h2:(aU s).2.2=0
   ·by_cases h3:(aU s).2.1=1∨(aU s).2.1=2
    ·simp[h2,h3]
    ·simp[h2,h3]
   ·simp[h2]
  rw[e];exact this
section
variable {n:Nat} {E:Env} {M:List a8} {R:List (World→Prop)} {f:Nat} {args:List Operand} {tys:Array TypeId} {vs:List Value}
theorem HE.E5 {r:Option aL} (hf:G.fb[f]?=some true) (ha:jQ E args=some vs) (hc:∀w,Ok M R w→Calls G.P f vs.toArray w (iZ r (fun _=>False) w)):
  HE n (.call ⟨.value (.func f),args.toArray,tys⟩) E M R (fun _:AM=>True) (fun x=>.tuple #[.agg #[.slice x.p (r.getD dy).params.length x.c,.slice x.q (r.getD dy).results.length x.d],.bool r.isSome]) (fun _=>M) (fun x=>qJ (r.getD dy) x::R):=
 ⟨fun w hw=>(ck.call hf ha (hc w hw) (fun e w' h=>by obtain⟨⟨x,e1,_⟩,_⟩:=h;exact⟨_,e1⟩)).mono fun v w' ⟨⟨⟨x1,x2⟩,e1,hv⟩,hx⟩=>by
  cases e1
  obtain⟨⟨p,c,rfl⟩,⟨q,d,rfl⟩⟩:=hv.shape
  refine⟨⟨fun k=>False∨w.heap.size≤k,p,c,q,d⟩,trivial,rfl,(hw.ext hx).add fun w2 h2=>dr.fr _ hv h2 fun k _ hk hm=>?_⟩
  rcases hk with hk|hk
  ·exact hk
  ·obtain⟨q,hq,hk'⟩:=hm
   have:=(hw.m q hq).2 k hk';omega⟩
end
theorem B9 {g g':Prop} (h:g') (hw:dS g'→g:=by(intro hk_;(first|refine Ls ?_|refine K3 ?_|refine K2 ?_);exact hk_.out)):g:=hw ⟨h⟩
set_option maxHeartbeats 8000000 in
theorem qi (B:Nat) (F:Nat→Prop) (cp:Nat) (c:di) (v:iY) (m:aj) (locals:List Int) (sv:Value) (x:cJ) (lp pt pl:Option Addr) (lc ct cl:Nat) (w:World) (hw:Ok (aQ cp c v) (nP B F m sv locals (.slice lp locals.length lc) x (.slice pt x.types.length ct) (.slice pl x.labels.length cl)) w) (hg:v.Good c) (hwf:c.Wf) (hb:c.broken=0) (hp:cq x=true) (hop:x.op=5) (hfl:c.fs.length≤1000) (hts:(c.ao.ts.length+c.top.par.length)*8≤140737488355328):Calls G.P 16 #[.pointer (some ⟨cp,0,none⟩),sv,.slice lp locals.length lc,.agg #[Value.int .i64 x.op,Value.int .i64 x.a,Value.int .i64 x.b,Value.int .u64 x.n,Value.int .i64 x.kind,Value.int .i64 x.val,Value.int .i64 x.index,Value.slice pt x.types.length ct,Value.slice pl x.labels.length cl]] w (aD (aQ cp c v) cp (lF c) w):=by
 refine ae (l:=[_,_,_,_]) Tryz.func16 rfl Tryz.ntmps16 rfl (Ok.dj hw) ?_;generalize hS:Mb (aQ cp c v)=S0;unfold nP;obtain⟨sp,tv,pv,bv,rv,fv,D,L⟩:=v;dsimp only[aQ,aS,List.cons_append,List.nil_append];have hno:=fun w' M (hw':Ok M _ w')=>kn (B:=B) (F:=F) (m:=m) (locals:=locals) (sv:=sv) (lv:=.slice lp locals.length lc) (x:=x) (pt:=pt) (pl:=pl) (ct:=ct) (cl:=cl) hw';rw[hp]at hno
 obtain⟨r,hr⟩:∃r,lF c=r:=⟨_,rfl⟩
 have hk:∀w',Ok (aQ cp c ⟨sp,tv,pv,bv,rv,fv,D,L⟩) [] w'→Calls G.P 44 #[.pointer (some ⟨cp,0,none⟩)] w' (aD (aQ cp c ⟨sp,tv,pv,bv,rv,fv,D,L⟩) cp r w'):=fun w' hw'=>by rw[←hr];exact AJ cp c ⟨sp,tv,pv,bv,rv,fv,D,L⟩ w' hw' hg hb hwf hfl hts
 rw[hr]
 clear hr
 obtain⟨c1,e1⟩:=r
 by_cases he1:e1=0
 ·subst he1
  repeat'(first|refine ar ?_|(refine aC fun b_=>?_)|refine B9 ?_|fail)
  all_goals first|(exfalso;omega)|skip
  refine JZ ?_
  rintro⟨sp1,tv1,pv1,bv1,rv1,fv1,D1,L1⟩ hg1
  dsimp only[aQ,aS,List.cons_append,List.nil_append]at hg1 ⊢
  repeat'(first|refine ar ?_|fail)
  all_goals exact ne
 ·repeat'(first|refine ar ?_|(refine aC fun b_=>?_)|refine B9 ?_|fail)
  all_goals first|(exfalso;omega)|skip
  refine J0 ?_
  rintro _ _
  dsimp only[List.nil_append]
  repeat'(first|refine ar ?_|fail)
  all_goals exact pi
set_option maxHeartbeats 8000000 in
theorem qZ (B:Nat) (F:Nat→Prop) (cp:Nat) (c:di) (v:iY) (m:aj) (locals:List Int) (sv:Value) (x:cJ) (lp pt pl:Option Addr) (lc ct cl:Nat) (w:World) (hw:Ok (aQ cp c v) (nP B F m sv locals (.slice lp locals.length lc) x (.slice pt x.types.length ct) (.slice pl x.labels.length cl)) w) (hg:v.Good c) (hwf:c.Wf) (hb:c.broken=0) (hp:cq x=true) (hop:x.op=11) (hfl:c.fs.length≤1000) (hts:(c.ao.ts.length+c.top.res.length)*8≤140737488355328):Calls G.P 16 #[.pointer (some ⟨cp,0,none⟩),sv,.slice lp locals.length lc,.agg #[Value.int .i64 x.op,Value.int .i64 x.a,Value.int .i64 x.b,Value.int .u64 x.n,Value.int .i64 x.kind,Value.int .i64 x.val,Value.int .i64 x.index,Value.slice pt x.types.length ct,Value.slice pl x.labels.length cl]] w (aD (aQ cp c v) cp (jj c) w):=by
 refine ae (l:=[_,_,_,_]) Tryz.func16 rfl Tryz.ntmps16 rfl (Ok.dj hw) ?_;generalize hS:Mb (aQ cp c v)=S0;unfold nP;obtain⟨sp,tv,pv,bv,rv,fv,D,L⟩:=v;dsimp only[aQ,aS,List.cons_append,List.nil_append];have hno:=fun w' M (hw':Ok M _ w')=>kn (B:=B) (F:=F) (m:=m) (locals:=locals) (sv:=sv) (lv:=.slice lp locals.length lc) (x:=x) (pt:=pt) (pl:=pl) (ct:=ct) (cl:=cl) hw';rw[hp]at hno
 obtain⟨r,hr⟩:∃r,jj c=r:=⟨_,rfl⟩
 have hk:∀w',Ok (aQ cp c ⟨sp,tv,pv,bv,rv,fv,D,L⟩) [] w'→Calls G.P 45 #[.pointer (some ⟨cp,0,none⟩)] w' (aD (aQ cp c ⟨sp,tv,pv,bv,rv,fv,D,L⟩) cp r w'):=fun w' hw'=>by rw[←hr];exact zB cp c ⟨sp,tv,pv,bv,rv,fv,D,L⟩ w' hw' hg hb hwf hfl hts
 rw[hr]
 clear hr
 obtain⟨c1,e1⟩:=r
 by_cases he1:e1=0
 ·subst he1
  repeat'(first|refine ar ?_|(refine aC fun b_=>?_)|refine B9 ?_|fail)
  all_goals first|(exfalso;omega)|skip
  refine JZ ?_
  rintro⟨sp1,tv1,pv1,bv1,rv1,fv1,D1,L1⟩ hg1
  dsimp only[aQ,aS,List.cons_append,List.nil_append]at hg1 ⊢
  repeat'(first|refine ar ?_|fail)
  all_goals exact ne
 ·repeat'(first|refine ar ?_|(refine aC fun b_=>?_)|refine B9 ?_|fail)
  all_goals first|(exfalso;omega)|skip
  refine J0 ?_
  rintro _ _
  dsimp only[List.nil_append]
  repeat'(first|refine ar ?_|fail)
  all_goals exact pi
set_option maxHeartbeats 8000000 in
theorem qm (B:Nat) (F:Nat→Prop) (cp:Nat) (c:di) (v:iY) (m:aj) (locals:List Int) (sv:Value) (x:cJ) (lp pt pl:Option Addr) (lc ct cl:Nat) (w:World) (hw:Ok (aQ cp c v) (nP B F m sv locals (.slice lp locals.length lc) x (.slice pt x.types.length ct) (.slice pl x.labels.length cl)) w) (hg:v.Good c) (hwf:c.Wf) (hb:c.broken=0) (hp:cq x=true) (hop:jumps x.op) (hres:c.results.length≤100000000000) (hlb:∀n,(cy c n).1.length≤100000000000) (hll:x.labels.length≤1000) (hts:c.ao.ts.length≤1000000000000):Calls G.P 16 #[.pointer (some ⟨cp,0,none⟩),sv,.slice lp locals.length lc,.agg #[Value.int .i64 x.op,Value.int .i64 x.a,Value.int .i64 x.b,Value.int .u64 x.n,Value.int .i64 x.kind,Value.int .i64 x.val,Value.int .i64 x.index,Value.slice pt x.types.length ct,Value.slice pl x.labels.length cl]] w (aD (aQ cp c v) cp (kE c x) w):=by
 have hI:=hw.get (p:=fun w=>af F w (.slice pl x.labels.length cl) x.labels) Mg
 refine ae (l:=[_,_,_,_]) Tryz.func16 rfl Tryz.ntmps16 rfl (Ok.dj hw) ?_;generalize hS:Mb (aQ cp c v)=S0;unfold nP;obtain⟨sp,tv,pv,bv,rv,fv,D,L⟩:=v;dsimp only[aQ,aS,List.cons_append,List.nil_append];have hno:=fun w' M (hw':Ok M _ w')=>kn (B:=B) (F:=F) (m:=m) (locals:=locals) (sv:=sv) (lv:=.slice lp locals.length lc) (x:=x) (pt:=pt) (pl:=pl) (ct:=ct) (cl:=cl) hw';rw[hp]at hno
 have hop':=hop
 unfold jumps at hop
 rcases hop with hop|hop|hop|hop
 all_goals
  obtain⟨r,hr⟩:∃r,kE c x=r:=⟨_,rfl⟩
  have hk:∀w',Ok (aQ cp c ⟨sp,tv,pv,bv,rv,fv,D,L⟩) [fun w=>af F w (.slice pl x.labels.length cl) x.labels] w'→Calls G.P 46 #[.pointer (some ⟨cp,0,none⟩),.agg #[Value.int .i64 x.op,Value.int .i64 x.a,Value.int .i64 x.b,Value.int .u64 x.n,Value.int .i64 x.kind,Value.int .i64 x.val,Value.int .i64 x.index,Value.slice pt x.types.length ct,Value.slice pl x.labels.length cl]] w' (aD (aQ cp c ⟨sp,tv,pv,bv,rv,fv,D,L⟩) cp r w'):=fun w' hw'=>by rw[←hr];exact xE F cp c ⟨sp,tv,pv,bv,rv,fv,D,L⟩ x pt pl ct cl w' hw' hg hb hwf hres hlb hll hop' hts
  rw[hr]
  clear hr
  obtain⟨c1,e1⟩:=r
  by_cases he1:e1=0
  ·subst he1
   repeat'(first|refine ar ?_|(refine aC fun b_=>?_)|refine B9 ?_|fail)
   all_goals first|(exfalso;omega)|skip
   refine JZ ?_
   rintro⟨sp1,tv1,pv1,bv1,rv1,fv1,D1,L1⟩ hg1
   dsimp only[aQ,aS,List.cons_append,List.nil_append]at hg1 ⊢
   repeat'(first|refine ar ?_|fail)
   all_goals exact ne
  ·repeat'(first|refine ar ?_|(refine aC fun b_=>?_)|refine B9 ?_|fail)
   all_goals first|(exfalso;omega)|skip
   refine J0 ?_
   rintro _ _
   dsimp only[List.nil_append]
   repeat'(first|refine ar ?_|fail)
   all_goals exact pi
theorem Ho {g g':Prop} (h:g') (hw:dS g'→g:=by(intro hk_;(first|refine K3 ?_|refine K2 ?_);exact hk_.out)):g:=hw ⟨h⟩
set_option maxHeartbeats 8000000 in
theorem qj (B:Nat) (F:Nat→Prop) (cp:Nat) (c:di) (v:iY) (m:aj) (locals:List Int) (sv:Value) (x:cJ) (lp pt pl:Option Addr) (lc ct cl:Nat) (w:World) (hw:Ok (aQ cp c v) (nP B F m sv locals (.slice lp locals.length lc) x (.slice pt x.types.length ct) (.slice pl x.labels.length cl)) w) (hg:v.Good c) (hwf:c.Wf) (hb:c.broken=0) (hp:cq x=true) (hop:opens x.op) (hfl:c.fs.length≤1000) (hts:∀f,cA m x.kind x.val x.index=some f→(c.ao.ts.length+f.params.length)*8≤140737488355328):Calls G.P 16 #[.pointer (some ⟨cp,0,none⟩),sv,.slice lp locals.length lc,.agg #[Value.int .i64 x.op,Value.int .i64 x.a,Value.int .i64 x.b,Value.int .u64 x.n,Value.int .i64 x.kind,Value.int .i64 x.val,Value.int .i64 x.index,Value.slice pt x.types.length ct,Value.slice pl x.labels.length cl]] w (aD (aQ cp c v) cp (match cA m x.kind x.val x.index with|none=>(c,11)|some f=>fL c x.op f.params f.results) w):=by
 refine ae (l:=[_,_,_,_]) Tryz.func16 rfl Tryz.ntmps16 rfl (Ok.dj hw) ?_;generalize hS:Mb (aQ cp c v)=S0;unfold nP;obtain⟨sp,tv,pv,bv,rv,fv,D,L⟩:=v;dsimp only[aQ,aS,List.cons_append,List.nil_append];have hno:=fun w' M (hw':Ok M _ w')=>kn (B:=B) (F:=F) (m:=m) (locals:=locals) (sv:=sv) (lv:=.slice lp locals.length lc) (x:=x) (pt:=pt) (pl:=pl) (ct:=ct) (cl:=cl) hw';rw[hp]at hno
 have hbl:=fun w' M (hw':Ok M [fun w=>bL B m w sv] w')=>mL B m sv x.kind x.val x.index w' (hw'.get (p:=fun w=>bL B m w sv) Mk)
 generalize cA m x.kind x.val x.index=r at hbl hts ⊢
 have hop':=hop
 unfold opens at hop
 cases r with
 |none=>
  dsimp only
  rcases hop with hop|hop|hop
  all_goals
   repeat'(first|refine ar ?_|(refine aC fun b_=>?_)|refine Ls ?_|(refine au fun b_=>?_)|refine Ho ?_|(refine aa.ai (f:=43) ?_;refine aa.he (HE.E5 (r:=none) rfl rfl (fun w' hw'=>hbl w' _ (hw'.sub (List.Sublist.refl _) aV))) rfl ?_;rintro⟨D_,p_,c_,q_,d_⟩ _;dsimp only[Option.isSome,Option.getD])|fail)
   all_goals first|omega|exact ah.aB rfl rfl fun w' hw'=>aD.err 11 rfl Mh hS hw' ak
 |some f=>
  dsimp only
  have hts:=hts f rfl
  rcases hop with hop|hop|hop
  all_goals
   obtain⟨r,hr⟩:∃r,fL c x.op f.params f.results=r:=⟨_,rfl⟩
   have hk:∀(D_:Nat→Prop) (p_ q_:Option Addr) (c_ d_:Nat) w',Ok (aQ cp c ⟨sp,tv,pv,bv,rv,fv,D,L⟩) [qJ f ⟨D_,p_,c_,q_,d_⟩] w'→Calls G.P 19 #[.pointer (some ⟨cp,0,none⟩),.int .i64 x.op,.agg #[.slice p_ f.params.length c_,.slice q_ f.results.length d_]] w' (aD (aQ cp c ⟨sp,tv,pv,bv,rv,fv,D,L⟩) cp r w'):=fun D_ p_ q_ c_ d_ w' hw'=>by rw[←hr];exact sd D_ cp c ⟨sp,tv,pv,bv,rv,fv,D,L⟩ x.op f.params f.results (.slice p_ f.params.length c_,.slice q_ f.results.length d_) w' hw' hg hb hwf hop' hfl hts
   rw[hr]
   clear hr
   obtain⟨c1,e1⟩:=r
   by_cases he1:e1=0
   ·subst he1
    repeat'(first|refine ar ?_|(refine aC fun b_=>?_)|refine Ls ?_|(refine au fun b_=>?_)|refine Ho ?_|(refine aa.ai (f:=43) ?_;refine aa.he (HE.E5 (r:=some f) rfl rfl (fun w' hw'=>hbl w' _ (hw'.sub (List.Sublist.refl _) aV))) rfl ?_;rintro⟨D_,p_,c_,q_,d_⟩ _;dsimp only[Option.isSome,Option.getD])|fail)
    all_goals first|(exfalso;omega)|skip
    refine aa.he (HE.bC (M0:=aQ cp c ⟨sp,tv,pv,bv,rv,fv,D,L⟩) dt rfl rfl (fun w' hw'=>(hk D_ p_ q_ c_ d_ w' (hw'.cF dM aV)).mono fun _ _ h=>h.xO rfl)) rfl ?_
    rintro⟨sp1,tv1,pv1,bv1,rv1,fv1,D1,L1⟩ hg1
    dsimp only[aQ,aS,List.cons_append,List.nil_append]at hg1 ⊢
    repeat'(first|refine ar ?_|fail)
    all_goals exact ne
   ·repeat'(first|refine ar ?_|(refine aC fun b_=>?_)|refine Ls ?_|(refine au fun b_=>?_)|refine Ho ?_|(refine aa.ai (f:=43) ?_;refine aa.he (HE.E5 (r:=some f) rfl rfl (fun w' hw'=>hbl w' _ (hw'.sub (List.Sublist.refl _) aV))) rfl ?_;rintro⟨D_,p_,c_,q_,d_⟩ _;dsimp only[Option.isSome,Option.getD])|fail)
    all_goals first|(exfalso;omega)|skip
    refine aa.he (HE.bC (M0:=aQ cp c ⟨sp,tv,pv,bv,rv,fv,D,L⟩) dt rfl rfl (fun w' hw'=>(hk D_ p_ q_ c_ d_ w' (hw'.cF dM aV)).mono fun _ _ h=>h.bad (q:=e1) rfl he1)) rfl ?_
    rintro _ _
    dsimp only[List.nil_append]
    repeat'(first|refine ar ?_|fail)
    all_goals exact pi
set_option maxHeartbeats 8000000 in
theorem ql (B:Nat) (F:Nat→Prop) (cp:Nat) (c:di) (v:iY) (m:aj) (locals:List Int) (sv:Value) (x:cJ) (lp pt pl:Option Addr) (lc ct cl:Nat) (w:World) (hw:Ok (aQ cp c v) (nP B F m sv locals (.slice lp locals.length lc) x (.slice pt x.types.length ct) (.slice pl x.labels.length cl)) w) (hg:v.Good c) (hwf:c.Wf) (_hb:c.broken=0) (hp:cq x=true) (hop:jy x.op) (hts:(c.ao.ts.length+1)*8≤140737488355328):Calls G.P 16 #[.pointer (some ⟨cp,0,none⟩),sv,.slice lp locals.length lc,.agg #[Value.int .i64 x.op,Value.int .i64 x.a,Value.int .i64 x.b,Value.int .u64 x.n,Value.int .i64 x.kind,Value.int .i64 x.val,Value.int .i64 x.index,Value.slice pt x.types.length ct,Value.slice pl x.labels.length cl]] w (aD (aQ cp c v) cp ({c with ao:=(gH c.ao x.op).1},(gH c.ao x.op).2) w):=by
 refine ae (l:=[_,_,_,_]) Tryz.func16 rfl Tryz.ntmps16 rfl (Ok.dj hw) ?_;generalize hS:Mb (aQ cp c v)=S0;unfold nP;obtain⟨sp,tv,pv,bv,rv,fv,D,L⟩:=v;dsimp only[aQ,aS,List.cons_append,List.nil_append];have hno:=fun w' M (hw':Ok M _ w')=>kn (B:=B) (F:=F) (m:=m) (locals:=locals) (sv:=sv) (lv:=.slice lp locals.length lc) (x:=x) (pt:=pt) (pl:=pl) (ct:=ct) (cl:=cl) hw';rw[hp]at hno
 have hop':=hop
 unfold jy at hop
 rcases hop with hop|hop|hop
 all_goals
  repeat'(first|refine ar ?_|(refine aC fun b_=>?_)|refine B9 ?_|fail)
  all_goals first|(exfalso;omega)|skip
  refine aZ.cT [.aT b_ [Value.int .i64 x.op,Value.int .i64 x.a,Value.int .i64 x.b,Value.int .u64 x.n,Value.int .i64 x.kind,Value.int .i64 x.val,Value.int .i64 x.index,Value.slice pt x.types.length ct,Value.slice pl x.labels.length cl] Hh] [] bc aV ?_
  repeat'(first|refine og ?_|(refine av.ep 23 ?_;refine av.he rfl rfl (HE.dX rfl rfl (fun w' hw'=>fi cp ⟨sp,0,none⟩ w' (hw'.c1 aA Ml))) (fun _=>bc) (fun _=>aV) ?_;rintro⟨⟩ _)|(refine av.ep 47 ?_;refine av.he rfl rfl (HE.bC (M0:=aS sp c.ao (tv,pv)) dt rfl rfl (fun w' hw'=>Az sp c.ao (tv,pv) x.op hop' w' (hw'.cF dM (fun p hp=>absurd hp Mk)) hwf.ao hts)) (fun _=>by dsimp only[aS,List.cons_append,List.nil_append];exact bc) (fun _=>aV) ?_;rintro⟨tvb,pvb⟩ _;dsimp only[aS,List.cons_append,List.nil_append])|refine aP.nil LX ?_|refine aP.any LX ?_|exact aN.fin rfl|refine aN.skip LX ?_|refine aN.go ?_ ?_)
  all_goals
   repeat'(first|refine ar ?_|fail)
   exact ah.aB rfl rfl fun w' hw'=>by
    by_cases h2:(gH c.ao x.op).2=0
    ·have:=aD.ok (cp:=cp) (r:=({c with ao:=(gH c.ao x.op).1},(gH c.ao x.op).2)) (⟨sp,tvb,pvb,bv,rv,fv,D,L⟩:iY) h2 ⟨hg.len,hg.fr,hg.rs⟩ hS hw' LD ak
     rw[show Value.int .i64 (gH c.ao x.op).2=.int .i64 0 by rw[h2]];exact this
    ·exact aD.err _ rfl h2 hS hw' ak
end Go.Proofs.YtgbgnipidakdhaaGreatDoor
