/- rule.pick of select. Printed by gen_uq.py 27. -/
import Derived.Test.YtceedealggognaaGreatDoorJUq
import Derived.Test.YtceedealggognaaGreatDoorJUt
import Derived.Test.YtceedealggognaaGreatDoorJAr
namespace Go.Proofs.YtceedealggognaaGreatDoor
open Go.RowKit
set_option maxRecDepth 100000
set_option maxHeartbeats 16000000 in
theorem rm (sp:Nat) (s:cU) (y:Value×Value) (op:Int) (ho:op=27) (w:World) (hw:Ok (ax sp s y) [] w) (hwf:s.Wf) (hb:(s.ts.length+1)*8≤140737488355328):Calls G.P 58 #[.pointer (some ⟨sp,0,none⟩),.int .i64 op] w (dh sp s y (.int .i64 (eY s op).2) (eY s op).1 w):=by
 obtain⟨tv,pv⟩:=y
 have hp:=hwf.some
 have h0:=hwf.at_.1
 have hle:=hwf.at_.2
 unfold eY
 simp only[if_pos ho]
 have n26:¬op=26:=by omega
 have n209:¬op=209:=by omega
 simp only[if_neg n26,if_neg n209]
 have hw0:=dp hwf [1]
 have ht0:=dn s [1]
 refine aj (l:=[_,_]) Tryz.func58 rfl Tryz.ntmps58 rfl (Ok.bV hw) ?_;unfold dh;generalize hS:Mb (ax sp s (tv,pv))=S0;dsimp only[ax]
 repeat'(first|refine ay ?_|(refine fP fun b_ _=>?_)|(refine aY ?_ ?_<;>intro hc_))
 obtain⟨b0,rfl⟩:∃y:Nat,y=b_:=⟨_,rfl⟩
 refine aa.freeze (q:=.aH b0 [.int .i64 1] eV) (fun w=>af (fun k=>k=b0) w (.slice (some ⟨b0,0,none⟩) 1 1) [1]) gV (fun w' h _=>eQ h) ?_
 refine aa.he (HE.aS (M0:=ax sp s (tv,pv)) cv rfl rfl (fun w' hw'=>dN (fun k=>k=b0) sp s (tv,pv) (.slice (some ⟨b0,0,none⟩) 1 1) [1] w' (hw'.bT cM aX) hp h0 hle)) rfl ?_
 rintro⟨tv0,pv0⟩ _
 obtain⟨r0,hr0⟩:∃r,aO s [1]=r:=⟨_,rfl⟩
 rw[hr0]at hw0 ht0 ⊢
 obtain⟨s0,e0⟩:=r0
 dsimp only[ax,List.cons_append,List.nil_append]at hw0 ht0 ⊢
 by_cases nc:e0=0
 ·subst nc
  repeat rw[if_neg (show¬((0:Int)≠0)from fun h=>h rfl)]
  repeat'(first|refine ay ?_|(refine aY ?_ ?_<;>intro hc_))
  refine aa.he (HE.aS (M0:=ax sp s0 (tv0,pv0)) cv rfl rfl (fun w' hw'=>jx sp s0 (tv0,pv0) w' (hw'.bT cM (fun p hp=>absurd hp FZ)) hw0.some hw0.at_.1)) rfl ?_
  rintro⟨tv1,pv1⟩ _
  obtain⟨pr1,hpr1⟩:∃r,aZ s0=r:=⟨_,rfl⟩
  have wf1:(aZ s0).1.Wf:=jP hw0
  have tl1:(aZ s0).1.ts.length≤s0.ts.length:=jO s0
  rw[hpr1]at wf1 tl1 ⊢
  obtain⟨s1,a1,e1⟩:=pr1
  dsimp only[ax,List.cons_append,List.nil_append]at wf1 tl1 ⊢
  by_cases he:e1=0
  ·subst he
   repeat rw[if_neg (show¬((0:Int)≠0)from fun h=>h rfl)]
   repeat'(first|refine ay ?_|(refine aY ?_ ?_<;>intro hc_))
   refine rt ?_
   rintro⟨tv2,pv2⟩ _
   obtain⟨pr2,hpr2⟩:∃r,aZ s1=r:=⟨_,rfl⟩
   have zB:(aZ s1).1.Wf:=jP wf1
   have tl2:(aZ s1).1.ts.length≤s1.ts.length:=jO s1
   rw[hpr2]at zB tl2 ⊢
   obtain⟨s2,a2,e2⟩:=pr2
   dsimp only[ax,List.cons_append,List.nil_append]at zB tl2 ⊢
   by_cases he2:e2=0
   ·subst he2
    repeat rw[if_neg (show¬((0:Int)≠0)from fun h=>h rfl)]
    cases ra:mI a1 with
    |true=>
     have k1:∀w',Calls G.P 97 #[.int .i64 a1] w' fun e w2=>e=.returned (.bool true)∧Ext w' w2:=fun w'=>by have:=mg a1 w';rwa[ra]at this
     have hbad:a1=3∨a1=4∨a2=3∨a2=4∨(a1≠a2∧a1≠0∧a2≠0):=by unfold mI at ra;simp only[Bool.or_eq_true,decide_eq_true_eq]at ra;omega
     repeat rw[if_pos hbad]
     clear hbad ra
     repeat'(first|refine ay ?_|refine Ft ?_|(refine aY ?_ ?_<;>intro hc_))
     all_goals exact ip
    |false=>
     have k1:∀w',Calls G.P 97 #[.int .i64 a1] w' fun e w2=>e=.returned (.bool false)∧Ext w' w2:=fun w'=>by have:=mg a1 w';rwa[ra]at this
     have n1:a1≠3∧a1≠4:=by unfold mI at ra;simp only[Bool.or_eq_false_iff,decide_eq_false_iff_not]at ra;exact ra
     obtain⟨n13,n14⟩:=n1
     clear ra
     cases rb:mI a2 with
     |true=>
      have k2:∀w',Calls G.P 97 #[.int .i64 a2] w' fun e w2=>e=.returned (.bool true)∧Ext w' w2:=fun w'=>by have:=mg a2 w';rwa[rb]at this
      have hbad:a1=3∨a1=4∨a2=3∨a2=4∨(a1≠a2∧a1≠0∧a2≠0):=by unfold mI at rb;simp only[Bool.or_eq_true,decide_eq_true_eq]at rb;omega
      repeat rw[if_pos hbad]
      clear hbad rb
      repeat'(first|refine ay ?_|refine Ft ?_|(refine aa.dV (f:=97) F0 rfl rfl rfl (fun w' _=>k2 w') ?_)|(refine aY ?_ ?_<;>intro hc_))
      all_goals exact ip
     |false=>
      have k2:∀w',Calls G.P 97 #[.int .i64 a2] w' fun e w2=>e=.returned (.bool false)∧Ext w' w2:=fun w'=>by have:=mg a2 w';rwa[rb]at this
      have n2:a2≠3∧a2≠4:=by unfold mI at rb;simp only[Bool.or_eq_false_iff,decide_eq_false_iff_not]at rb;exact rb
      obtain⟨n23,n24⟩:=n2
      clear rb
      by_cases z:a1≠a2∧a1≠0∧a2≠0
      ·repeat rw[if_pos (show a1=3∨a1=4∨a2=3∨a2=4∨(a1≠a2∧a1≠0∧a2≠0)from .inr (.inr (.inr (.inr z))))]
       obtain⟨q1,q2,q3⟩:=z
       repeat'(first|refine ay ?_|refine Ft ?_|(refine aa.dV (f:=97) F0 rfl rfl rfl (fun w' _=>k2 w') ?_)|(refine aY ?_ ?_<;>intro hc_))
       all_goals exact ip
      ·repeat rw[if_neg (show¬(a1=3∨a1=4∨a2=3∨a2=4∨(a1≠a2∧a1≠0∧a2≠0))from fun h=>by rcases h with h|h|h|h|h;exact n13 h;exact n14 h;exact n23 h;exact n24 h;exact z h)]
       have hfin:(s2.ts.length+1)*8≤140737488355328:=by clear n13 n14 n23 n24 n26 n209 z;omega
       clear n13 n14 n23 n24 n26 n209 hr0 hpr1 hpr2 ht0 tl1 tl2 hb
       have wf2s:=zB.some
       by_cases z1:a1=0
       ·subst z1
        rw[if_pos rfl]
        clear z
        repeat'(first|refine ay ?_|refine Ft ?_|(refine aa.dV (f:=97) F0 rfl rfl rfl (fun w' _=>k2 w') ?_)|(refine fP fun b_ _=>?_)|(refine aY ?_ ?_<;>intro hc_))
        all_goals first|(exfalso;omega)|skip
        all_goals
         obtain⟨bl,rfl⟩:∃y:Nat,y=b_:=⟨_,rfl⟩
         try simp only[List.getElem_toArray,List.getElem_cons_succ,List.getElem_cons_zero]
         refine aa.freeze (q:=.aH bl [.int .i64 a2] eV) (fun w=>af (fun k=>k=bl) w (.slice (some ⟨bl,0,none⟩) 1 1) [a2]) gV (fun w' h _=>eQ h) ?_
         refine aa.he (HE.aS (M0:=ax sp s2 (tv2,pv2)) cv rfl rfl (fun w' hw'=>eo (fun k=>k=bl) sp s2 (tv2,pv2) (.slice (some ⟨bl,0,none⟩) 1 1) [a2] w' (hw'.bT cM aX) wf2s (by show(s2.ts.length+1)*8≤_;omega))) rfl ?_
         rintro⟨tv3,pv3⟩ _
         dsimp only[ax,List.cons_append,List.nil_append]
         repeat'(first|refine ay ?_|(refine aY ?_ ?_<;>intro hc_))
         all_goals exact jp
       ·rw[if_neg z1]
        by_cases z2:a1=a2
        ·subst z2
         clear z
         repeat'(first|refine ay ?_|refine Ft ?_|(refine aa.dV (f:=97) F0 rfl rfl rfl (fun w' _=>k2 w') ?_)|(refine fP fun b_ _=>?_)|(refine aY ?_ ?_<;>intro hc_))
         all_goals first|(exfalso;omega)|skip
         all_goals
          obtain⟨bl,rfl⟩:∃y:Nat,y=b_:=⟨_,rfl⟩
          try simp only[List.getElem_toArray,List.getElem_cons_succ,List.getElem_cons_zero]
          refine aa.freeze (q:=.aH bl [.int .i64 a1] eV) (fun w=>af (fun k=>k=bl) w (.slice (some ⟨bl,0,none⟩) 1 1) [a1]) gV (fun w' h _=>eQ h) ?_
          refine aa.he (HE.aS (M0:=ax sp s2 (tv2,pv2)) cv rfl rfl (fun w' hw'=>eo (fun k=>k=bl) sp s2 (tv2,pv2) (.slice (some ⟨bl,0,none⟩) 1 1) [a1] w' (hw'.bT cM aX) wf2s (by show(s2.ts.length+1)*8≤_;omega))) rfl ?_
          rintro⟨tv3,pv3⟩ _
          dsimp only[ax,List.cons_append,List.nil_append]
          repeat'(first|refine ay ?_|(refine aY ?_ ?_<;>intro hc_))
          all_goals exact jp
        ·have z3:a2=0:=Classical.byContradiction fun h=>z ⟨z2,z1,h⟩
         subst z3
         clear z
         repeat'(first|refine ay ?_|refine Ft ?_|(refine aa.dV (f:=97) F0 rfl rfl rfl (fun w' _=>k2 w') ?_)|(refine fP fun b_ _=>?_)|(refine aY ?_ ?_<;>intro hc_))
         all_goals first|(exfalso;omega)|skip
         all_goals
          obtain⟨bl,rfl⟩:∃y:Nat,y=b_:=⟨_,rfl⟩
          try simp only[List.getElem_toArray,List.getElem_cons_succ,List.getElem_cons_zero]
          refine aa.freeze (q:=.aH bl [.int .i64 a1] eV) (fun w=>af (fun k=>k=bl) w (.slice (some ⟨bl,0,none⟩) 1 1) [a1]) gV (fun w' h _=>eQ h) ?_
          refine aa.he (HE.aS (M0:=ax sp s2 (tv2,pv2)) cv rfl rfl (fun w' hw'=>eo (fun k=>k=bl) sp s2 (tv2,pv2) (.slice (some ⟨bl,0,none⟩) 1 1) [a1] w' (hw'.bT cM aX) wf2s (by show(s2.ts.length+1)*8≤_;omega))) rfl ?_
          rintro⟨tv3,pv3⟩ _
          dsimp only[ax,List.cons_append,List.nil_append]
          repeat'(first|refine ay ?_|(refine aY ?_ ?_<;>intro hc_))
          all_goals exact jp
   ·repeat rw[if_pos he2]
    repeat'(first|refine ay ?_|(refine aY ?_ ?_<;>intro hc_))
    all_goals exact ip
  ·repeat rw[if_pos he]
   repeat'(first|refine ay ?_|(refine aY ?_ ?_<;>intro hc_))
   all_goals exact kw
 ·repeat rw[if_pos nc]
  repeat'(first|refine ay ?_|(refine aY ?_ ?_<;>intro hc_))
  all_goals first|omega|exact ai.aA rfl rfl fun w' hw'=>aq.lU (x:=(tv0,pv0)) trivial hS hw' cM ao
theorem wv (sp:Nat) (s:cU) (y:Value×Value) (op:Int) (ho:kr op) (w:World) (hw:Ok (ax sp s y) [] w) (hwf:s.Wf) (hb:(s.ts.length+1)*8≤140737488355328):Calls G.P 58 #[.pointer (some ⟨sp,0,none⟩),.int .i64 op] w (dh sp s y (.int .i64 (eY s op).2) (eY s op).1 w):=by
 unfold kr at ho
 rcases ho with h|h|h
 ·have:=rl sp s y op h w hw hwf
  have e:eY s op=((aZ s).1,(aZ s).2.2):=by
   unfold eY
   have n27:¬op=27:=by omega
   simp only[if_neg n27,if_pos h]
   by_cases h2:(aZ s).2.2=0
   ·simp[h2]
   ·simp[h2]
  rw[e];exact this
 ·exact rm sp s y op h w hw hwf hb
 ·have:=pG sp s y op h w hw hwf hb
  have e:eY s op=(if(aZ s).2.2≠0 then(aZ s).1 else if(aZ s).2.1=1∨(aZ s).2.1=2 then(aZ s).1 else fO (aZ s).1 [1],if(aZ s).2.2≠0 then(aZ s).2.2 else if(aZ s).2.1=1∨(aZ s).2.1=2 then 12 else 0):=by
   unfold eY
   have n27:¬op=27:=by omega
   have n26:¬op=26:=by omega
   simp only[if_neg n27,if_neg n26,if_pos h]
   by_cases h2:(aZ s).2.2=0
   ·by_cases h3:(aZ s).2.1=1∨(aZ s).2.1=2
    ·simp[h2,h3]
    ·simp[h2,h3]
   ·simp[h2]
  rw[e];exact this
section
variable {n:Nat} {E:Env} {M:List aU} {R:List (World→Prop)} {f:Nat} {args:List Operand} {tys:Array TypeId} {vs:List Value}
theorem HE.AW {r:Option aC} (hf:G.fb[f]?=some true) (ha:ji E args=some vs) (hc:∀w,Ok M R w→Calls G.P f vs.toArray w (kh r (fun _=>False) w)):
  HE n (.call ⟨.value (.func f),args.toArray,tys⟩) E M R (fun _:yw=>True) (fun x=>.tuple #[.agg #[.slice x.p (r.getD gw).params.length x.c,.slice x.q (r.getD gw).results.length x.d],.bool r.isSome]) (fun _=>M) (fun x=>tt (r.getD gw) x::R):=
 ⟨fun w hw=>(bC.call hf ha (hc w hw) (fun e w' h=>by obtain⟨⟨x,e1,_⟩,_⟩:=h;exact⟨_,e1⟩)).mono fun v w' ⟨⟨⟨x1,x2⟩,e1,hv⟩,hx⟩=>by
  cases e1
  obtain⟨⟨p,c,rfl⟩,⟨q,d,rfl⟩⟩:=hv.shape
  refine⟨⟨fun k=>False∨w.heap.size≤k,p,c,q,d⟩,trivial,rfl,(hw.ext hx).add fun w2 h2=>eO.fr _ hv h2 fun k _ hk hm=>?_⟩
  rcases hk with hk|hk
  ·exact hk
  ·obtain⟨q,hq,hk'⟩:=hm
   have:=(hw.m q hq).2 k hk';omega⟩
end
theorem oH {g g':Prop} (h:g') (hw:dP g'→g:=by(intro hk_;(first|refine Fq ?_|refine Fj ?_|refine Fi ?_);exact hk_.out)):g:=hw ⟨h⟩
set_option maxHeartbeats 8000000 in
theorem nr (B:Nat) (F:Nat→Prop) (cp:Nat) (c:dq) (v:fJ) (m:ae) (locals:List Int) (sv:Value) (x:bZ) (lp pt pl:Option Addr) (lc ct cl:Nat) (w:World) (hw:Ok (aw cp c v) (lF B F m sv locals (.slice lp locals.length lc) x (.slice pt x.types.length ct) (.slice pl x.labels.length cl)) w) (hg:v.Good c) (hwf:c.Wf) (hb:c.broken=0) (hp:cW x=true) (hop:x.op=5) (hfl:c.fs.length≤1000) (hts:(c.aF.ts.length+c.top.par.length)*8≤140737488355328):Calls G.P 35 #[.pointer (some ⟨cp,0,none⟩),sv,.slice lp locals.length lc,.agg #[Value.int .i64 x.op,Value.int .i64 x.a,Value.int .i64 x.b,Value.int .u64 x.n,Value.int .i64 x.kind,Value.int .i64 x.val,Value.int .i64 x.index,Value.slice pt x.types.length ct,Value.slice pl x.labels.length cl]] w (ar (aw cp c v) cp (lP c) w):=by
 refine aj (l:=[_,_,_,_]) Tryz.func35 rfl Tryz.ntmps35 rfl (Ok.bV hw) ?_;generalize hS:Mb (aw cp c v)=S0;unfold lF;obtain⟨sp,tv,pv,bv,rv,fv,D,L⟩:=v;dsimp only[aw,ax,List.cons_append,List.nil_append];have hno:=fun w' M (hw':Ok M _ w')=>iO (B:=B) (F:=F) (m:=m) (locals:=locals) (sv:=sv) (lv:=.slice lp locals.length lc) (x:=x) (pt:=pt) (pl:=pl) (ct:=ct) (cl:=cl) hw';rw[hp]at hno
 obtain⟨r,hr⟩:∃r,lP c=r:=⟨_,rfl⟩
 have hk:∀w',Ok (aw cp c ⟨sp,tv,pv,bv,rv,fv,D,L⟩) [] w'→Calls G.P 54 #[.pointer (some ⟨cp,0,none⟩)] w' (ar (aw cp c ⟨sp,tv,pv,bv,rv,fv,D,L⟩) cp r w'):=fun w' hw'=>by rw[←hr];exact vB cp c ⟨sp,tv,pv,bv,rv,fv,D,L⟩ w' hw' hg hb hwf hfl hts
 rw[hr]
 clear hr
 obtain⟨c1,e1⟩:=r
 by_cases he1:e1=0
 ·subst he1
  repeat'(first|refine ay ?_|(refine br fun b_=>?_)|refine oH ?_|fail)
  all_goals first|(exfalso;omega)|skip
  refine ED ?_
  rintro⟨sp1,tv1,pv1,bv1,rv1,fv1,D1,L1⟩ hg1
  dsimp only[aw,ax,List.cons_append,List.nil_append]at hg1 ⊢
  repeat'(first|refine ay ?_|fail)
  all_goals exact li
 ·repeat'(first|refine ay ?_|(refine br fun b_=>?_)|refine oH ?_|fail)
  all_goals first|(exfalso;omega)|skip
  refine EE ?_
  rintro _ _
  dsimp only[List.nil_append]
  repeat'(first|refine ay ?_|fail)
  all_goals exact lm
set_option maxHeartbeats 8000000 in
theorem oK (B:Nat) (F:Nat→Prop) (cp:Nat) (c:dq) (v:fJ) (m:ae) (locals:List Int) (sv:Value) (x:bZ) (lp pt pl:Option Addr) (lc ct cl:Nat) (w:World) (hw:Ok (aw cp c v) (lF B F m sv locals (.slice lp locals.length lc) x (.slice pt x.types.length ct) (.slice pl x.labels.length cl)) w) (hg:v.Good c) (hwf:c.Wf) (hb:c.broken=0) (hp:cW x=true) (hop:x.op=11) (hfl:c.fs.length≤1000) (hts:(c.aF.ts.length+c.top.res.length)*8≤140737488355328):Calls G.P 35 #[.pointer (some ⟨cp,0,none⟩),sv,.slice lp locals.length lc,.agg #[Value.int .i64 x.op,Value.int .i64 x.a,Value.int .i64 x.b,Value.int .u64 x.n,Value.int .i64 x.kind,Value.int .i64 x.val,Value.int .i64 x.index,Value.slice pt x.types.length ct,Value.slice pl x.labels.length cl]] w (ar (aw cp c v) cp (jL c) w):=by
 refine aj (l:=[_,_,_,_]) Tryz.func35 rfl Tryz.ntmps35 rfl (Ok.bV hw) ?_;generalize hS:Mb (aw cp c v)=S0;unfold lF;obtain⟨sp,tv,pv,bv,rv,fv,D,L⟩:=v;dsimp only[aw,ax,List.cons_append,List.nil_append];have hno:=fun w' M (hw':Ok M _ w')=>iO (B:=B) (F:=F) (m:=m) (locals:=locals) (sv:=sv) (lv:=.slice lp locals.length lc) (x:=x) (pt:=pt) (pl:=pl) (ct:=ct) (cl:=cl) hw';rw[hp]at hno
 obtain⟨r,hr⟩:∃r,jL c=r:=⟨_,rfl⟩
 have hk:∀w',Ok (aw cp c ⟨sp,tv,pv,bv,rv,fv,D,L⟩) [] w'→Calls G.P 55 #[.pointer (some ⟨cp,0,none⟩)] w' (ar (aw cp c ⟨sp,tv,pv,bv,rv,fv,D,L⟩) cp r w'):=fun w' hw'=>by rw[←hr];exact tH cp c ⟨sp,tv,pv,bv,rv,fv,D,L⟩ w' hw' hg hb hwf hfl hts
 rw[hr]
 clear hr
 obtain⟨c1,e1⟩:=r
 by_cases he1:e1=0
 ·subst he1
  repeat'(first|refine ay ?_|(refine br fun b_=>?_)|refine oH ?_|fail)
  all_goals first|(exfalso;omega)|skip
  refine ED ?_
  rintro⟨sp1,tv1,pv1,bv1,rv1,fv1,D1,L1⟩ hg1
  dsimp only[aw,ax,List.cons_append,List.nil_append]at hg1 ⊢
  repeat'(first|refine ay ?_|fail)
  all_goals exact li
 ·repeat'(first|refine ay ?_|(refine br fun b_=>?_)|refine oH ?_|fail)
  all_goals first|(exfalso;omega)|skip
  refine EE ?_
  rintro _ _
  dsimp only[List.nil_append]
  repeat'(first|refine ay ?_|fail)
  all_goals exact lm
set_option maxHeartbeats 8000000 in
theorem ns (B:Nat) (F:Nat→Prop) (cp:Nat) (c:dq) (v:fJ) (m:ae) (locals:List Int) (sv:Value) (x:bZ) (lp pt pl:Option Addr) (lc ct cl:Nat) (w:World) (hw:Ok (aw cp c v) (lF B F m sv locals (.slice lp locals.length lc) x (.slice pt x.types.length ct) (.slice pl x.labels.length cl)) w) (hg:v.Good c) (hwf:c.Wf) (hb:c.broken=0) (hp:cW x=true) (hop:jumps x.op) (hres:c.results.length≤100000000000) (hlb:∀n,(bR c n).1.length≤100000000000) (hll:x.labels.length≤10000000) (hts:c.aF.ts.length≤1000000000000):Calls G.P 35 #[.pointer (some ⟨cp,0,none⟩),sv,.slice lp locals.length lc,.agg #[Value.int .i64 x.op,Value.int .i64 x.a,Value.int .i64 x.b,Value.int .u64 x.n,Value.int .i64 x.kind,Value.int .i64 x.val,Value.int .i64 x.index,Value.slice pt x.types.length ct,Value.slice pl x.labels.length cl]] w (ar (aw cp c v) cp (kD c x) w):=by
 have hI:=hw.get (p:=fun w=>af F w (.slice pl x.labels.length cl) x.labels) FV
 refine aj (l:=[_,_,_,_]) Tryz.func35 rfl Tryz.ntmps35 rfl (Ok.bV hw) ?_;generalize hS:Mb (aw cp c v)=S0;unfold lF;obtain⟨sp,tv,pv,bv,rv,fv,D,L⟩:=v;dsimp only[aw,ax,List.cons_append,List.nil_append];have hno:=fun w' M (hw':Ok M _ w')=>iO (B:=B) (F:=F) (m:=m) (locals:=locals) (sv:=sv) (lv:=.slice lp locals.length lc) (x:=x) (pt:=pt) (pl:=pl) (ct:=ct) (cl:=cl) hw';rw[hp]at hno
 have hop':=hop
 unfold jumps at hop
 rcases hop with hop|hop|hop|hop
 all_goals
  obtain⟨r,hr⟩:∃r,kD c x=r:=⟨_,rfl⟩
  have hk:∀w',Ok (aw cp c ⟨sp,tv,pv,bv,rv,fv,D,L⟩) [fun w=>af F w (.slice pl x.labels.length cl) x.labels] w'→Calls G.P 57 #[.pointer (some ⟨cp,0,none⟩),.agg #[Value.int .i64 x.op,Value.int .i64 x.a,Value.int .i64 x.b,Value.int .u64 x.n,Value.int .i64 x.kind,Value.int .i64 x.val,Value.int .i64 x.index,Value.slice pt x.types.length ct,Value.slice pl x.labels.length cl]] w' (ar (aw cp c ⟨sp,tv,pv,bv,rv,fv,D,L⟩) cp r w'):=fun w' hw'=>by rw[←hr];exact sP F cp c ⟨sp,tv,pv,bv,rv,fv,D,L⟩ x pt pl ct cl w' hw' hg hb hwf hres hlb hll hop' hts
  rw[hr]
  clear hr
  obtain⟨c1,e1⟩:=r
  by_cases he1:e1=0
  ·subst he1
   repeat'(first|refine ay ?_|(refine br fun b_=>?_)|refine oH ?_|fail)
   all_goals first|(exfalso;omega)|skip
   refine ED ?_
   rintro⟨sp1,tv1,pv1,bv1,rv1,fv1,D1,L1⟩ hg1
   dsimp only[aw,ax,List.cons_append,List.nil_append]at hg1 ⊢
   repeat'(first|refine ay ?_|fail)
   all_goals exact li
  ·repeat'(first|refine ay ?_|(refine br fun b_=>?_)|refine oH ?_|fail)
   all_goals first|(exfalso;omega)|skip
   refine EE ?_
   rintro _ _
   dsimp only[List.nil_append]
   repeat'(first|refine ay ?_|fail)
   all_goals exact lm
theorem yc {g g':Prop} (h:g') (hw:dP g'→g:=by(intro hk_;(first|refine Fj ?_|refine Fi ?_);exact hk_.out)):g:=hw ⟨h⟩
set_option maxHeartbeats 8000000 in
theorem nu (B:Nat) (F:Nat→Prop) (cp:Nat) (c:dq) (v:fJ) (m:ae) (locals:List Int) (sv:Value) (x:bZ) (lp pt pl:Option Addr) (lc ct cl:Nat) (w:World) (hw:Ok (aw cp c v) (lF B F m sv locals (.slice lp locals.length lc) x (.slice pt x.types.length ct) (.slice pl x.labels.length cl)) w) (hg:v.Good c) (hwf:c.Wf) (hb:c.broken=0) (hp:cW x=true) (hop:opens x.op) (hfl:c.fs.length≤1000) (hts:∀f,dy m x.kind x.val x.index=some f→(c.aF.ts.length+f.params.length)*8≤140737488355328):Calls G.P 35 #[.pointer (some ⟨cp,0,none⟩),sv,.slice lp locals.length lc,.agg #[Value.int .i64 x.op,Value.int .i64 x.a,Value.int .i64 x.b,Value.int .u64 x.n,Value.int .i64 x.kind,Value.int .i64 x.val,Value.int .i64 x.index,Value.slice pt x.types.length ct,Value.slice pl x.labels.length cl]] w (ar (aw cp c v) cp (match dy m x.kind x.val x.index with|none=>(c,11)|some f=>hO c x.op f.params f.results) w):=by
 refine aj (l:=[_,_,_,_]) Tryz.func35 rfl Tryz.ntmps35 rfl (Ok.bV hw) ?_;generalize hS:Mb (aw cp c v)=S0;unfold lF;obtain⟨sp,tv,pv,bv,rv,fv,D,L⟩:=v;dsimp only[aw,ax,List.cons_append,List.nil_append];have hno:=fun w' M (hw':Ok M _ w')=>iO (B:=B) (F:=F) (m:=m) (locals:=locals) (sv:=sv) (lv:=.slice lp locals.length lc) (x:=x) (pt:=pt) (pl:=pl) (ct:=ct) (cl:=cl) hw';rw[hp]at hno
 have hbl:=fun w' M (hw':Ok M [fun w=>aV B m w sv] w')=>kx B m sv x.kind x.val x.index w' (hw'.get (p:=fun w=>aV B m w sv) FZ)
 generalize dy m x.kind x.val x.index=r at hbl hts ⊢
 have hop':=hop
 unfold opens at hop
 cases r with
 |none=>
  dsimp only
  rcases hop with hop|hop|hop
  all_goals
   repeat'(first|refine ay ?_|(refine br fun b_=>?_)|refine Fq ?_|(refine aT fun b_=>?_)|refine yc ?_|(refine aa.ak (f:=52) ?_;refine aa.he (HE.AW (r:=none) rfl rfl (fun w' hw'=>hbl w' _ (hw'.sub (List.Sublist.refl _) aX))) rfl ?_;rintro⟨D_,p_,c_,q_,d_⟩ _;dsimp only[Option.isSome,Option.getD])|fail)
   all_goals first|omega|exact ai.aA rfl rfl fun w' hw'=>ar.err 11 rfl FX hS hw' ao
 |some f=>
  dsimp only
  have hts:=hts f rfl
  rcases hop with hop|hop|hop
  all_goals
   obtain⟨r,hr⟩:∃r,hO c x.op f.params f.results=r:=⟨_,rfl⟩
   have hk:∀(D_:Nat→Prop) (p_ q_:Option Addr) (c_ d_:Nat) w',Ok (aw cp c ⟨sp,tv,pv,bv,rv,fv,D,L⟩) [tt f ⟨D_,p_,c_,q_,d_⟩] w'→Calls G.P 53 #[.pointer (some ⟨cp,0,none⟩),.int .i64 x.op,.agg #[.slice p_ f.params.length c_,.slice q_ f.results.length d_]] w' (ar (aw cp c ⟨sp,tv,pv,bv,rv,fv,D,L⟩) cp r w'):=fun D_ p_ q_ c_ d_ w' hw'=>by rw[←hr];exact tG D_ cp c ⟨sp,tv,pv,bv,rv,fv,D,L⟩ x.op f.params f.results (.slice p_ f.params.length c_,.slice q_ f.results.length d_) w' hw' hg hb hwf hop' hfl hts
   rw[hr]
   clear hr
   obtain⟨c1,e1⟩:=r
   by_cases he1:e1=0
   ·subst he1
    repeat'(first|refine ay ?_|(refine br fun b_=>?_)|refine Fq ?_|(refine aT fun b_=>?_)|refine yc ?_|(refine aa.ak (f:=52) ?_;refine aa.he (HE.AW (r:=some f) rfl rfl (fun w' hw'=>hbl w' _ (hw'.sub (List.Sublist.refl _) aX))) rfl ?_;rintro⟨D_,p_,c_,q_,d_⟩ _;dsimp only[Option.isSome,Option.getD])|fail)
    all_goals first|(exfalso;omega)|skip
    refine aa.he (HE.aS (M0:=aw cp c ⟨sp,tv,pv,bv,rv,fv,D,L⟩) cv rfl rfl (fun w' hw'=>(hk D_ p_ q_ c_ d_ w' (hw'.bT cM aX)).mono fun _ _ h=>h.vH rfl)) rfl ?_
    rintro⟨sp1,tv1,pv1,bv1,rv1,fv1,D1,L1⟩ hg1
    dsimp only[aw,ax,List.cons_append,List.nil_append]at hg1 ⊢
    repeat'(first|refine ay ?_|fail)
    all_goals exact li
   ·repeat'(first|refine ay ?_|(refine br fun b_=>?_)|refine Fq ?_|(refine aT fun b_=>?_)|refine yc ?_|(refine aa.ak (f:=52) ?_;refine aa.he (HE.AW (r:=some f) rfl rfl (fun w' hw'=>hbl w' _ (hw'.sub (List.Sublist.refl _) aX))) rfl ?_;rintro⟨D_,p_,c_,q_,d_⟩ _;dsimp only[Option.isSome,Option.getD])|fail)
    all_goals first|(exfalso;omega)|skip
    refine aa.he (HE.aS (M0:=aw cp c ⟨sp,tv,pv,bv,rv,fv,D,L⟩) cv rfl rfl (fun w' hw'=>(hk D_ p_ q_ c_ d_ w' (hw'.bT cM aX)).mono fun _ _ h=>h.bad (q:=e1) rfl he1)) rfl ?_
    rintro _ _
    dsimp only[List.nil_append]
    repeat'(first|refine ay ?_|fail)
    all_goals exact lm
set_option maxHeartbeats 8000000 in
theorem nw (B:Nat) (F:Nat→Prop) (cp:Nat) (c:dq) (v:fJ) (m:ae) (locals:List Int) (sv:Value) (x:bZ) (lp pt pl:Option Addr) (lc ct cl:Nat) (w:World) (hw:Ok (aw cp c v) (lF B F m sv locals (.slice lp locals.length lc) x (.slice pt x.types.length ct) (.slice pl x.labels.length cl)) w) (hg:v.Good c) (hwf:c.Wf) (_hb:c.broken=0) (hp:cW x=true) (hop:kr x.op) (hts:(c.aF.ts.length+1)*8≤140737488355328):Calls G.P 35 #[.pointer (some ⟨cp,0,none⟩),sv,.slice lp locals.length lc,.agg #[Value.int .i64 x.op,Value.int .i64 x.a,Value.int .i64 x.b,Value.int .u64 x.n,Value.int .i64 x.kind,Value.int .i64 x.val,Value.int .i64 x.index,Value.slice pt x.types.length ct,Value.slice pl x.labels.length cl]] w (ar (aw cp c v) cp ({c with aF:=(eY c.aF x.op).1},(eY c.aF x.op).2) w):=by
 refine aj (l:=[_,_,_,_]) Tryz.func35 rfl Tryz.ntmps35 rfl (Ok.bV hw) ?_;generalize hS:Mb (aw cp c v)=S0;unfold lF;obtain⟨sp,tv,pv,bv,rv,fv,D,L⟩:=v;dsimp only[aw,ax,List.cons_append,List.nil_append];have hno:=fun w' M (hw':Ok M _ w')=>iO (B:=B) (F:=F) (m:=m) (locals:=locals) (sv:=sv) (lv:=.slice lp locals.length lc) (x:=x) (pt:=pt) (pl:=pl) (ct:=ct) (cl:=cl) hw';rw[hp]at hno
 have hop':=hop
 unfold kr at hop
 rcases hop with hop|hop|hop
 all_goals
  repeat'(first|refine ay ?_|(refine br fun b_=>?_)|refine oH ?_|fail)
  all_goals first|(exfalso;omega)|skip
  refine aP.du [.aH b_ [Value.int .i64 x.op,Value.int .i64 x.a,Value.int .i64 x.b,Value.int .u64 x.n,Value.int .i64 x.kind,Value.int .i64 x.val,Value.int .i64 x.index,Value.slice pt x.types.length ct,Value.slice pl x.labels.length cl] CK] [] bN aX ?_
  repeat'(first|refine tx ?_|(refine aK.fe 29 ?_;refine aK.he rfl rfl (HE.kl rfl rfl (fun w' hw'=>da cp ⟨sp,0,none⟩ w' (hw'.c1 bM F0))) (fun _=>bN) (fun _=>aX) ?_;rintro⟨⟩ _)|(refine aK.fe 58 ?_;refine aK.he rfl rfl (HE.aS (M0:=ax sp c.aF (tv,pv)) cv rfl rfl (fun w' hw'=>wv sp c.aF (tv,pv) x.op hop' w' (hw'.bT cM (fun p hp=>absurd hp FZ)) hwf.aF hts)) (fun _=>by dsimp only[ax,List.cons_append,List.nil_append];exact bN) (fun _=>aX) ?_;rintro⟨tvb,pvb⟩ _;dsimp only[ax,List.cons_append,List.nil_append])|refine aN.nil FR ?_|refine aN.any FR ?_|exact aE.fin rfl|refine aE.skip FR ?_|refine aE.go ?_ ?_)
  all_goals
   repeat'(first|refine ay ?_|fail)
   exact ai.aA rfl rfl fun w' hw'=>by
    by_cases h2:(eY c.aF x.op).2=0
    ·have:=ar.ok (cp:=cp) (r:=({c with aF:=(eY c.aF x.op).1},(eY c.aF x.op).2)) (⟨sp,tvb,pvb,bv,rv,fv,D,L⟩:fJ) h2 ⟨hg.len,hg.fr,hg.rs⟩ hS hw' FC ao
     rw[show Value.int .i64 (eY c.aF x.op).2=.int .i64 0 by rw[h2]];exact this
    ·exact ar.err _ rfl h2 hS hw' ao
end Go.Proofs.YtceedealggognaaGreatDoor
