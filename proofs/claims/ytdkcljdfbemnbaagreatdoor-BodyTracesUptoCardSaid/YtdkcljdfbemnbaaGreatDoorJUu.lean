import Derived.Test.YtdkcljdfbemnbaaGreatDoorJOk
import Derived.Test.YtdkcljdfbemnbaaGreatDoorJVcBodyTraces
namespace Go.Proofs.YtdkcljdfbemnbaaGreatDoor
open Go.RowKit _root_.Go.Proofs.Tryz
set_option maxHeartbeats 16000000
open List renaming Sublist→Pv,cons_append→Pq,getElem_cons_succ→P6,getElem_cons_zero→P5,getElem_toArray→P4,nil_append→Pp
open Value renaming int→Pm,slice→Pn
set_option maxRecDepth 100000
variable (sp:Nat) (s:ck) (B:Nat) (F:Nat→Prop) (cp:Nat) (c:dv) (v:jF)
theorem yN (y:Value×Value) (op:Int) (ho:op=27) (w:World) (hw:Ok (aX sp s y) [] w) (hwf:s.Wf) (hb:(s.ts.length+1)*8≤140737488355328):Calls G.P 55 #[.pointer (some ⟨sp,0,none⟩),.int .i64 op] w (fe sp s y (.int .i64 (ic s op).2) (ic s op).1 w):=by
 obtain⟨tv,pv⟩:=y
 have hp:=hwf.some
 have h0:=hwf.at_.1
 have hle:=hwf.at_.2
 unfold ic
 simp only[if_pos ho]
 have n26:¬op=26:=by omega
 have n209:¬op=209:=by omega
 simp only[if_neg n26,if_neg n209]
 have hw0:=dE hwf [1]
 have ht0:=dD s [1]
 refine ae (l:=[_,_]) func55 rfl ntmps55 rfl (Ok.dk hw) ?_;unfold fe;generalize hS:Mb (aX sp s (tv,pv))=S0;dsimp only[aX]
 repeat'(first|refine ar ?_|(refine fC fun b_ _=>?_)|(refine bC ?_ ?_<;>intro hc_))
 obtain⟨b0,rfl⟩:∃y:Nat,y=b_:=⟨_,rfl⟩
 refine aa.freeze (q:=.aW b0 [.int .i64 1] fR) (fun w=>ai (fun k=>k=b0) w (.slice (some ⟨b0,0,none⟩) 1 1) [1]) jH (fun w' h _=>dJ h) ?_
 refine aa.he (HE.bJ (M0:=aX sp s (tv,pv)) dU rfl rfl (fun w' hw'=>gy (fun k=>k=b0) sp s (tv,pv) (.slice (some ⟨b0,0,none⟩) 1 1) [1] w' (hw'.dc dV aU) hp h0 hle)) rfl ?_
 rintro⟨tv0,pv0⟩ _
 obtain⟨r0,hr0⟩:∃r,aL s [1]=r:=⟨_,rfl⟩
 rw[hr0]at hw0 ht0 ⊢
 obtain⟨s0,e0⟩:=r0
 dsimp only[aX,Pq,Pp]at hw0 ht0 ⊢
 by_cases jO:e0=0
 ·subst jO
  repeat rw[if_neg (show¬((0:Int)≠0)from fun h=>h rfl)]
  repeat'(first|refine ar ?_|(refine bC ?_ ?_<;>intro hc_))
  refine aa.he (HE.bJ (M0:=aX sp s0 (tv0,pv0)) dU rfl rfl (fun w' hw'=>mX sp s0 (tv0,pv0) w' (hw'.dc dV (fun p hp=>absurd hp Pj)) hw0.some hw0.at_.1)) rfl ?_
  rintro⟨tv1,pv1⟩ _
  obtain⟨pr1,hpr1⟩:∃r,aZ s0=r:=⟨_,rfl⟩
  have wf1:(aZ s0).1.Wf:=jm hw0
  have tl1:(aZ s0).1.ts.length≤s0.ts.length:=jM s0
  rw[hpr1]at wf1 tl1 ⊢
  obtain⟨s1,a1,e1⟩:=pr1
  dsimp only[aX,Pq,Pp]at wf1 tl1 ⊢
  by_cases he:e1=0
  ·subst he
   repeat rw[if_neg (show¬((0:Int)≠0)from fun h=>h rfl)]
   repeat'(first|refine ar ?_|(refine bC ?_ ?_<;>intro hc_))
   refine MN ?_
   rintro⟨tv2,pv2⟩ _
   obtain⟨pr2,hpr2⟩:∃r,aZ s1=r:=⟨_,rfl⟩
   have zf:(aZ s1).1.Wf:=jm wf1
   have tl2:(aZ s1).1.ts.length≤s1.ts.length:=jM s1
   rw[hpr2]at zf tl2 ⊢
   obtain⟨s2,a2,e2⟩:=pr2
   dsimp only[aX,Pq,Pp]at zf tl2 ⊢
   by_cases he2:e2=0
   ·subst he2
    repeat rw[if_neg (show¬((0:Int)≠0)from fun h=>h rfl)]
    cases ra:rI a1 with
    |true=>
     have k1:∀w',Calls G.P 94 #[.int .i64 a1] w' fun e w2=>e=.returned (.bool true)∧Ext w' w2:=fun w'=>by have:=qZ a1 w';rwa[ra]at this
     have hbad:a1=3∨a1=4∨a2=3∨a2=4∨(a1≠a2∧a1≠0∧a2≠0):=by unfold rI at ra;simp only[Bool.or_eq_true,decide_eq_true_eq]at ra;omega
     repeat rw[if_pos hbad]
     clear hbad ra
     repeat'(first|refine ar ?_|refine OE ?_|(refine bC ?_ ?_<;>intro hc_))
     all_goals exact t8
    |false=>
     have k1:∀w',Calls G.P 94 #[.int .i64 a1] w' fun e w2=>e=.returned (.bool false)∧Ext w' w2:=fun w'=>by have:=qZ a1 w';rwa[ra]at this
     have n1:a1≠3∧a1≠4:=by unfold rI at ra;simp only[Bool.or_eq_false_iff,decide_eq_false_iff_not]at ra;exact ra
     obtain⟨n13,n14⟩:=n1
     clear ra
     cases rb:rI a2 with
     |true=>
      have k2:∀w',Calls G.P 94 #[.int .i64 a2] w' fun e w2=>e=.returned (.bool true)∧Ext w' w2:=fun w'=>by have:=qZ a2 w';rwa[rb]at this
      have hbad:a1=3∨a1=4∨a2=3∨a2=4∨(a1≠a2∧a1≠0∧a2≠0):=by unfold rI at rb;simp only[Bool.or_eq_true,decide_eq_true_eq]at rb;omega
      repeat rw[if_pos hbad]
      clear hbad rb
      repeat'(first|refine ar ?_|refine OE ?_|(refine aa.cB (f:=94) Pk rfl rfl rfl (fun w' _=>k2 w') ?_)|(refine bC ?_ ?_<;>intro hc_))
      all_goals exact t8
     |false=>
      have k2:∀w',Calls G.P 94 #[.int .i64 a2] w' fun e w2=>e=.returned (.bool false)∧Ext w' w2:=fun w'=>by have:=qZ a2 w';rwa[rb]at this
      have n2:a2≠3∧a2≠4:=by unfold rI at rb;simp only[Bool.or_eq_false_iff,decide_eq_false_iff_not]at rb;exact rb
      obtain⟨n23,n24⟩:=n2
      clear rb
      by_cases z:a1≠a2∧a1≠0∧a2≠0
      ·repeat rw[if_pos (show a1=3∨a1=4∨a2=3∨a2=4∨(a1≠a2∧a1≠0∧a2≠0)from .inr (.inr (.inr (.inr z))))]
       obtain⟨q1,q2,q3⟩:=z
       repeat'(first|refine ar ?_|refine OE ?_|(refine aa.cB (f:=94) Pk rfl rfl rfl (fun w' _=>k2 w') ?_)|(refine bC ?_ ?_<;>intro hc_))
       all_goals exact t8
      ·repeat rw[if_neg (show¬(a1=3∨a1=4∨a2=3∨a2=4∨(a1≠a2∧a1≠0∧a2≠0))from fun h=>by rcases h with h|h|h|h|h;exact n13 h;exact n14 h;exact n23 h;exact n24 h;exact z h)]
       have hfin:(s2.ts.length+1)*8≤140737488355328:=by clear n13 n14 n23 n24 n26 n209 z;omega
       clear n13 n14 n23 n24 n26 n209 hr0 hpr1 hpr2 ht0 tl1 tl2 hb
       have wf2s:=zf.some
       by_cases z1:a1=0
       ·subst z1
        rw[if_pos rfl]
        clear z
        repeat'(first|refine ar ?_|refine OE ?_|(refine aa.cB (f:=94) Pk rfl rfl rfl (fun w' _=>k2 w') ?_)|(refine fC fun b_ _=>?_)|(refine bC ?_ ?_<;>intro hc_))
        all_goals first|(exfalso;omega)|skip
        all_goals
         obtain⟨bl,rfl⟩:∃y:Nat,y=b_:=⟨_,rfl⟩
         try simp only[P4,P6,P5]
         refine aa.freeze (q:=.aW bl [.int .i64 a2] fR) (fun w=>ai (fun k=>k=bl) w (.slice (some ⟨bl,0,none⟩) 1 1) [a2]) jH (fun w' h _=>dJ h) ?_
         refine aa.he (HE.bJ (M0:=aX sp s2 (tv2,pv2)) dU rfl rfl (fun w' hw'=>gZ (fun k=>k=bl) sp s2 (tv2,pv2) (.slice (some ⟨bl,0,none⟩) 1 1) [a2] w' (hw'.dc dV aU) wf2s (by show(s2.ts.length+1)*8≤_;omega))) rfl ?_
         rintro⟨tv3,pv3⟩ _
         dsimp only[aX,Pq,Pp]
         repeat'(first|refine ar ?_|(refine bC ?_ ?_<;>intro hc_))
         all_goals exact ul
       ·rw[if_neg z1]
        by_cases z2:a1=a2
        ·subst z2
         clear z
         repeat'(first|refine ar ?_|refine OE ?_|(refine aa.cB (f:=94) Pk rfl rfl rfl (fun w' _=>k2 w') ?_)|(refine fC fun b_ _=>?_)|(refine bC ?_ ?_<;>intro hc_))
         all_goals first|(exfalso;omega)|skip
         all_goals
          obtain⟨bl,rfl⟩:∃y:Nat,y=b_:=⟨_,rfl⟩
          try simp only[P4,P6,P5]
          refine aa.freeze (q:=.aW bl [.int .i64 a1] fR) (fun w=>ai (fun k=>k=bl) w (.slice (some ⟨bl,0,none⟩) 1 1) [a1]) jH (fun w' h _=>dJ h) ?_
          refine aa.he (HE.bJ (M0:=aX sp s2 (tv2,pv2)) dU rfl rfl (fun w' hw'=>gZ (fun k=>k=bl) sp s2 (tv2,pv2) (.slice (some ⟨bl,0,none⟩) 1 1) [a1] w' (hw'.dc dV aU) wf2s (by show(s2.ts.length+1)*8≤_;omega))) rfl ?_
          rintro⟨tv3,pv3⟩ _
          dsimp only[aX,Pq,Pp]
          repeat'(first|refine ar ?_|(refine bC ?_ ?_<;>intro hc_))
          all_goals exact ul
        ·have z3:a2=0:=Classical.byContradiction fun h=>z ⟨z2,z1,h⟩
         subst z3
         clear z
         repeat'(first|refine ar ?_|refine OE ?_|(refine aa.cB (f:=94) Pk rfl rfl rfl (fun w' _=>k2 w') ?_)|(refine fC fun b_ _=>?_)|(refine bC ?_ ?_<;>intro hc_))
         all_goals first|(exfalso;omega)|skip
         all_goals
          obtain⟨bl,rfl⟩:∃y:Nat,y=b_:=⟨_,rfl⟩
          try simp only[P4,P6,P5]
          refine aa.freeze (q:=.aW bl [.int .i64 a1] fR) (fun w=>ai (fun k=>k=bl) w (.slice (some ⟨bl,0,none⟩) 1 1) [a1]) jH (fun w' h _=>dJ h) ?_
          refine aa.he (HE.bJ (M0:=aX sp s2 (tv2,pv2)) dU rfl rfl (fun w' hw'=>gZ (fun k=>k=bl) sp s2 (tv2,pv2) (.slice (some ⟨bl,0,none⟩) 1 1) [a1] w' (hw'.dc dV aU) wf2s (by show(s2.ts.length+1)*8≤_;omega))) rfl ?_
          rintro⟨tv3,pv3⟩ _
          dsimp only[aX,Pq,Pp]
          repeat'(first|refine ar ?_|(refine bC ?_ ?_<;>intro hc_))
          all_goals exact ul
   ·repeat rw[if_pos he2]
    repeat'(first|refine ar ?_|(refine bC ?_ ?_<;>intro hc_))
    all_goals exact t8
  ·repeat rw[if_pos he]
   repeat'(first|refine ar ?_|(refine bC ?_ ?_<;>intro hc_))
   all_goals exact ap
 ·repeat rw[if_pos jO]
  repeat'(first|refine ar ?_|(refine bC ?_ ?_<;>intro hc_))
  all_goals first|omega|exact ah.aG rfl rfl fun w' hw'=>aC.qM (x:=(tv0,pv0)) trivial hS hw' dV ak
theorem Eh (y:Value×Value) (op:Int) (ho:ku op) (w:World) (hw:Ok (aX sp s y) [] w) (hwf:s.Wf) (hb:(s.ts.length+1)*8≤140737488355328):Calls G.P 55 #[.pointer (some ⟨sp,0,none⟩),.int .i64 op] w (fe sp s y (.int .i64 (ic s op).2) (ic s op).1 w):=by
 unfold ku at ho
 rcases ho with h|h|h
 ·have:=yM sp s y op h w hw hwf
  have e:ic s op=((aZ s).1,(aZ s).2.2):=by
   unfold ic
   have n27:¬op=27:=by omega
   simp only[if_neg n27,if_pos h]
   by_cases h2:(aZ s).2.2=0
   ·simp[h2]
   ·simp[h2]
  rw[e];exact this
 ·exact yN sp s y op h w hw hwf hb
 ·have:=wO sp s y op h w hw hwf hb
  have e:ic s op=(if(aZ s).2.2≠0 then(aZ s).1 else if(aZ s).2.1=1∨(aZ s).2.1=2 then(aZ s).1 else aS (aZ s).1 [1],if(aZ s).2.2≠0 then(aZ s).2.2 else if(aZ s).2.1=1∨(aZ s).2.1=2 then 12 else 0):=by
   unfold ic
   have n27:¬op=27:=by omega
   have n26:¬op=26:=by omega
   simp only[if_neg n27,if_neg n26,if_pos h]
   by_cases h2:(aZ s).2.2=0
   ·by_cases h3:(aZ s).2.1=1∨(aZ s).2.1=2
    ·simp[h2,h3]
    ·simp[h2,h3]
   ·simp[h2]
  rw[e];exact this
section
variable {n:Nat} {E:Env} {M:List bu} {R:List (World→Prop)} {f:Nat} {args:List Operand} {tys:Array TypeId} {vs:List Value}
theorem HE.Iv {r:Option aO} (hf:G.fb[f]?=some true) (ha:kJ E args=some vs) (hc:∀w,Ok M R w→Calls G.P f vs.toArray w (iV r (fun _=>False) w)):
  HE n (.call ⟨.value (.func f),args.toArray,tys⟩) E M R (fun _:C4=>True) (fun x=>.tuple #[.agg #[.slice x.p (r.getD dF).params.length x.c,.slice x.q (r.getD dF).results.length x.d],.bool r.isSome]) (fun _=>M) (fun x=>sZ (r.getD dF) x::R):=
 ⟨fun w hw=>(bU.call hf ha (hc w hw) (fun e w' h=>by obtain⟨⟨x,e1,_⟩,_⟩:=h;exact⟨_,e1⟩)).mono fun v w' ⟨⟨⟨x1,x2⟩,e1,hv⟩,hx⟩=>by
  cases e1
  obtain⟨⟨p,c,rfl⟩,⟨q,d,rfl⟩⟩:=hv.shape
  refine⟨⟨fun k=>False∨w.heap.size≤k,p,c,q,d⟩,trivial,rfl,(hw.ext hx).add fun w2 h2=>dH.fr _ hv h2 fun k _ hk hm=>?_⟩
  rcases hk with hk|hk
  ·exact hk
  ·obtain⟨q,hq,hk'⟩:=hm
   have:=(hw.m q hq).2 k hk';omega⟩
end
theorem uj {g g':Prop} (h:g') (hw:eA g'→g:=by(intro hk_;(first|refine OC ?_|refine Oc ?_|refine Ob ?_);exact hk_.out)):g:=hw ⟨h⟩
theorem sQ (m:af) (locals:List Int) (sv:Value) (x:cv) (lp pt pl:Option Addr) (lc ct cl:Nat) (w:World) (hw:Ok (aT cp c v) (qm B F m sv locals (.slice lp locals.length lc) x (.slice pt x.types.length ct) (.slice pl x.labels.length cl)) w) (hg:v.Good c) (hwf:c.Wf) (hb:c.broken=0) (hp:cW x=true) (_hop:x.op=5) (hfl:c.fs.length≤1000) (hts:(c.ao.ts.length+c.top.par.length)*8≤140737488355328):Calls G.P 32 #[.pointer (some ⟨cp,0,none⟩),sv,.slice lp locals.length lc,.agg #[Pm .i64 x.op,Pm .i64 x.a,Pm .i64 x.b,Pm .u64 x.n,Pm .i64 x.kind,Pm .i64 x.val,Pm .i64 x.index,Pn pt x.types.length ct,Pn pl x.labels.length cl]] w (aK (aT cp c v) cp (mF c) w):=by
 refine ae (l:=[_,_,_,_]) func32 rfl ntmps32 rfl (Ok.dk hw) ?_;generalize hS:Mb (aT cp c v)=S0;unfold qm;obtain⟨sp,tv,pv,bv,rv,fv,D,L⟩:=v;dsimp only[aT,aX,Pq,Pp];have hno:=fun w' M (hw':Ok M _ w')=>lW (B:=B) (F:=F) (m:=m) (locals:=locals) (sv:=sv) (lv:=.slice lp locals.length lc) (x:=x) (pt:=pt) (pl:=pl) (ct:=ct) (cl:=cl) hw';rw[hp]at hno
 obtain⟨r,hr⟩:∃r,mF c=r:=⟨_,rfl⟩
 have hk:∀w',Ok (aT cp c ⟨sp,tv,pv,bv,rv,fv,D,L⟩) [] w'→Calls G.P 51 #[.pointer (some ⟨cp,0,none⟩)] w' (aK (aT cp c ⟨sp,tv,pv,bv,rv,fv,D,L⟩) cp r w'):=fun w' hw'=>by rw[←hr];exact Dl cp c ⟨sp,tv,pv,bv,rv,fv,D,L⟩ w' hw' hg hb hwf hfl hts
 rw[hr]
 clear hr
 obtain⟨c1,e1⟩:=r
 by_cases he1:e1=0
 ·subst he1
  repeat'(first|refine ar ?_|(refine aF fun b_=>?_)|refine uj ?_|fail)
  all_goals first|(exfalso;omega)|skip
  refine MU ?_
  rintro⟨sp1,tv1,pv1,bv1,rv1,fv1,D1,L1⟩ hg1
  dsimp only[aT,aX,Pq,Pp]at hg1 ⊢
  repeat'(first|refine ar ?_|fail)
  all_goals exact ut
 ·repeat'(first|refine ar ?_|(refine aF fun b_=>?_)|refine uj ?_|fail)
  all_goals first|(exfalso;omega)|skip
  refine MV ?_
  rintro _ _
  dsimp only[Pp]
  repeat'(first|refine ar ?_|fail)
  all_goals exact wd
theorem vg (m:af) (locals:List Int) (sv:Value) (x:cv) (lp pt pl:Option Addr) (lc ct cl:Nat) (w:World) (hw:Ok (aT cp c v) (qm B F m sv locals (.slice lp locals.length lc) x (.slice pt x.types.length ct) (.slice pl x.labels.length cl)) w) (hg:v.Good c) (hwf:c.Wf) (hb:c.broken=0) (hp:cW x=true) (_hop:x.op=11) (hfl:c.fs.length≤1000) (hts:(c.ao.ts.length+c.top.res.length)*8≤140737488355328):Calls G.P 32 #[.pointer (some ⟨cp,0,none⟩),sv,.slice lp locals.length lc,.agg #[Pm .i64 x.op,Pm .i64 x.a,Pm .i64 x.b,Pm .u64 x.n,Pm .i64 x.kind,Pm .i64 x.val,Pm .i64 x.index,Pn pt x.types.length ct,Pn pl x.labels.length cl]] w (aK (aT cp c v) cp (kb c) w):=by
 refine ae (l:=[_,_,_,_]) func32 rfl ntmps32 rfl (Ok.dk hw) ?_;generalize hS:Mb (aT cp c v)=S0;unfold qm;obtain⟨sp,tv,pv,bv,rv,fv,D,L⟩:=v;dsimp only[aT,aX,Pq,Pp];have hno:=fun w' M (hw':Ok M _ w')=>lW (B:=B) (F:=F) (m:=m) (locals:=locals) (sv:=sv) (lv:=.slice lp locals.length lc) (x:=x) (pt:=pt) (pl:=pl) (ct:=ct) (cl:=cl) hw';rw[hp]at hno
 obtain⟨r,hr⟩:∃r,kb c=r:=⟨_,rfl⟩
 have hk:∀w',Ok (aT cp c ⟨sp,tv,pv,bv,rv,fv,D,L⟩) [] w'→Calls G.P 52 #[.pointer (some ⟨cp,0,none⟩)] w' (aK (aT cp c ⟨sp,tv,pv,bv,rv,fv,D,L⟩) cp r w'):=fun w' hw'=>by rw[←hr];exact Be cp c ⟨sp,tv,pv,bv,rv,fv,D,L⟩ w' hw' hg hb hwf hfl hts
 rw[hr]
 clear hr
 obtain⟨c1,e1⟩:=r
 by_cases he1:e1=0
 ·subst he1
  repeat'(first|refine ar ?_|(refine aF fun b_=>?_)|refine uj ?_|fail)
  all_goals first|(exfalso;omega)|skip
  refine MU ?_
  rintro⟨sp1,tv1,pv1,bv1,rv1,fv1,D1,L1⟩ hg1
  dsimp only[aT,aX,Pq,Pp]at hg1 ⊢
  repeat'(first|refine ar ?_|fail)
  all_goals exact ut
 ·repeat'(first|refine ar ?_|(refine aF fun b_=>?_)|refine uj ?_|fail)
  all_goals first|(exfalso;omega)|skip
  refine MV ?_
  rintro _ _
  dsimp only[Pp]
  repeat'(first|refine ar ?_|fail)
  all_goals exact wd
theorem sR (m:af) (locals:List Int) (sv:Value) (x:cv) (lp pt pl:Option Addr) (lc ct cl:Nat) (w:World) (hw:Ok (aT cp c v) (qm B F m sv locals (.slice lp locals.length lc) x (.slice pt x.types.length ct) (.slice pl x.labels.length cl)) w) (hg:v.Good c) (hwf:c.Wf) (hb:c.broken=0) (hp:cW x=true) (hop:jumps x.op) (hres:c.results.length≤100000000000) (hlb:∀n,(cT c n).1.length≤100000000000) (hll:x.labels.length≤10000000) (hts:c.ao.ts.length≤1000000000000):Calls G.P 32 #[.pointer (some ⟨cp,0,none⟩),sv,.slice lp locals.length lc,.agg #[Pm .i64 x.op,Pm .i64 x.a,Pm .i64 x.b,Pm .u64 x.n,Pm .i64 x.kind,Pm .i64 x.val,Pm .i64 x.index,Pn pt x.types.length ct,Pn pl x.labels.length cl]] w (aK (aT cp c v) cp (lO c x) w):=by
 have hI:=hw.get (p:=fun w=>ai F w (.slice pl x.labels.length cl) x.labels) Pf
 refine ae (l:=[_,_,_,_]) func32 rfl ntmps32 rfl (Ok.dk hw) ?_;generalize hS:Mb (aT cp c v)=S0;unfold qm;obtain⟨sp,tv,pv,bv,rv,fv,D,L⟩:=v;dsimp only[aT,aX,Pq,Pp];have hno:=fun w' M (hw':Ok M _ w')=>lW (B:=B) (F:=F) (m:=m) (locals:=locals) (sv:=sv) (lv:=.slice lp locals.length lc) (x:=x) (pt:=pt) (pl:=pl) (ct:=ct) (cl:=cl) hw';rw[hp]at hno
 have hop':=hop
 unfold jumps at hop
 rcases hop with hop|hop|hop|hop
 all_goals
  obtain⟨r,hr⟩:∃r,lO c x=r:=⟨_,rfl⟩
  have hk:∀w',Ok (aT cp c ⟨sp,tv,pv,bv,rv,fv,D,L⟩) [fun w=>ai F w (.slice pl x.labels.length cl) x.labels] w'→Calls G.P 54 #[.pointer (some ⟨cp,0,none⟩),.agg #[Pm .i64 x.op,Pm .i64 x.a,Pm .i64 x.b,Pm .u64 x.n,Pm .i64 x.kind,Pm .i64 x.val,Pm .i64 x.index,Pn pt x.types.length ct,Pn pl x.labels.length cl]] w' (aK (aT cp c ⟨sp,tv,pv,bv,rv,fv,D,L⟩) cp r w'):=fun w' hw'=>by rw[←hr];exact AG F cp c ⟨sp,tv,pv,bv,rv,fv,D,L⟩ x pt pl ct cl w' hw' hg hb hwf hres hlb hll hop' hts
  rw[hr]
  clear hr
  obtain⟨c1,e1⟩:=r
  by_cases he1:e1=0
  ·subst he1
   repeat'(first|refine ar ?_|(refine aF fun b_=>?_)|refine uj ?_|fail)
   all_goals first|(exfalso;omega)|skip
   refine MU ?_
   rintro⟨sp1,tv1,pv1,bv1,rv1,fv1,D1,L1⟩ hg1
   dsimp only[aT,aX,Pq,Pp]at hg1 ⊢
   repeat'(first|refine ar ?_|fail)
   all_goals exact ut
  ·repeat'(first|refine ar ?_|(refine aF fun b_=>?_)|refine uj ?_|fail)
   all_goals first|(exfalso;omega)|skip
   refine MV ?_
   rintro _ _
   dsimp only[Pp]
   repeat'(first|refine ar ?_|fail)
   all_goals exact wd
theorem FX {g g':Prop} (h:g') (hw:eA g'→g:=by(intro hk_;(first|refine Oc ?_|refine Ob ?_);exact hk_.out)):g:=hw ⟨h⟩
theorem sS (m:af) (locals:List Int) (sv:Value) (x:cv) (lp pt pl:Option Addr) (lc ct cl:Nat) (w:World) (hw:Ok (aT cp c v) (qm B F m sv locals (.slice lp locals.length lc) x (.slice pt x.types.length ct) (.slice pl x.labels.length cl)) w) (hg:v.Good c) (hwf:c.Wf) (hb:c.broken=0) (hp:cW x=true) (hop:opens x.op) (hfl:c.fs.length≤1000) (hts:∀f,cX m x.kind x.val x.index=some f→(c.ao.ts.length+f.params.length)*8≤140737488355328):Calls G.P 32 #[.pointer (some ⟨cp,0,none⟩),sv,.slice lp locals.length lc,.agg #[Pm .i64 x.op,Pm .i64 x.a,Pm .i64 x.b,Pm .u64 x.n,Pm .i64 x.kind,Pm .i64 x.val,Pm .i64 x.index,Pn pt x.types.length ct,Pn pl x.labels.length cl]] w (aK (aT cp c v) cp (match cX m x.kind x.val x.index with|none=>(c,11)|some f=>ju c x.op f.params f.results) w):=by
 refine ae (l:=[_,_,_,_]) func32 rfl ntmps32 rfl (Ok.dk hw) ?_;generalize hS:Mb (aT cp c v)=S0;unfold qm;obtain⟨sp,tv,pv,bv,rv,fv,D,L⟩:=v;dsimp only[aT,aX,Pq,Pp];have hno:=fun w' M (hw':Ok M _ w')=>lW (B:=B) (F:=F) (m:=m) (locals:=locals) (sv:=sv) (lv:=.slice lp locals.length lc) (x:=x) (pt:=pt) (pl:=pl) (ct:=ct) (cl:=cl) hw';rw[hp]at hno
 have hbl:=fun w' M (hw':Ok M [fun w=>bK B m w sv] w')=>oL B m sv x.kind x.val x.index w' (hw'.get (p:=fun w=>bK B m w sv) Pj)
 generalize cX m x.kind x.val x.index=r at hbl hts ⊢
 have hop':=hop
 unfold opens at hop
 cases r with
 |none=>
  dsimp only
  rcases hop with hop|hop|hop
  all_goals
   repeat'(first|refine ar ?_|(refine aF fun b_=>?_)|refine OC ?_|(refine ay fun b_=>?_)|refine FX ?_|(refine aa.aj (f:=49) ?_;refine aa.he (HE.Iv (r:=none) rfl rfl (fun w' hw'=>hbl w' _ (hw'.sub (Pv.refl _) aU))) rfl ?_;rintro⟨D_,p_,c_,q_,d_⟩ _;dsimp only[Option.isSome,Option.getD])|fail)
   all_goals first|omega|exact ah.aG rfl rfl fun w' hw'=>aK.err 11 rfl Ph hS hw' ak
 |some f=>
  dsimp only
  have hts:=hts f rfl
  rcases hop with hop|hop|hop
  all_goals
   obtain⟨r,hr⟩:∃r,ju c x.op f.params f.results=r:=⟨_,rfl⟩
   have hk:∀(D_:Nat→Prop) (p_ q_:Option Addr) (c_ d_:Nat) w',Ok (aT cp c ⟨sp,tv,pv,bv,rv,fv,D,L⟩) [sZ f ⟨D_,p_,c_,q_,d_⟩] w'→Calls G.P 50 #[.pointer (some ⟨cp,0,none⟩),.int .i64 x.op,.agg #[.slice p_ f.params.length c_,.slice q_ f.results.length d_]] w' (aK (aT cp c ⟨sp,tv,pv,bv,rv,fv,D,L⟩) cp r w'):=fun D_ p_ q_ c_ d_ w' hw'=>by rw[←hr];exact Bd D_ cp c ⟨sp,tv,pv,bv,rv,fv,D,L⟩ x.op f.params f.results (.slice p_ f.params.length c_,.slice q_ f.results.length d_) w' hw' hg hb hwf hop' hfl hts
   rw[hr]
   clear hr
   obtain⟨c1,e1⟩:=r
   by_cases he1:e1=0
   ·subst he1
    repeat'(first|refine ar ?_|(refine aF fun b_=>?_)|refine OC ?_|(refine ay fun b_=>?_)|refine FX ?_|(refine aa.aj (f:=49) ?_;refine aa.he (HE.Iv (r:=some f) rfl rfl (fun w' hw'=>hbl w' _ (hw'.sub (Pv.refl _) aU))) rfl ?_;rintro⟨D_,p_,c_,q_,d_⟩ _;dsimp only[Option.isSome,Option.getD])|fail)
    all_goals first|(exfalso;omega)|skip
    refine aa.he (HE.bJ (M0:=aT cp c ⟨sp,tv,pv,bv,rv,fv,D,L⟩) dU rfl rfl (fun w' hw'=>(hk D_ p_ q_ c_ d_ w' (hw'.dc dV aU)).mono fun _ _ h=>h.Dw rfl)) rfl ?_
    rintro⟨sp1,tv1,pv1,bv1,rv1,fv1,D1,L1⟩ hg1
    dsimp only[aT,aX,Pq,Pp]at hg1 ⊢
    repeat'(first|refine ar ?_|fail)
    all_goals exact ut
   ·repeat'(first|refine ar ?_|(refine aF fun b_=>?_)|refine OC ?_|(refine ay fun b_=>?_)|refine FX ?_|(refine aa.aj (f:=49) ?_;refine aa.he (HE.Iv (r:=some f) rfl rfl (fun w' hw'=>hbl w' _ (hw'.sub (Pv.refl _) aU))) rfl ?_;rintro⟨D_,p_,c_,q_,d_⟩ _;dsimp only[Option.isSome,Option.getD])|fail)
    all_goals first|(exfalso;omega)|skip
    refine aa.he (HE.bJ (M0:=aT cp c ⟨sp,tv,pv,bv,rv,fv,D,L⟩) dU rfl rfl (fun w' hw'=>(hk D_ p_ q_ c_ d_ w' (hw'.dc dV aU)).mono fun _ _ h=>h.bad (q:=e1) rfl he1)) rfl ?_
    rintro _ _
    dsimp only[Pp]
    repeat'(first|refine ar ?_|fail)
    all_goals exact wd
theorem sU (m:af) (locals:List Int) (sv:Value) (x:cv) (lp pt pl:Option Addr) (lc ct cl:Nat) (w:World) (hw:Ok (aT cp c v) (qm B F m sv locals (.slice lp locals.length lc) x (.slice pt x.types.length ct) (.slice pl x.labels.length cl)) w) (hg:v.Good c) (hwf:c.Wf) (_hb:c.broken=0) (hp:cW x=true) (hop:ku x.op) (hts:(c.ao.ts.length+1)*8≤140737488355328):Calls G.P 32 #[.pointer (some ⟨cp,0,none⟩),sv,.slice lp locals.length lc,.agg #[Pm .i64 x.op,Pm .i64 x.a,Pm .i64 x.b,Pm .u64 x.n,Pm .i64 x.kind,Pm .i64 x.val,Pm .i64 x.index,Pn pt x.types.length ct,Pn pl x.labels.length cl]] w (aK (aT cp c v) cp ({c with ao:=(ic c.ao x.op).1},(ic c.ao x.op).2) w):=by
 refine ae (l:=[_,_,_,_]) func32 rfl ntmps32 rfl (Ok.dk hw) ?_;generalize hS:Mb (aT cp c v)=S0;unfold qm;obtain⟨sp,tv,pv,bv,rv,fv,D,L⟩:=v;dsimp only[aT,aX,Pq,Pp];have hno:=fun w' M (hw':Ok M _ w')=>lW (B:=B) (F:=F) (m:=m) (locals:=locals) (sv:=sv) (lv:=.slice lp locals.length lc) (x:=x) (pt:=pt) (pl:=pl) (ct:=ct) (cl:=cl) hw';rw[hp]at hno
 have hop':=hop
 unfold ku at hop
 rcases hop with hop|hop|hop
 all_goals
  repeat'(first|refine ar ?_|(refine aF fun b_=>?_)|refine uj ?_|fail)
  all_goals first|(exfalso;omega)|skip
  refine bh.cI [.aW b_ [Pm .i64 x.op,Pm .i64 x.a,Pm .i64 x.b,Pm .u64 x.n,Pm .i64 x.kind,Pm .i64 x.val,Pm .i64 x.index,Pn pt x.types.length ct,Pn pl x.labels.length cl] JN] [] bz aU ?_
  repeat'(first|refine pN ?_|(refine ax.dA 26 ?_;refine ax.he rfl rfl (HE.eU rfl rfl (fun w' hw'=>eF cp ⟨sp,0,none⟩ w' (hw'.c1 aH Pk))) (fun _=>bz) (fun _=>aU) ?_;rintro⟨⟩ _)|(refine ax.dA 55 ?_;refine ax.he rfl rfl (HE.bJ (M0:=aX sp c.ao (tv,pv)) dU rfl rfl (fun w' hw'=>Eh sp c.ao (tv,pv) x.op hop' w' (hw'.dc dV (fun p hp=>absurd hp Pj)) hwf.ao hts)) (fun _=>by dsimp only[aX,Pq,Pp];exact bz) (fun _=>aU) ?_;rintro⟨tvb,pvb⟩ _;dsimp only[aX,Pq,Pp])|refine aP.nil O9 ?_|refine aP.any O9 ?_|exact aB.fin rfl|refine aB.skip O9 ?_|refine aB.go ?_ ?_)
  all_goals
   repeat'(first|refine ar ?_|fail)
   exact ah.aG rfl rfl fun w' hw'=>by
    by_cases h2:(ic c.ao x.op).2=0
    ·have:=aK.ok (cp:=cp) (r:=({c with ao:=(ic c.ao x.op).1},(ic c.ao x.op).2)) (⟨sp,tvb,pvb,bv,rv,fv,D,L⟩:jF) h2 ⟨hg.len,hg.fr,hg.rs⟩ hS hw' ON ak
     rw[show Pm .i64 (ic c.ao x.op).2=.int .i64 0 by rw[h2]];exact this
    ·exact aK.err _ rfl h2 hS hw' ak
end Go.Proofs.YtdkcljdfbemnbaaGreatDoor
