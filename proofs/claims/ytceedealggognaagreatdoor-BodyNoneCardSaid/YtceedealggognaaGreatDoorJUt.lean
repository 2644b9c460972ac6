/- rule.Apply and ref23.Apply, plain: what each computes, and that they answer the same. -/
import Derived.Test.YtceedealggognaaGreatDoorJVcBodyNone
import Derived.Test.YtceedealggognaaGreatDoorJUq
import Derived.Test.YtceedealggognaaGreatDoorJP1
import Derived.Test.YtceedealggognaaGreatDoorJAr
import Derived.Test.YtceedealggognaaGreatDoorJWj
namespace Go.Proofs.YtceedealggognaaGreatDoor
open Go.RowKit
set_option maxRecDepth 100000
def fy (c:dq) (l:List Int):dq×Int:=if(aO c.aF l).2≠0 then(c,(aO c.aF l).2)else(fq {c with aF:=(aO c.aF l).1},0)
def uK (c:dq) (l:List Int):dq×Int:=if(aO c.aF [1]).2≠0 then(c,(aO c.aF [1]).2)else yq {c with aF:=(aO c.aF [1]).1} ⟨l,l⟩
def kD (c:dq) (x:bZ):dq×Int:=
 if x.op=15 then fy c (rj c)
 else if x.op=14 then kE c x
 else if(bR c x.a).2≠0 then(c,(bR c x.a).2)
 else if x.op=13 then uK c (bR c x.a).1 else fy c (bR c x.a).1
def opens (op:Int):Prop:=op=2∨op=3∨op=4
instance (op:Int):Decidable (opens op):=by unfold opens;infer_instance
def jumps (op:Int):Prop:=op=12∨op=13∨op=14∨op=15
instance (op:Int):Decidable (jumps op):=by unfold jumps;infer_instance
def kr (op:Int):Prop:=op=26∨op=27∨op=209
instance (op:Int):Decidable (kr op):=by unfold kr;infer_instance
def dL (c:dq) (m:ae) (locals:List Int) (x:bZ):dq×Int:=
 if cW x=false then(c,10)
 else if opens x.op then(match dy m x.kind x.val x.index with|none=>(c,11)|some f=>hO c x.op f.params f.results)
 else if x.op=5 then lP c
 else if x.op=11 then jL c
 else if x.op=0 then(fq c,0)
 else if jumps x.op then kD c x
 else if kr x.op then({c with aF:=(eY c.aF x.op).1},(eY c.aF x.op).2)
 else qE c (eD m locals x)
theorem xm {op:Int} (h1:¬opens op) (h2:op≠5) (h3:op≠11) (h4:op≠0) (h5:¬jumps op) (h6:¬kr op):qC op=false:=by
 unfold opens at h1;unfold jumps at h5;unfold kr at h6;unfold qC
 simp only[not_or]at h1 h5 h6
 simp[h1,h2,h3,h4,h5,h6]
theorem tj {c:dq} (h:c.Wf) (l:List Int):({c with aF:=(aO c.aF l).1}:dq).Wf:=⟨dp h.aF l,by show(aO c.aF l).1.ps.length=_;rw[ec];exact h.many,h.fr,h.ended⟩
theorem xZ {s:cU} (h:s.Wf):∀n,(dx s n).1.Wf∧(dx s n).1.ps=s.ps:=by
 intro n
 induction n generalizing s with
 |zero=>exact⟨h,rfl⟩
 |succ n ih=>
  have h1:=jP h
  have h2:=ih h1
  have hp:(aZ s).1.ps=s.ps:=by unfold aZ;split<;>(try rfl);split<;>rfl
  rw[dx]
  split
  ·exact⟨h,rfl⟩
  ·split
   ·exact⟨h2.1,h2.2.trans hp⟩
   ·exact⟨h2.1,h2.2.trans hp⟩
theorem pV {s:cU} (h:s.Wf) (rows:List (List Int)):(iZ rows s).1.Wf∧(iZ rows s).1.ps=s.ps:=by
 have h1:=dp h [1]
 have h2:=ec s [1]
 have h3:=xZ h1 (ix rows (rows.length - 1)).length
 unfold iZ
 split
 ·exact⟨h,rfl⟩
 ·split
  ·exact⟨h,rfl⟩
  ·split
   ·exact⟨h,rfl⟩
   ·split
    ·exact⟨h,rfl⟩
    ·exact⟨h3.1,h3.2.trans h2⟩
theorem vx {c:dq} (h:c.Wf) (x:bZ):({c with aF:=(cr c x).1}:dq).Wf:=by
 have h1:(cr c x).1.Wf∧(cr c x).1.ps=c.aF.ps:=by
  unfold cr
  split
  ·exact⟨h.aF,rfl⟩
  ·exact pV h.aF _
 exact⟨h1.1,by show(cr c x).1.ps.length=_;rw[h1.2];exact h.many,h.fr,h.ended⟩
set_option maxHeartbeats 8000000 in
theorem oQ (F:Nat→Prop) (cp:Nat) (c:dq) (v:fJ) (x:bZ) (pt pl:Option Addr) (ct cl:Nat) (w:World) (hw:Ok (aw cp c v) [fun w=>af F w (.slice pl x.labels.length cl) x.labels] w) (hg:v.Good c) (hb:c.broken=0) (hwf:c.Wf) (hres:c.results.length≤100000000000) (_hlb:∀n,(bR c n).1.length≤100000000000) (_hll:x.labels.length≤10000000) (ho:x.op=15):Calls G.P 57 #[.pointer (some ⟨cp,0,none⟩),.agg #[Value.int .i64 x.op,Value.int .i64 x.a,Value.int .i64 x.b,Value.int .u64 x.n,Value.int .i64 x.kind,Value.int .i64 x.val,Value.int .i64 x.index,Value.slice pt x.types.length ct,Value.slice pl x.labels.length cl]] w (ar (aw cp c v) cp (fy c (rj c)) w):=by
 refine aj (l:=[_,_]) Tryz.func57 rfl Tryz.ntmps57 rfl (Ok.bV hw) ?_;generalize hS:Mb (aw cp c v)=S0;obtain⟨sp,tv,pv,bv,rv,fv,D,L⟩:=v;dsimp only[aw,ax,List.cons_append,List.nil_append];have hps:=hwf.aF.some;have hat:=hwf.aF.at_
 have hret:rj c=c.results:=if_neg (fun h=>h hb)
 rw[hret]
 repeat'(first|refine ay ?_|(refine br fun b_=>?_)|fail)
 refine ES ?_
 intro u0 _
 dsimp only[List.cons_append,List.nil_append]
 refine aa.pure (φ:=∃p cc,u0=.slice p c.results.length cc) (fun w' hw'=>by obtain⟨p,cc,e,_⟩:=au (hw'.own (B:=0) (T:=eV) (v:=u0));exact⟨p,cc,e⟩) ?_
 rintro⟨pu,cu,rfl⟩
 refine aa.freeze (q:=.own 0 eV 1 (.slice pu c.results.length cu) c.results.length (aR c.results)) (fun w=>af (fun k=>(Value.slice pu c.results.length cu).ownBlock=some k) w (.slice pu c.results.length cu) c.results) gV (fun w' h _=>dC h FY) ?_
 obtain⟨r1,hr1⟩:∃r,aO c.aF c.results=r:=⟨_,rfl⟩
 have hwf1:=tj hwf c.results
 unfold fy
 rw[hr1]at hwf1 ⊢
 obtain⟨s1,e1⟩:=r1
 dsimp only at hwf1 ⊢
 repeat'(first|refine ay ?_|refine Fj ?_|fail)
 refine aa.he (HE.aS (M0:=ax sp c.aF (tv,pv)) cv rfl rfl (fun w' hw'=>by have:=dN (fun k=>(Value.slice pu c.results.length cu).ownBlock=some k) sp c.aF (tv,pv) (.slice pu c.results.length cu) c.results w' (hw'.bT cM aX) hps hat.1 hat.2;rw[hr1]at this;exact this)) rfl ?_
 rintro⟨tv1,pv1⟩ _
 dsimp only[ax,List.cons_append,List.nil_append]
 by_cases he1:e1=0
 ·subst he1
  rw[if_neg (fun h=>h rfl)]
  repeat'(first|refine ay ?_|fail)
  refine ET ?_
  rintro⟨sp2,tv2,pv2,bv2,rv2,fv2,D2,L2⟩ hg2
  dsimp only[aw,ax,List.cons_append,List.nil_append]at hg2 ⊢
  repeat'(first|refine ay ?_|fail)
  exact ol
 ·rw[if_pos he1]
  repeat'(first|refine ay ?_|fail)
  all_goals exact lm
set_option maxHeartbeats 8000000 in
theorem oN (F:Nat→Prop) (cp:Nat) (c:dq) (v:fJ) (x:bZ) (pt pl:Option Addr) (ct cl:Nat) (w:World) (hw:Ok (aw cp c v) [fun w=>af F w (.slice pl x.labels.length cl) x.labels] w) (hg:v.Good c) (hb:c.broken=0) (hwf:c.Wf) (_hres:c.results.length≤100000000000) (hlb:∀n,(bR c n).1.length≤100000000000) (_hll:x.labels.length≤10000000) (ho:x.op=12):Calls G.P 57 #[.pointer (some ⟨cp,0,none⟩),.agg #[Value.int .i64 x.op,Value.int .i64 x.a,Value.int .i64 x.b,Value.int .u64 x.n,Value.int .i64 x.kind,Value.int .i64 x.val,Value.int .i64 x.index,Value.slice pt x.types.length ct,Value.slice pl x.labels.length cl]] w (ar (aw cp c v) cp (if(bR c x.a).2≠0 then(c,(bR c x.a).2)else fy c (bR c x.a).1) w):=by
 refine aj (l:=[_,_]) Tryz.func57 rfl Tryz.ntmps57 rfl (Ok.bV hw) ?_;generalize hS:Mb (aw cp c v)=S0;obtain⟨sp,tv,pv,bv,rv,fv,D,L⟩:=v;dsimp only[aw,ax,List.cons_append,List.nil_append];have hps:=hwf.aF.some;have hat:=hwf.aF.at_
 repeat'(first|refine ay ?_|(refine br fun b_=>?_)|fail)
 refine ES ?_
 intro u0 _
 dsimp only[List.cons_append,List.nil_append]
 repeat'(first|refine ay ?_|fail)
 refine EU ?_
 intro u1 _
 dsimp only[List.cons_append,List.nil_append]
 obtain⟨q,hq⟩:∃q,bR c x.a=q:=⟨_,rfl⟩
 have hql:=hlb x.a
 rw[hq]at hql ⊢
 obtain⟨l,e⟩:=q
 dsimp only at hql ⊢
 by_cases he:e=0
 ·subst he
  rw[if_neg (fun h=>h rfl)]
  refine aa.pure (φ:=∃p cc,u1=.slice p l.length cc) (fun w' hw'=>by obtain⟨p,cc,e,_⟩:=au (hw'.own (B:=0) (T:=eV) (v:=u1));exact⟨p,cc,e⟩) ?_
  rintro⟨pu,cu,rfl⟩
  refine EV ?_
  obtain⟨r1,hr1⟩:∃r,aO c.aF l=r:=⟨_,rfl⟩
  have hwf1:=tj hwf l
  unfold fy
  rw[hr1]at hwf1 ⊢
  obtain⟨s1,e1⟩:=r1
  dsimp only at hwf1 ⊢
  repeat'(first|refine ay ?_|refine Fj ?_|fail)
  refine aa.he (HE.aS (M0:=ax sp c.aF (tv,pv)) cv rfl rfl (fun w' hw'=>by have:=dN (fun k=>(Value.slice pu l.length cu).ownBlock=some k) sp c.aF (tv,pv) (.slice pu l.length cu) l w' (hw'.bT cM aX) hps hat.1 hat.2;rw[hr1]at this;exact this)) rfl ?_
  rintro⟨tv1,pv1⟩ _
  dsimp only[ax,List.cons_append,List.nil_append]
  by_cases he1:e1=0
  ·subst he1
   rw[if_neg (fun h=>h rfl)]
   repeat'(first|refine ay ?_|fail)
   refine ET ?_
   rintro⟨sp2,tv2,pv2,bv2,rv2,fv2,D2,L2⟩ hg2
   dsimp only[aw,ax,List.cons_append,List.nil_append]at hg2 ⊢
   repeat'(first|refine ay ?_|fail)
   exact ol
  ·rw[if_pos he1]
   repeat'(first|refine ay ?_|fail)
   all_goals exact lm
 ·rw[if_pos he]
  repeat'(first|refine ay ?_|fail)
  all_goals first|omega|exact ai.aA rfl rfl fun w' hw'=>ar.err e rfl he hS hw' ao
set_option maxHeartbeats 8000000 in
theorem oO (F:Nat→Prop) (cp:Nat) (c:dq) (v:fJ) (x:bZ) (pt pl:Option Addr) (ct cl:Nat) (w:World) (hw:Ok (aw cp c v) [fun w=>af F w (.slice pl x.labels.length cl) x.labels] w) (hg:v.Good c) (hb:c.broken=0) (hwf:c.Wf) (_hres:c.results.length≤100000000000) (hlb:∀n,(bR c n).1.length≤100000000000) (_hll:x.labels.length≤10000000) (ho:x.op=13) (hts:c.aF.ts.length≤1000000000000):Calls G.P 57 #[.pointer (some ⟨cp,0,none⟩),.agg #[Value.int .i64 x.op,Value.int .i64 x.a,Value.int .i64 x.b,Value.int .u64 x.n,Value.int .i64 x.kind,Value.int .i64 x.val,Value.int .i64 x.index,Value.slice pt x.types.length ct,Value.slice pl x.labels.length cl]] w (ar (aw cp c v) cp (if(bR c x.a).2≠0 then(c,(bR c x.a).2)else uK c (bR c x.a).1) w):=by
 refine aj (l:=[_,_]) Tryz.func57 rfl Tryz.ntmps57 rfl (Ok.bV hw) ?_;generalize hS:Mb (aw cp c v)=S0;obtain⟨sp,tv,pv,bv,rv,fv,D,L⟩:=v;dsimp only[aw,ax,List.cons_append,List.nil_append];have hps:=hwf.aF.some;have hat:=hwf.aF.at_
 repeat'(first|refine ay ?_|(refine br fun b_=>?_)|fail)
 refine ES ?_
 intro u0 _
 dsimp only[List.cons_append,List.nil_append]
 repeat'(first|refine ay ?_|fail)
 refine EU ?_
 intro u1 _
 dsimp only[List.cons_append,List.nil_append]
 obtain⟨q,hq⟩:∃q,bR c x.a=q:=⟨_,rfl⟩
 have hql:=hlb x.a
 rw[hq]at hql ⊢
 obtain⟨l,e⟩:=q
 dsimp only at hql ⊢
 by_cases he:e=0
 ·subst he
  rw[if_neg (fun h=>h rfl)]
  refine aa.pure (φ:=∃p cc,u1=.slice p l.length cc) (fun w' hw'=>by obtain⟨p,cc,e,_⟩:=au (hw'.own (B:=0) (T:=eV) (v:=u1));exact⟨p,cc,e⟩) ?_
  rintro⟨pu,cu,rfl⟩
  refine EV ?_
  obtain⟨r1,hr1⟩:∃r,aO c.aF [1]=r:=⟨_,rfl⟩
  have hw1:=dp hwf.aF [1]
  have ht1:=dn c.aF [1]
  unfold uK
  rw[hr1]at hw1 ht1 ⊢
  obtain⟨s1,e1⟩:=r1
  dsimp only at hw1 ht1 ⊢
  repeat'(first|refine ay ?_|refine Fj ?_|(refine fP fun b_ _=>?_)|fail)
  obtain⟨bl,rfl⟩:∃y:Nat,y=b_:=⟨_,rfl⟩
  refine aa.freeze (q:=.aH bl [.int .i64 1] eV) (fun w=>af (fun k=>k=bl) w (.slice (some ⟨bl,0,none⟩) 1 1) [1]) gV (fun w' h _=>eQ h) ?_
  refine aa.he (HE.aS (M0:=ax sp c.aF (tv,pv)) cv rfl rfl (fun w' hw'=>by have:=dN (fun k=>k=bl) sp c.aF (tv,pv) (.slice (some ⟨bl,0,none⟩) 1 1) [1] w' (hw'.bT cM aX) hps hat.1 hat.2;rw[hr1]at this;exact this)) rfl ?_
  rintro⟨tv1,pv1⟩ _
  dsimp only[ax,List.cons_append,List.nil_append]
  by_cases he1:e1=0
  ·subst he1
   rw[if_neg (fun h=>h rfl)]
   refine aa.kJ (tt ⟨l,l⟩ ⟨fun k=>(Value.slice pu l.length cu).ownBlock=some k,pu,cu,pu,cu⟩) (fun w2 h=>⟨h (fun w=>af (fun k=>(Value.slice pu l.length cu).ownBlock=some k) w (.slice pu l.length cu) l) ao,h (fun w=>af (fun k=>(Value.slice pu l.length cu).ownBlock=some k) w (.slice pu l.length cu) l) ao⟩) ?_
   repeat'(first|refine ay ?_|refine Fj ?_|fail)
   refine aa.he (HE.aS (M0:=ax sp s1 (tv1,pv1)) cv rfl rfl (fun w' hw'=>qn sp s1 (tv1,pv1) ⟨l,l⟩ ⟨fun k=>(Value.slice pu l.length cu).ownBlock=some k,pu,cu,pu,cu⟩ w' (hw'.bT cM aX) hw1 (zO l (by show(s1.ts.length+l.length)*8≤_;omega)))) rfl ?_
   rintro⟨tv2,pv2⟩ _
   dsimp only[ax,List.cons_append,List.nil_append]
   repeat'(first|refine ay ?_|fail)
   unfold yq
   dsimp only
   exact ai.aA rfl rfl fun w' hw'=>by
    by_cases h2:(fF s1 ⟨l,l⟩).2=0
    ·have:=ar.ok (cp:=cp) (r:=({c with aF:=(fF s1 ⟨l,l⟩).1},(fF s1 ⟨l,l⟩).2)) (⟨sp,tv2,pv2,bv,rv,fv,D,L⟩:fJ) h2 ⟨hg.len,hg.fr,hg.rs⟩ hS hw' FC ao
     rw[show Value.int .i64 (fF s1 ⟨l,l⟩).2=.int .i64 0 by rw[h2]];exact this
    ·exact ar.err _ rfl h2 hS hw' ao
  ·rw[if_pos he1]
   repeat'(first|refine ay ?_|fail)
   all_goals exact lm
 ·rw[if_pos he]
  repeat'(first|refine ay ?_|fail)
  all_goals first|omega|exact ai.aA rfl rfl fun w' hw'=>ar.err e rfl he hS hw' ao
set_option maxHeartbeats 8000000 in
theorem oP (F:Nat→Prop) (cp:Nat) (c:dq) (v:fJ) (x:bZ) (pt pl:Option Addr) (ct cl:Nat) (w:World) (hw:Ok (aw cp c v) [fun w=>af F w (.slice pl x.labels.length cl) x.labels] w) (hg:v.Good c) (hb:c.broken=0) (hwf:c.Wf) (_hres:c.results.length≤100000000000) (hlb:∀n,(bR c n).1.length≤100000000000) (hll:x.labels.length≤10000000) (ho:x.op=14):Calls G.P 57 #[.pointer (some ⟨cp,0,none⟩),.agg #[Value.int .i64 x.op,Value.int .i64 x.a,Value.int .i64 x.b,Value.int .u64 x.n,Value.int .i64 x.kind,Value.int .i64 x.val,Value.int .i64 x.index,Value.slice pt x.types.length ct,Value.slice pl x.labels.length cl]] w (ar (aw cp c v) cp (kE c x) w):=by
 have hI:af F w (.slice pl x.labels.length cl) x.labels:=hw.get (p:=fun w=>af F w (.slice pl x.labels.length cl) x.labels) FZ
 refine aj (l:=[_,_]) Tryz.func57 rfl Tryz.ntmps57 rfl (Ok.bV hw) ?_;generalize hS:Mb (aw cp c v)=S0;obtain⟨sp,tv,pv,bv,rv,fv,D,L⟩:=v;dsimp only[aw,ax,List.cons_append,List.nil_append];have hps:=hwf.aF.some;have hat:=hwf.aF.at_
 unfold kE
 obtain⟨r,hr⟩:∃r,cr c x=r:=⟨_,rfl⟩
 have hwfr:=vx hwf x
 rw[hr]at hwfr ⊢
 obtain⟨s1,e1⟩:=r
 dsimp only at hwfr ⊢
 repeat'(first|refine ay ?_|(refine br fun b_=>?_)|fail)
 refine ES ?_
 intro u0 _
 dsimp only[List.cons_append,List.nil_append]
 repeat'(first|refine ay ?_|fail)
 have htab:=fun w' (hw':Ok (aw cp c ⟨sp,tv,pv,bv,rv,fv,D,L⟩) [fun w=>af F w (.slice pl x.labels.length cl) x.labels] w')=>uh F cp c ⟨sp,tv,pv,bv,rv,fv,D,L⟩ x pt pl ct cl w' hw' hg hb hwf hlb hll
 rw[hr]at htab
 by_cases he1:e1=0
 ·subst he1
  rw[if_neg (fun h=>h rfl)]
  refine aa.he (HE.aS (M0:=aw cp c ⟨sp,tv,pv,bv,rv,fv,D,L⟩) cv rfl rfl (fun w' hw'=>(htab w' (hw'.bT cM aX)).mono fun _ _ h=>h.vH rfl)) rfl ?_
  rintro⟨sp1,tv1,pv1,bv1,rv1,fv1,D1,L1⟩ hg1
  dsimp only[aw,ax,List.cons_append,List.nil_append]at hg1 ⊢
  repeat'(first|refine ay ?_|fail)
  refine aa.he (HE.aS (M0:=aw cp {c with aF:=s1} ⟨sp1,tv1,pv1,bv1,rv1,fv1,D1,L1⟩) cv rfl rfl (fun w' hw'=>kF cp {c with aF:=s1} ⟨sp1,tv1,pv1,bv1,rv1,fv1,D1,L1⟩ w' (hw'.bT cM (fun p hp=>absurd hp FZ)) hg1 hb hwfr)) rfl ?_
  rintro⟨sp2,tv2,pv2,bv2,rv2,fv2,D2,L2⟩ hg2
  dsimp only[aw,ax,List.cons_append,List.nil_append]at hg2 ⊢
  repeat'(first|refine ay ?_|fail)
  exact ol
 ·rw[if_pos he1]
  refine aa.he (HE.aS (M0:=aw cp c ⟨sp,tv,pv,bv,rv,fv,D,L⟩) cv rfl rfl (fun w' hw'=>(htab w' (hw'.bT cM aX)).mono fun _ _ h=>h.bad (q:=e1) rfl he1)) rfl ?_
  rintro _ _
  dsimp only[List.nil_append]
  repeat'(first|refine ay ?_|fail)
  all_goals exact lm
theorem sP (F:Nat→Prop) (cp:Nat) (c:dq) (v:fJ) (x:bZ) (pt pl:Option Addr) (ct cl:Nat) (w:World) (hw:Ok (aw cp c v) [fun w=>af F w (.slice pl x.labels.length cl) x.labels] w) (hg:v.Good c) (hb:c.broken=0) (hwf:c.Wf) (hres:c.results.length≤100000000000) (hlb:∀n,(bR c n).1.length≤100000000000) (hll:x.labels.length≤10000000) (hj:jumps x.op) (hts:c.aF.ts.length≤1000000000000):Calls G.P 57 #[.pointer (some ⟨cp,0,none⟩),.agg #[Value.int .i64 x.op,Value.int .i64 x.a,Value.int .i64 x.b,Value.int .u64 x.n,Value.int .i64 x.kind,Value.int .i64 x.val,Value.int .i64 x.index,Value.slice pt x.types.length ct,Value.slice pl x.labels.length cl]] w (ar (aw cp c v) cp (kD c x) w):=by
 have hj':=hj
 unfold jumps at hj'
 unfold kD
 rcases hj' with h|h|h|h
 ·have n15:¬x.op=15:=by omega
  have n14:¬x.op=14:=by omega
  have n13:¬x.op=13:=by omega
  rw[if_neg n15,if_neg n14,if_neg n13]
  exact oN F cp c v x pt pl ct cl w hw hg hb hwf hres hlb hll h
 ·have n15:¬x.op=15:=by omega
  have n14:¬x.op=14:=by omega
  rw[if_neg n15,if_neg n14,if_pos h]
  exact oO F cp c v x pt pl ct cl w hw hg hb hwf hres hlb hll h hts
 ·have n15:¬x.op=15:=by omega
  rw[if_neg n15,if_pos h]
  exact oP F cp c v x pt pl ct cl w hw hg hb hwf hres hlb hll h
 ·rw[if_pos h]
  exact oQ F cp c v x pt pl ct cl w hw hg hb hwf hres hlb hll h
end Go.Proofs.YtceedealggognaaGreatDoor
