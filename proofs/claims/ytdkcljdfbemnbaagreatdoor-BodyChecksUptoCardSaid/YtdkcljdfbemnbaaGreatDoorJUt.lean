/- rule.Apply and ref23.Apply, plain: what each computes, and that they answer the same. -/
import Derived.Test.YtdkcljdfbemnbaaGreatDoorJUg
import Derived.Test.YtdkcljdfbemnbaaGreatDoorJUc
import Derived.Test.YtdkcljdfbemnbaaGreatDoorJLz
namespace Go.Proofs.YtdkcljdfbemnbaaGreatDoor
open Go.RowKit _root_.Go.Proofs.Tryz
set_option maxHeartbeats 8000000
open List renaming cons_append→Pj,nil_append→Pi
open Value renaming int→Pf,slice→Pg
set_option maxRecDepth 100000
def iz (c:dv) (l:List Int):dv×Int:=if(aK c.ao l).2≠0 then(c,(aK c.ao l).2)else(iE {c with ao:=(aK c.ao l).1},0)
def w8 (c:dv) (l:List Int):dv×Int:=if(aK c.ao [1]).2≠0 then(c,(aK c.ao [1]).2)else CT {c with ao:=(aK c.ao [1]).1} ⟨l,l⟩
def lO (c:dv) (x:cv):dv×Int:=
 if x.op=15 then iz c (qS c)
 else if x.op=14 then jy c x
 else if(cT c x.a).2≠0 then(c,(cT c x.a).2)
 else if x.op=13 then w8 c (cT c x.a).1 else iz c (cT c x.a).1
def s6 (c:gA) (x:cv):gA×Int:=
 if x.op=15 then lV c c.results 0
 else if x.op=14 then fu c x
 else if x.op=13 then(if(eX c x.a).2≠0 then(c,(eX c x.a).2)else ki c ⟨(eX c x.a).1++[1],(eX c x.a).1⟩)
 else lV c (eX c x.a).1 (eX c x.a).2
def opens (op:Int):Prop:=op=2∨op=3∨op=4
instance (op:Int):Decidable (opens op):=by unfold opens;infer_instance
def jumps (op:Int):Prop:=op=12∨op=13∨op=14∨op=15
instance (op:Int):Decidable (jumps op):=by unfold jumps;infer_instance
def ku (op:Int):Prop:=op=26∨op=27∨op=209
instance (op:Int):Decidable (ku op):=by unfold ku;infer_instance
def fC (c:dv) (m:af) (locals:List Int) (x:cv):dv×Int:=
 if cW x=false then(c,10)
 else if opens x.op then(match cX m x.kind x.val x.index with|none=>(c,11)|some f=>jv c x.op f.params f.results)
 else if x.op=5 then my c
 else if x.op=11 then ke c
 else if x.op=0 then(iE c,0)
 else if jumps x.op then lO c x
 else if ku x.op then({c with ao:=(ia c.ao x.op).1},(ia c.ao x.op).2)
 else tm c (fN m locals x)
def pJ (c:gA) (m:af) (locals:List Int) (x:cv):gA×Int:=
 if cW x=false then(c,10)
 else if opens x.op then(match cX m x.kind x.val x.index with|none=>(c,11)|some f=>nZ c x.op f)
 else if x.op=5 then xd c
 else if x.op=11 then ry c
 else if x.op=0 then(gk c,0)
 else if jumps x.op then s6 c x
 else if ku x.op then Bn c x.op
 else if(kA m locals x).2≠0 then(c,(kA m locals x).2)else ki c (kA m locals x).1
def Alike (a:dv×Int) (b:gA×Int):Prop:=a.2=b.2∧(a.2=0→bP a.1=b.1)
theorem qD {c:dv} (hb:c.broken=0) (hf:c.ao.Fit) (l:List Int):Alike (iz c l) (lV (bP c) l 0):=by
 rw[DB (c:=bP c) hf]
 unfold iz
 have hs:(bP c).ao=c.ao:=rfl
 rw[hs]
 by_cases h1:(aK c.ao l).2≠0
 ·simp only[if_pos h1];exact⟨rfl,fun h=>absurd h h1⟩
 ·simp only[if_neg h1]
  exact⟨rfl,fun _=>by rw[xV {c with ao:=(aK c.ao l).1} hb,Av]⟩
theorem A5 {c:dv} (hw:c.ao.Wf) (l:List Int):Alike (w8 c l) (ki (bP c) ⟨l++[1],l⟩):=by
 obtain⟨h1,h2⟩:=Gv hw l
 have hs:(bP c).ao=c.ao:=rfl
 unfold Alike ki w8 CT
 rw[hs]
 by_cases h:(aK c.ao [1]).2≠0
 ·simp only[if_pos h]at h1 h2 ⊢
  exact⟨h1.symm,fun e=>absurd e h⟩
 ·simp only[if_neg h]at h1 h2 ⊢
  exact⟨h1.symm,fun e=>by rw[h2 (h1.trans e)];rfl⟩
theorem xT {c:dv} (hb:c.broken=0) (hk:c.Ok) (hw:c.ao.Wf) (hf:c.ao.Fit) (x:cv) (_hj:jumps x.op):Alike (lO c x) (s6 (bP c) x):=by
 unfold lO s6
 by_cases h15:x.op=15
 ·rw[if_pos h15,if_pos h15,Ea c hb];exact qD hb hf _
 rw[if_neg h15,if_neg h15]
 by_cases h14:x.op=14
 ·rw[if_pos h14,if_pos h14];exact zw c x hb hk
 rw[if_neg h14,if_neg h14,rq c x.a hb hk]
 obtain⟨a,ha⟩:∃a,eX (bP c) x.a=a:=⟨_,rfl⟩
 rw[ha]
 by_cases h1:a.2≠0
 ·rw[if_pos h1]
  by_cases h13:x.op=13
  ·rw[if_pos h13,if_pos h1];exact⟨rfl,fun h=>absurd h h1⟩
  ·rw[if_neg h13];unfold lV;rw[if_pos h1];exact⟨rfl,fun h=>absurd h h1⟩
 ·rw[if_neg h1]
  by_cases h13:x.op=13
  ·rw[if_pos h13,if_pos h13,if_neg h1];exact A5 hw _
  ·rw[if_neg h13,if_neg h13,show a.2=0 from Decidable.not_not.1 h1];exact qD hb hf _
theorem tl {op:Int} (h1:¬opens op) (h2:op≠5) (h3:op≠11) (h4:op≠0) (h5:¬jumps op) (h6:¬ku op):jW op=false:=by
 unfold opens at h1;unfold jumps at h5;unfold ku at h6;unfold jW
 simp only[not_or]at h1 h5 h6
 simp[h1,h2,h3,h4,h5,h6]
theorem zq {c:dv} (hb:c.broken=0) (hk:c.Ok) (hw:c.ao.Wf) (hf:c.ao.Fit) (m:af) (locals:List Int) (x:cv):Alike (fC c m locals x) (pJ (bP c) m locals x):=by
 unfold fC pJ
 by_cases hp:cW x=false
 ·rw[if_pos hp,if_pos hp];exact⟨rfl,fun h=>absurd h (show¬(10:Int)=0 by decide)⟩
 rw[if_neg hp,if_neg hp]
 by_cases h1:opens x.op
 ·rw[if_pos h1,if_pos h1]
  cases cX m x.kind x.val x.index with
  |none=>exact⟨rfl,fun h=>absurd h (show¬(11:Int)=0 by decide)⟩
  |some f=>exact E9 c x.op f hb
 rw[if_neg h1,if_neg h1]
 by_cases h2:x.op=5
 ·rw[if_pos h2,if_pos h2];exact else_eq c hb hk
 rw[if_neg h2,if_neg h2]
 by_cases h3:x.op=11
 ·rw[if_pos h3,if_pos h3];exact Fp c hb hk
 rw[if_neg h3,if_neg h3]
 by_cases h4:x.op=0
 ·rw[if_pos h4,if_pos h4];exact⟨rfl,fun _=>xV c hb⟩
 rw[if_neg h4,if_neg h4]
 by_cases h5:jumps x.op
 ·rw[if_pos h5,if_pos h5];exact xT hb hk hw hf x h5
 rw[if_neg h5,if_neg h5]
 by_cases h6:ku x.op
 ·rw[if_pos h6,if_pos h6];exact⟨rfl,fun _=>rfl⟩
 rw[if_neg h6,if_neg h6]
 have ha:=tl h1 h2 h3 h4 h5 h6
 have e:=vz m locals x
 unfold qf at e
 rw[if_neg hp,ha,if_neg Pb]at e
 rw[e]
 unfold tm
 by_cases h7:(kA m locals x).2≠0
 ·rw[if_pos h7,if_pos h7];exact⟨rfl,fun h=>absurd h h7⟩
 ·rw[if_neg h7,if_neg h7];exact⟨rfl,fun _=>rfl⟩
theorem AR {c:dv} (h:c.Wf) (l:List Int):({c with ao:=(aK c.ao l).1}:dv).Wf:=⟨dE h.ao l,by show(aK c.ao l).1.ps.length=_;rw[fm];exact h.many,h.fr,h.ended⟩
variable {s:ck} (F:Nat→Prop) (cp:Nat) (c:dv) (v:jI) (x:cv) (pt pl:Option Addr)
theorem zV (h:s.Wf):∀n,(dp s n).1.Wf∧(dp s n).1.ps=s.ps:=by
 intro n
 induction n generalizing s with
 |zero=>exact⟨h,rfl⟩
 |succ n ih=>
  have h1:=jn h
  have h2:=ih h1
  have hp:(aY s).1.ps=s.ps:=by unfold aY;split<;>(try rfl);split<;>rfl
  rw[dp]
  split
  ·exact⟨h,rfl⟩
  ·split
   ·exact⟨h2.1,h2.2.trans hp⟩
   ·exact⟨h2.1,h2.2.trans hp⟩
theorem wZ (h:s.Wf) (rows:List (List Int)):(fL rows s).1.Wf∧(fL rows s).1.ps=s.ps:=by
 have h1:=dE h [1]
 have h2:=fm s [1]
 have h3:=zV h1 (ix rows (rows.length - 1)).length
 unfold fL
 split
 ·exact⟨h,rfl⟩
 ·split
  ·exact⟨h,rfl⟩
  ·split
   ·exact⟨h,rfl⟩
   ·split
    ·exact⟨h,rfl⟩
    ·exact⟨h3.1,h3.2.trans h2⟩
theorem Dd {c:dv} (h:c.Wf) (x:cv):({c with ao:=(dM c x).1}:dv).Wf:=by
 have h1:(dM c x).1.Wf∧(dM c x).1.ps=c.ao.ps:=by
  unfold dM
  split
  ·exact⟨h.ao,rfl⟩
  ·exact wZ h.ao _
 exact⟨h1.1,by show(dM c x).1.ps.length=_;rw[h1.2];exact h.many,h.fr,h.ended⟩
theorem vg (ct cl:Nat) (w:World) (hw:Ok (aT cp c v) [fun w=>ai F w (.slice pl x.labels.length cl) x.labels] w) (hg:v.Good c) (hb:c.broken=0) (hwf:c.Wf) (_hres:c.results.length≤100000000000) (_hlb:∀n,(cT c n).1.length≤100000000000) (_hll:x.labels.length≤10000000) (_ho:x.op=15):Calls G.P 54 #[.pointer (some ⟨cp,0,none⟩),.agg #[Pf .i64 x.op,Pf .i64 x.a,Pf .i64 x.b,Pf .u64 x.n,Pf .i64 x.kind,Pf .i64 x.val,Pf .i64 x.index,Pg pt x.types.length ct,Pg pl x.labels.length cl]] w (aJ (aT cp c v) cp (iz c (qS c)) w):=by
 have:=hg;clear this
 refine ae (l:=[_,_]) func54 rfl ntmps54 rfl (Ok.dk hw) ?_;generalize hS:Mb (aT cp c v)=S0;obtain⟨sp,tv,pv,bv,rv,fv,D,L⟩:=v;dsimp only[aT,aX,Pj,Pi];have hps:=hwf.ao.some;have hat:=hwf.ao.at_
 have hret:qS c=c.results:=if_neg (fun h=>h hb)
 rw[hret]
 repeat'(first|refine ar ?_|(refine aE fun b_=>?_)|fail)
 refine Ml ?_
 intro u0 _
 dsimp only[Pj,Pi]
 refine aa.pure (φ:=∃p cc,u0=.slice p c.results.length cc) (fun w' hw'=>by obtain⟨p,cc,e,_⟩:=aw (hw'.own (B:=0) (T:=fT) (v:=u0));exact⟨p,cc,e⟩) ?_
 rintro⟨pu,cu,rfl⟩
 refine aa.freeze (q:=.own 0 fT 1 (.slice pu c.results.length cu) c.results.length (aZ c.results)) (fun w=>ai (fun k=>(Pg pu c.results.length cu).ownBlock=some k) w (.slice pu c.results.length cu) c.results) jK (fun w' h _=>eH h Pc) ?_
 obtain⟨r1,hr1⟩:∃r,aK c.ao c.results=r:=⟨_,rfl⟩
 have hwf1:=AR hwf c.results
 unfold iz
 rw[hr1]at hwf1 ⊢
 obtain⟨s1,e1⟩:=r1
 dsimp only at hwf1 ⊢
 repeat'(first|refine ar ?_|refine N7 ?_|fail)
 refine aa.he (HE.bJ (M0:=aX sp c.ao (tv,pv)) dS rfl rfl (fun w' hw'=>by have:=gy (fun k=>(Pg pu c.results.length cu).ownBlock=some k) sp c.ao (tv,pv) (.slice pu c.results.length cu) c.results w' (hw'.dc dU aU) hps hat.1 hat.2;rw[hr1]at this;exact this)) rfl ?_
 rintro⟨tv1,pv1⟩ _
 dsimp only[aX,Pj,Pi]
 by_cases he1:e1=0
 ·subst he1
  rw[if_neg (fun h=>h rfl)]
  repeat'(first|refine ar ?_|fail)
  refine Mm ?_
  rintro⟨sp2,tv2,pv2,bv2,rv2,fv2,D2,L2⟩ hg2
  dsimp only[aT,aX,Pj,Pi]at hg2 ⊢
  repeat'(first|refine ar ?_|fail)
  exact gc
 ·rw[if_pos he1]
  repeat'(first|refine ar ?_|fail)
  all_goals exact ge
theorem vc (ct cl:Nat) (w:World) (hw:Ok (aT cp c v) [fun w=>ai F w (.slice pl x.labels.length cl) x.labels] w) (hg:v.Good c) (hb:c.broken=0) (hwf:c.Wf) (_hres:c.results.length≤100000000000) (hlb:∀n,(cT c n).1.length≤100000000000) (_hll:x.labels.length≤10000000) (_ho:x.op=12):Calls G.P 54 #[.pointer (some ⟨cp,0,none⟩),.agg #[Pf .i64 x.op,Pf .i64 x.a,Pf .i64 x.b,Pf .u64 x.n,Pf .i64 x.kind,Pf .i64 x.val,Pf .i64 x.index,Pg pt x.types.length ct,Pg pl x.labels.length cl]] w (aJ (aT cp c v) cp (if(cT c x.a).2≠0 then(c,(cT c x.a).2)else iz c (cT c x.a).1) w):=by
 have:=hg;clear this;have:=hb;clear this
 refine ae (l:=[_,_]) func54 rfl ntmps54 rfl (Ok.dk hw) ?_;generalize hS:Mb (aT cp c v)=S0;obtain⟨sp,tv,pv,bv,rv,fv,D,L⟩:=v;dsimp only[aT,aX,Pj,Pi];have hps:=hwf.ao.some;have hat:=hwf.ao.at_
 repeat'(first|refine ar ?_|(refine aE fun b_=>?_)|fail)
 refine Ml ?_
 intro u0 _
 dsimp only[Pj,Pi]
 repeat'(first|refine ar ?_|fail)
 refine Mn ?_
 intro u1 _
 dsimp only[Pj,Pi]
 obtain⟨q,hq⟩:∃q,cT c x.a=q:=⟨_,rfl⟩
 have hql:=hlb x.a
 rw[hq]at hql ⊢
 obtain⟨l,e⟩:=q
 dsimp only at hql ⊢
 by_cases he:e=0
 ·subst he
  rw[if_neg (fun h=>h rfl)]
  refine aa.pure (φ:=∃p cc,u1=.slice p l.length cc) (fun w' hw'=>by obtain⟨p,cc,e,_⟩:=aw (hw'.own (B:=0) (T:=fT) (v:=u1));exact⟨p,cc,e⟩) ?_
  rintro⟨pu,cu,rfl⟩
  refine Mp ?_
  obtain⟨r1,hr1⟩:∃r,aK c.ao l=r:=⟨_,rfl⟩
  have hwf1:=AR hwf l
  unfold iz
  rw[hr1]at hwf1 ⊢
  obtain⟨s1,e1⟩:=r1
  dsimp only at hwf1 ⊢
  repeat'(first|refine ar ?_|refine N7 ?_|fail)
  refine aa.he (HE.bJ (M0:=aX sp c.ao (tv,pv)) dS rfl rfl (fun w' hw'=>by have:=gy (fun k=>(Pg pu l.length cu).ownBlock=some k) sp c.ao (tv,pv) (.slice pu l.length cu) l w' (hw'.dc dU aU) hps hat.1 hat.2;rw[hr1]at this;exact this)) rfl ?_
  rintro⟨tv1,pv1⟩ _
  dsimp only[aX,Pj,Pi]
  by_cases he1:e1=0
  ·subst he1
   rw[if_neg (fun h=>h rfl)]
   repeat'(first|refine ar ?_|fail)
   refine Mm ?_
   rintro⟨sp2,tv2,pv2,bv2,rv2,fv2,D2,L2⟩ hg2
   dsimp only[aT,aX,Pj,Pi]at hg2 ⊢
   repeat'(first|refine ar ?_|fail)
   exact gc
  ·rw[if_pos he1]
   repeat'(first|refine ar ?_|fail)
   all_goals exact ge
 ·rw[if_pos he]
  repeat'(first|refine ar ?_|fail)
  all_goals first|omega|exact ah.aF rfl rfl fun w' hw'=>aJ.err e rfl he hS hw' ak
theorem vd (ct cl:Nat) (w:World) (hw:Ok (aT cp c v) [fun w=>ai F w (.slice pl x.labels.length cl) x.labels] w) (hg:v.Good c) (hb:c.broken=0) (hwf:c.Wf) (_hres:c.results.length≤100000000000) (hlb:∀n,(cT c n).1.length≤100000000000) (_hll:x.labels.length≤10000000) (_ho:x.op=13) (_hts:c.ao.ts.length≤1000000000000):Calls G.P 54 #[.pointer (some ⟨cp,0,none⟩),.agg #[Pf .i64 x.op,Pf .i64 x.a,Pf .i64 x.b,Pf .u64 x.n,Pf .i64 x.kind,Pf .i64 x.val,Pf .i64 x.index,Pg pt x.types.length ct,Pg pl x.labels.length cl]] w (aJ (aT cp c v) cp (if(cT c x.a).2≠0 then(c,(cT c x.a).2)else w8 c (cT c x.a).1) w):=by
 have:=hb;clear this
 refine ae (l:=[_,_]) func54 rfl ntmps54 rfl (Ok.dk hw) ?_;generalize hS:Mb (aT cp c v)=S0;obtain⟨sp,tv,pv,bv,rv,fv,D,L⟩:=v;dsimp only[aT,aX,Pj,Pi];have hps:=hwf.ao.some;have hat:=hwf.ao.at_
 repeat'(first|refine ar ?_|(refine aE fun b_=>?_)|fail)
 refine Ml ?_
 intro u0 _
 dsimp only[Pj,Pi]
 repeat'(first|refine ar ?_|fail)
 refine Mn ?_
 intro u1 _
 dsimp only[Pj,Pi]
 obtain⟨q,hq⟩:∃q,cT c x.a=q:=⟨_,rfl⟩
 have hql:=hlb x.a
 rw[hq]at hql ⊢
 obtain⟨l,e⟩:=q
 dsimp only at hql ⊢
 by_cases he:e=0
 ·subst he
  rw[if_neg (fun h=>h rfl)]
  refine aa.pure (φ:=∃p cc,u1=.slice p l.length cc) (fun w' hw'=>by obtain⟨p,cc,e,_⟩:=aw (hw'.own (B:=0) (T:=fT) (v:=u1));exact⟨p,cc,e⟩) ?_
  rintro⟨pu,cu,rfl⟩
  refine Mp ?_
  obtain⟨r1,hr1⟩:∃r,aK c.ao [1]=r:=⟨_,rfl⟩
  have hw1:=dE hwf.ao [1]
  have ht1:=dD c.ao [1]
  unfold w8
  rw[hr1]at hw1 ht1 ⊢
  obtain⟨s1,e1⟩:=r1
  dsimp only at hw1 ht1 ⊢
  repeat'(first|refine ar ?_|refine N7 ?_|(refine fB fun b_ _=>?_)|fail)
  obtain⟨bl,rfl⟩:∃y:Nat,y=b_:=⟨_,rfl⟩
  refine aa.freeze (q:=.aV bl [.int .i64 1] fT) (fun w=>ai (fun k=>k=bl) w (.slice (some ⟨bl,0,none⟩) 1 1) [1]) jK (fun w' h _=>dJ h) ?_
  refine aa.he (HE.bJ (M0:=aX sp c.ao (tv,pv)) dS rfl rfl (fun w' hw'=>by have:=gy (fun k=>k=bl) sp c.ao (tv,pv) (.slice (some ⟨bl,0,none⟩) 1 1) [1] w' (hw'.dc dU aU) hps hat.1 hat.2;rw[hr1]at this;exact this)) rfl ?_
  rintro⟨tv1,pv1⟩ _
  dsimp only[aX,Pj,Pi]
  by_cases he1:e1=0
  ·subst he1
   rw[if_neg (fun h=>h rfl)]
   refine aa.lj (sW ⟨l,l⟩ ⟨fun k=>(Pg pu l.length cu).ownBlock=some k,pu,cu,pu,cu⟩) (fun w2 h=>⟨h (fun w=>ai (fun k=>(Pg pu l.length cu).ownBlock=some k) w (.slice pu l.length cu) l) ak,h (fun w=>ai (fun k=>(Pg pu l.length cu).ownBlock=some k) w (.slice pu l.length cu) l) ak⟩) ?_
   repeat'(first|refine ar ?_|refine N7 ?_|fail)
   refine aa.he (HE.bJ (M0:=aX sp s1 (tv1,pv1)) dS rfl rfl (fun w' hw'=>xE sp s1 (tv1,pv1) ⟨l,l⟩ ⟨fun k=>(Pg pu l.length cu).ownBlock=some k,pu,cu,pu,cu⟩ w' (hw'.dc dU aU) hw1 (Hr l (by show(s1.ts.length+l.length)*8≤_;omega)))) rfl ?_
   rintro⟨tv2,pv2⟩ _
   dsimp only[aX,Pj,Pi]
   repeat'(first|refine ar ?_|fail)
   unfold CT
   dsimp only
   exact ah.aF rfl rfl fun w' hw'=>by
    by_cases h2:(fS s1 ⟨l,l⟩).2=0
    ·have:=aJ.ok (cp:=cp) (r:=({c with ao:=(fS s1 ⟨l,l⟩).1},(fS s1 ⟨l,l⟩).2)) (⟨sp,tv2,pv2,bv,rv,fv,D,L⟩:jI) h2 ⟨hg.len,hg.fr,hg.rs⟩ hS hw' OH ak
     rw[show Pf .i64 (fS s1 ⟨l,l⟩).2=.int .i64 0 by rw[h2]];exact this
    ·exact aJ.err _ rfl h2 hS hw' ak
  ·rw[if_pos he1]
   repeat'(first|refine ar ?_|fail)
   all_goals exact ge
 ·rw[if_pos he]
  repeat'(first|refine ar ?_|fail)
  all_goals first|omega|exact ah.aF rfl rfl fun w' hw'=>aJ.err e rfl he hS hw' ak
theorem ve (ct cl:Nat) (w:World) (hw:Ok (aT cp c v) [fun w=>ai F w (.slice pl x.labels.length cl) x.labels] w) (hg:v.Good c) (hb:c.broken=0) (hwf:c.Wf) (_hres:c.results.length≤100000000000) (hlb:∀n,(cT c n).1.length≤100000000000) (hll:x.labels.length≤10000000) (_ho:x.op=14):Calls G.P 54 #[.pointer (some ⟨cp,0,none⟩),.agg #[Pf .i64 x.op,Pf .i64 x.a,Pf .i64 x.b,Pf .u64 x.n,Pf .i64 x.kind,Pf .i64 x.val,Pf .i64 x.index,Pg pt x.types.length ct,Pg pl x.labels.length cl]] w (aJ (aT cp c v) cp (jy c x) w):=by
 have hI:ai F w (.slice pl x.labels.length cl) x.labels:=hw.get (p:=fun w=>ai F w (.slice pl x.labels.length cl) x.labels) Pd
 refine ae (l:=[_,_]) func54 rfl ntmps54 rfl (Ok.dk hw) ?_;generalize hS:Mb (aT cp c v)=S0;obtain⟨sp,tv,pv,bv,rv,fv,D,L⟩:=v;dsimp only[aT,aX,Pj,Pi];have hps:=hwf.ao.some;have hat:=hwf.ao.at_
 unfold jy
 obtain⟨r,hr⟩:∃r,dM c x=r:=⟨_,rfl⟩
 have hwfr:=Dd hwf x
 rw[hr]at hwfr ⊢
 obtain⟨s1,e1⟩:=r
 dsimp only at hwfr ⊢
 repeat'(first|refine ar ?_|(refine aE fun b_=>?_)|fail)
 refine Ml ?_
 intro u0 _
 dsimp only[Pj,Pi]
 repeat'(first|refine ar ?_|fail)
 have htab:=fun w' (hw':Ok (aT cp c ⟨sp,tv,pv,bv,rv,fv,D,L⟩) [fun w=>ai F w (.slice pl x.labels.length cl) x.labels] w')=>BU F cp c ⟨sp,tv,pv,bv,rv,fv,D,L⟩ x pt pl ct cl w' hw' hg hb hwf hlb hll
 rw[hr]at htab
 by_cases he1:e1=0
 ·subst he1
  rw[if_neg (fun h=>h rfl)]
  refine aa.he (HE.bJ (M0:=aT cp c ⟨sp,tv,pv,bv,rv,fv,D,L⟩) dS rfl rfl (fun w' hw'=>(htab w' (hw'.dc dU aU)).mono fun _ _ h=>h.Dr rfl)) rfl ?_
  rintro⟨sp1,tv1,pv1,bv1,rv1,fv1,D1,L1⟩ hg1
  dsimp only[aT,aX,Pj,Pi]at hg1 ⊢
  repeat'(first|refine ar ?_|fail)
  refine aa.he (HE.bJ (M0:=aT cp {c with ao:=s1} ⟨sp1,tv1,pv1,bv1,rv1,fv1,D1,L1⟩) dS rfl rfl (fun w' hw'=>oM cp {c with ao:=s1} ⟨sp1,tv1,pv1,bv1,rv1,fv1,D1,L1⟩ w' (hw'.dc dU (fun p hp=>absurd hp Pd)) hg1 hb hwfr)) rfl ?_
  rintro⟨sp2,tv2,pv2,bv2,rv2,fv2,D2,L2⟩ hg2
  dsimp only[aT,aX,Pj,Pi]at hg2 ⊢
  repeat'(first|refine ar ?_|fail)
  exact gc
 ·rw[if_pos he1]
  refine aa.he (HE.bJ (M0:=aT cp c ⟨sp,tv,pv,bv,rv,fv,D,L⟩) dS rfl rfl (fun w' hw'=>(htab w' (hw'.dc dU aU)).mono fun _ _ h=>h.bad (q:=e1) rfl he1)) rfl ?_
  rintro _ _
  dsimp only[Pi]
  repeat'(first|refine ar ?_|fail)
  all_goals exact ge
theorem AA (ct cl:Nat) (w:World) (hw:Ok (aT cp c v) [fun w=>ai F w (.slice pl x.labels.length cl) x.labels] w) (hg:v.Good c) (hb:c.broken=0) (hwf:c.Wf) (hres:c.results.length≤100000000000) (hlb:∀n,(cT c n).1.length≤100000000000) (hll:x.labels.length≤10000000) (hj:jumps x.op) (hts:c.ao.ts.length≤1000000000000):Calls G.P 54 #[.pointer (some ⟨cp,0,none⟩),.agg #[Pf .i64 x.op,Pf .i64 x.a,Pf .i64 x.b,Pf .u64 x.n,Pf .i64 x.kind,Pf .i64 x.val,Pf .i64 x.index,Pg pt x.types.length ct,Pg pl x.labels.length cl]] w (aJ (aT cp c v) cp (lO c x) w):=by
 have hj':=hj
 unfold jumps at hj'
 unfold lO
 rcases hj' with h|h|h|h
 ·have n15:¬x.op=15:=by omega
  have n14:¬x.op=14:=by omega
  have n13:¬x.op=13:=by omega
  rw[if_neg n15,if_neg n14,if_neg n13]
  exact vc F cp c v x pt pl ct cl w hw hg hb hwf hres hlb hll h
 ·have n15:¬x.op=15:=by omega
  have n14:¬x.op=14:=by omega
  rw[if_neg n15,if_neg n14,if_pos h]
  exact vd F cp c v x pt pl ct cl w hw hg hb hwf hres hlb hll h hts
 ·have n15:¬x.op=15:=by omega
  rw[if_neg n15,if_pos h]
  exact ve F cp c v x pt pl ct cl w hw hg hb hwf hres hlb hll h
 ·rw[if_pos h]
  exact vg F cp c v x pt pl ct cl w hw hg hb hwf hres hlb hll h
end Go.Proofs.YtdkcljdfbemnbaaGreatDoor
