/- rule.Apply and ref23.Apply, plain: what each computes, and that they answer the same. -/
import Derived.Test.YtgbgnipidakdhaaGreatDoorJLm
import Derived.Test.YtgbgnipidakdhaaGreatDoorJUc
import Derived.Test.YtgbgnipidakdhaaGreatDoorJLz
import Derived.Test.YtgbgnipidakdhaaGreatDoorJZt
namespace Go.Proofs.YtgbgnipidakdhaaGreatDoor
open Go.RowKit
set_option maxRecDepth 100000
def gL (c:di) (l:List Int):di×Int:=if(aE c.ao l).2≠0 then(c,(aE c.ao l).2)else(gi {c with ao:=(aE c.ao l).1},0)
def uE (c:di) (l:List Int):di×Int:=if(aE c.ao [1]).2≠0 then(c,(aE c.ao [1]).2)else Ao {c with ao:=(aE c.ao [1]).1} ⟨l,l⟩
def kE (c:di) (x:cJ):di×Int:=
 if x.op=15 then gL c (oC c)
 else if x.op=14 then iM c x
 else if(cy c x.a).2≠0 then(c,(cy c x.a).2)
 else if x.op=13 then uE c (cy c x.a).1 else gL c (cy c x.a).1
def qC (c:fN) (x:cJ):fN×Int:=
 if x.op=15 then kp c c.results 0
 else if x.op=14 then eP c x
 else if x.op=13 then(if(eA c x.a).2≠0 then(c,(eA c x.a).2)else jl c ⟨(eA c x.a).1++[1],(eA c x.a).1⟩)
 else kp c (eA c x.a).1 (eA c x.a).2
def opens (op:Int):Prop:=op=2∨op=3∨op=4
instance (op:Int):Decidable (opens op):=by unfold opens;infer_instance
def jumps (op:Int):Prop:=op=12∨op=13∨op=14∨op=15
instance (op:Int):Decidable (jumps op):=by unfold jumps;infer_instance
def jy (op:Int):Prop:=op=26∨op=27∨op=209
instance (op:Int):Decidable (jy op):=by unfold jy;infer_instance
def jV (c:di) (m:aj) (locals:List Int) (x:cJ):di×Int:=
 if cq x=false then(c,10)
 else if opens x.op then(match cA m x.kind x.val x.index with|none=>(c,11)|some f=>fL c x.op f.params f.results)
 else if x.op=5 then lF c
 else if x.op=11 then jj c
 else if x.op=0 then(gi c,0)
 else if jumps x.op then kE c x
 else if jy x.op then({c with ao:=(gH c.ao x.op).1},(gH c.ao x.op).2)
 else n9 c (ed m locals x)
def oa (c:fN) (m:aj) (locals:List Int) (x:cJ):fN×Int:=
 if cq x=false then(c,10)
 else if opens x.op then(match cA m x.kind x.val x.index with|none=>(c,11)|some f=>lS c x.op f)
 else if x.op=5 then uN c
 else if x.op=11 then pA c
 else if x.op=0 then(fF c,0)
 else if jumps x.op then qC c x
 else if jy x.op then zu c x.op
 else if(jH m locals x).2≠0 then(c,(jH m locals x).2)else jl c (jH m locals x).1
def Alike (a:di×Int) (b:fN×Int):Prop:=a.2=b.2∧(a.2=0→bB a.1=b.1)
theorem oO {c:di} (hb:c.broken=0) (hf:c.ao.Fit) (l:List Int):Alike (gL c l) (kp (bB c) l 0):=by
 rw[Bv (c:=bB c) hf]
 unfold gL
 have hs:(bB c).ao=c.ao:=rfl
 rw[hs]
 by_cases h1:(aE c.ao l).2≠0
 ·simp only[if_pos h1];exact⟨rfl,fun h=>absurd h h1⟩
 ·simp only[if_neg h1]
  exact⟨rfl,fun _=>by rw[qD {c with ao:=(aE c.ao l).1} hb,yk]⟩
theorem zO {c:di} (hw:c.ao.Wf) (l:List Int):Alike (uE c l) (jl (bB c) ⟨l++[1],l⟩):=by
 obtain⟨h1,h2⟩:=DQ hw l
 have hs:(bB c).ao=c.ao:=rfl
 unfold Alike jl uE Ao
 rw[hs]
 by_cases h:(aE c.ao [1]).2≠0
 ·simp only[if_pos h]at h1 h2 ⊢
  exact⟨h1.symm,fun e=>absurd e h⟩
 ·simp only[if_neg h]at h1 h2 ⊢
  exact⟨h1.symm,fun e=>by rw[h2 (h1.trans e)];rfl⟩
theorem vV {c:di} (hb:c.broken=0) (hk:c.Ok) (hw:c.ao.Wf) (hf:c.ao.Fit) (x:cJ) (_hj:jumps x.op):Alike (kE c x) (qC (bB c) x):=by
 unfold kE qC
 by_cases h15:x.op=15
 ·rw[if_pos h15,if_pos h15,AL c hb];exact oO hb hf _
 rw[if_neg h15,if_neg h15]
 by_cases h14:x.op=14
 ·rw[if_pos h14,if_pos h14];exact xx c x hb hk
 rw[if_neg h14,if_neg h14,o9 c x.a hb hk]
 obtain⟨a,ha⟩:∃a,eA (bB c) x.a=a:=⟨_,rfl⟩
 rw[ha]
 by_cases h1:a.2≠0
 ·rw[if_pos h1]
  by_cases h13:x.op=13
  ·rw[if_pos h13,if_pos h1];exact⟨rfl,fun h=>absurd h h1⟩
  ·rw[if_neg h13];unfold kp;rw[if_pos h1];exact⟨rfl,fun h=>absurd h h1⟩
 ·rw[if_neg h1]
  by_cases h13:x.op=13
  ·rw[if_pos h13,if_pos h13,if_neg h1];exact zO hw _
  ·rw[if_neg h13,if_neg h13,show a.2=0 from Decidable.not_not.1 h1];exact oO hb hf _
theorem sf {op:Int} (h1:¬opens op) (h2:op≠5) (h3:op≠11) (h4:op≠0) (h5:¬jumps op) (h6:¬jy op):ij op=false:=by
 unfold opens at h1;unfold jumps at h5;unfold jy at h6;unfold ij
 simp only[not_or]at h1 h5 h6
 simp[h1,h2,h3,h4,h5,h6]
theorem wL {c:di} (hb:c.broken=0) (hk:c.Ok) (hw:c.ao.Wf) (hf:c.ao.Fit) (m:aj) (locals:List Int) (x:cJ):Alike (jV c m locals x) (oa (bB c) m locals x):=by
 unfold jV oa
 by_cases hp:cq x=false
 ·rw[if_pos hp,if_pos hp];exact⟨rfl,fun h=>absurd h (show¬(10:Int)=0 by decide)⟩
 rw[if_neg hp,if_neg hp]
 by_cases h1:opens x.op
 ·rw[if_pos h1,if_pos h1]
  cases cA m x.kind x.val x.index with
  |none=>exact⟨rfl,fun h=>absurd h (show¬(11:Int)=0 by decide)⟩
  |some f=>exact xX c x.op f hb
 rw[if_neg h1,if_neg h1]
 by_cases h2:x.op=5
 ·rw[if_pos h2,if_pos h2];exact else_eq c hb hk
 rw[if_neg h2,if_neg h2]
 by_cases h3:x.op=11
 ·rw[if_pos h3,if_pos h3];exact CM c hb hk
 rw[if_neg h3,if_neg h3]
 by_cases h4:x.op=0
 ·rw[if_pos h4,if_pos h4];exact⟨rfl,fun _=>qD c hb⟩
 rw[if_neg h4,if_neg h4]
 by_cases h5:jumps x.op
 ·rw[if_pos h5,if_pos h5];exact vV hb hk hw hf x h5
 rw[if_neg h5,if_neg h5]
 by_cases h6:jy x.op
 ·rw[if_pos h6,if_pos h6];exact⟨rfl,fun _=>rfl⟩
 rw[if_neg h6,if_neg h6]
 have ha:=sf h1 h2 h3 h4 h5 h6
 have e:=rz m locals x
 unfold kP at e
 rw[if_neg hp,ha,if_neg Mh]at e
 rw[e]
 unfold n9
 by_cases h7:(jH m locals x).2≠0
 ·rw[if_pos h7,if_pos h7];exact⟨rfl,fun h=>absurd h h7⟩
 ·rw[if_neg h7,if_neg h7];exact⟨rfl,fun _=>rfl⟩
theorem wN {c:di} (h:c.Wf) (l:List Int):({c with ao:=(aE c.ao l).1}:di).Wf:=⟨dn h.ao l,by show(aE c.ao l).1.ps.length=_;rw[eM];exact h.many,h.fr,h.ended⟩
theorem xj {s:bP} (h:s.Wf):∀n,(cV s n).1.Wf∧(cV s n).1.ps=s.ps:=by
 intro n
 induction n generalizing s with
 |zero=>exact⟨h,rfl⟩
 |succ n ih=>
  have h1:=iC h
  have h2:=ih h1
  have hp:(aU s).1.ps=s.ps:=by unfold aU;split<;>(try rfl);split<;>rfl
  rw[cV]
  split
  ·exact⟨h,rfl⟩
  ·split
   ·exact⟨h2.1,h2.2.trans hp⟩
   ·exact⟨h2.1,h2.2.trans hp⟩
theorem uW {s:bP} (h:s.Wf) (rows:List (List Int)):(fa rows s).1.Wf∧(fa rows s).1.ps=s.ps:=by
 have h1:=dn h [1]
 have h2:=eM s [1]
 have h3:=xj h1 (ix rows (rows.length - 1)).length
 unfold fa
 split
 ·exact⟨h,rfl⟩
 ·split
  ·exact⟨h,rfl⟩
  ·split
   ·exact⟨h,rfl⟩
   ·split
    ·exact⟨h,rfl⟩
    ·exact⟨h3.1,h3.2.trans h2⟩
theorem Bo {c:di} (h:c.Wf) (x:cJ):({c with ao:=(dv c x).1}:di).Wf:=by
 have h1:(dv c x).1.Wf∧(dv c x).1.ps=c.ao.ps:=by
  unfold dv
  split
  ·exact⟨h.ao,rfl⟩
  ·exact uW h.ao _
 exact⟨h1.1,by show(dv c x).1.ps.length=_;rw[h1.2];exact h.many,h.fr,h.ended⟩
set_option maxHeartbeats 8000000 in
theorem rl (F:Nat→Prop) (cp:Nat) (c:di) (v:iY) (x:cJ) (pt pl:Option Addr) (ct cl:Nat) (w:World) (hw:Ok (aQ cp c v) [fun w=>af F w (.slice pl x.labels.length cl) x.labels] w) (hg:v.Good c) (hb:c.broken=0) (hwf:c.Wf) (hres:c.results.length≤100000000000) (_hlb:∀n,(cy c n).1.length≤100000000000) (_hll:x.labels.length≤1000) (ho:x.op=15):Calls G.P 46 #[.pointer (some ⟨cp,0,none⟩),.agg #[Value.int .i64 x.op,Value.int .i64 x.a,Value.int .i64 x.b,Value.int .u64 x.n,Value.int .i64 x.kind,Value.int .i64 x.val,Value.int .i64 x.index,Value.slice pt x.types.length ct,Value.slice pl x.labels.length cl]] w (aD (aQ cp c v) cp (gL c (oC c)) w):=by
 refine ae (l:=[_,_]) Tryz.func46 rfl Tryz.ntmps46 rfl (Ok.dj hw) ?_;generalize hS:Mb (aQ cp c v)=S0;obtain⟨sp,tv,pv,bv,rv,fv,D,L⟩:=v;dsimp only[aQ,aS,List.cons_append,List.nil_append];have hps:=hwf.ao.some;have hat:=hwf.ao.at_
 have hret:oC c=c.results:=if_neg (fun h=>h hb)
 rw[hret]
 repeat'(first|refine ar ?_|(refine aC fun b_=>?_)|fail)
 refine KJ ?_
 intro u0 _
 dsimp only[List.cons_append,List.nil_append]
 refine aa.pure (φ:=∃p cc,u0=.slice p c.results.length cc) (fun w' hw'=>by obtain⟨p,cc,e,_⟩:=ax (hw'.own (B:=0) (T:=fY) (v:=u0));exact⟨p,cc,e⟩) ?_
 rintro⟨pu,cu,rfl⟩
 refine aa.freeze (q:=.own 0 fY 1 (.slice pu c.results.length cu) c.results.length (aX c.results)) (fun w=>af (fun k=>(Value.slice pu c.results.length cu).ownBlock=some k) w (.slice pu c.results.length cu) c.results) je (fun w' h _=>eQ h Mj) ?_
 obtain⟨r1,hr1⟩:∃r,aE c.ao c.results=r:=⟨_,rfl⟩
 have hwf1:=wN hwf c.results
 unfold gL
 rw[hr1]at hwf1 ⊢
 obtain⟨s1,e1⟩:=r1
 dsimp only at hwf1 ⊢
 repeat'(first|refine ar ?_|refine K3 ?_|fail)
 refine aa.he (HE.bC (M0:=aS sp c.ao (tv,pv)) dt rfl rfl (fun w' hw'=>by have:=fK (fun k=>(Value.slice pu c.results.length cu).ownBlock=some k) sp c.ao (tv,pv) (.slice pu c.results.length cu) c.results w' (hw'.cF dM aV) hps hat.1 hat.2;rw[hr1]at this;exact this)) rfl ?_
 rintro⟨tv1,pv1⟩ _
 dsimp only[aS,List.cons_append,List.nil_append]
 by_cases he1:e1=0
 ·subst he1
  rw[if_neg (fun h=>h rfl)]
  repeat'(first|refine ar ?_|fail)
  refine KK ?_
  rintro⟨sp2,tv2,pv2,bv2,rv2,fv2,D2,L2⟩ hg2
  dsimp only[aQ,aS,List.cons_append,List.nil_append]at hg2 ⊢
  repeat'(first|refine ar ?_|fail)
  exact ws
 ·rw[if_pos he1]
  repeat'(first|refine ar ?_|fail)
  all_goals exact pi
set_option maxHeartbeats 8000000 in
theorem sr (F:Nat→Prop) (cp:Nat) (c:di) (v:iY) (x:cJ) (pt pl:Option Addr) (ct cl:Nat) (w:World) (hw:Ok (aQ cp c v) [fun w=>af F w (.slice pl x.labels.length cl) x.labels] w) (hg:v.Good c) (hb:c.broken=0) (hwf:c.Wf) (_hres:c.results.length≤100000000000) (hlb:∀n,(cy c n).1.length≤100000000000) (_hll:x.labels.length≤1000) (ho:x.op=12):Calls G.P 46 #[.pointer (some ⟨cp,0,none⟩),.agg #[Value.int .i64 x.op,Value.int .i64 x.a,Value.int .i64 x.b,Value.int .u64 x.n,Value.int .i64 x.kind,Value.int .i64 x.val,Value.int .i64 x.index,Value.slice pt x.types.length ct,Value.slice pl x.labels.length cl]] w (aD (aQ cp c v) cp (if(cy c x.a).2≠0 then(c,(cy c x.a).2)else gL c (cy c x.a).1) w):=by
 refine ae (l:=[_,_]) Tryz.func46 rfl Tryz.ntmps46 rfl (Ok.dj hw) ?_;generalize hS:Mb (aQ cp c v)=S0;obtain⟨sp,tv,pv,bv,rv,fv,D,L⟩:=v;dsimp only[aQ,aS,List.cons_append,List.nil_append];have hps:=hwf.ao.some;have hat:=hwf.ao.at_
 repeat'(first|refine ar ?_|(refine aC fun b_=>?_)|fail)
 refine KJ ?_
 intro u0 _
 dsimp only[List.cons_append,List.nil_append]
 repeat'(first|refine ar ?_|fail)
 refine KL ?_
 intro u1 _
 dsimp only[List.cons_append,List.nil_append]
 obtain⟨q,hq⟩:∃q,cy c x.a=q:=⟨_,rfl⟩
 have hql:=hlb x.a
 rw[hq]at hql ⊢
 obtain⟨l,e⟩:=q
 dsimp only at hql ⊢
 by_cases he:e=0
 ·subst he
  rw[if_neg (fun h=>h rfl)]
  refine aa.pure (φ:=∃p cc,u1=.slice p l.length cc) (fun w' hw'=>by obtain⟨p,cc,e,_⟩:=ax (hw'.own (B:=0) (T:=fY) (v:=u1));exact⟨p,cc,e⟩) ?_
  rintro⟨pu,cu,rfl⟩
  refine KM ?_
  obtain⟨r1,hr1⟩:∃r,aE c.ao l=r:=⟨_,rfl⟩
  have hwf1:=wN hwf l
  unfold gL
  rw[hr1]at hwf1 ⊢
  obtain⟨s1,e1⟩:=r1
  dsimp only at hwf1 ⊢
  repeat'(first|refine ar ?_|refine K3 ?_|fail)
  refine aa.he (HE.bC (M0:=aS sp c.ao (tv,pv)) dt rfl rfl (fun w' hw'=>by have:=fK (fun k=>(Value.slice pu l.length cu).ownBlock=some k) sp c.ao (tv,pv) (.slice pu l.length cu) l w' (hw'.cF dM aV) hps hat.1 hat.2;rw[hr1]at this;exact this)) rfl ?_
  rintro⟨tv1,pv1⟩ _
  dsimp only[aS,List.cons_append,List.nil_append]
  by_cases he1:e1=0
  ·subst he1
   rw[if_neg (fun h=>h rfl)]
   repeat'(first|refine ar ?_|fail)
   refine KK ?_
   rintro⟨sp2,tv2,pv2,bv2,rv2,fv2,D2,L2⟩ hg2
   dsimp only[aQ,aS,List.cons_append,List.nil_append]at hg2 ⊢
   repeat'(first|refine ar ?_|fail)
   exact ws
  ·rw[if_pos he1]
   repeat'(first|refine ar ?_|fail)
   all_goals exact pi
 ·rw[if_pos he]
  repeat'(first|refine ar ?_|fail)
  all_goals first|omega|exact ah.aB rfl rfl fun w' hw'=>aD.err e rfl he hS hw' ak
set_option maxHeartbeats 8000000 in
theorem tl (F:Nat→Prop) (cp:Nat) (c:di) (v:iY) (x:cJ) (pt pl:Option Addr) (ct cl:Nat) (w:World) (hw:Ok (aQ cp c v) [fun w=>af F w (.slice pl x.labels.length cl) x.labels] w) (hg:v.Good c) (hb:c.broken=0) (hwf:c.Wf) (_hres:c.results.length≤100000000000) (hlb:∀n,(cy c n).1.length≤100000000000) (_hll:x.labels.length≤1000) (ho:x.op=13) (hts:c.ao.ts.length≤1000000000000):Calls G.P 46 #[.pointer (some ⟨cp,0,none⟩),.agg #[Value.int .i64 x.op,Value.int .i64 x.a,Value.int .i64 x.b,Value.int .u64 x.n,Value.int .i64 x.kind,Value.int .i64 x.val,Value.int .i64 x.index,Value.slice pt x.types.length ct,Value.slice pl x.labels.length cl]] w (aD (aQ cp c v) cp (if(cy c x.a).2≠0 then(c,(cy c x.a).2)else uE c (cy c x.a).1) w):=by
 refine ae (l:=[_,_]) Tryz.func46 rfl Tryz.ntmps46 rfl (Ok.dj hw) ?_;generalize hS:Mb (aQ cp c v)=S0;obtain⟨sp,tv,pv,bv,rv,fv,D,L⟩:=v;dsimp only[aQ,aS,List.cons_append,List.nil_append];have hps:=hwf.ao.some;have hat:=hwf.ao.at_
 repeat'(first|refine ar ?_|(refine aC fun b_=>?_)|fail)
 refine KJ ?_
 intro u0 _
 dsimp only[List.cons_append,List.nil_append]
 repeat'(first|refine ar ?_|fail)
 refine KL ?_
 intro u1 _
 dsimp only[List.cons_append,List.nil_append]
 obtain⟨q,hq⟩:∃q,cy c x.a=q:=⟨_,rfl⟩
 have hql:=hlb x.a
 rw[hq]at hql ⊢
 obtain⟨l,e⟩:=q
 dsimp only at hql ⊢
 by_cases he:e=0
 ·subst he
  rw[if_neg (fun h=>h rfl)]
  refine aa.pure (φ:=∃p cc,u1=.slice p l.length cc) (fun w' hw'=>by obtain⟨p,cc,e,_⟩:=ax (hw'.own (B:=0) (T:=fY) (v:=u1));exact⟨p,cc,e⟩) ?_
  rintro⟨pu,cu,rfl⟩
  refine KM ?_
  obtain⟨r1,hr1⟩:∃r,aE c.ao [1]=r:=⟨_,rfl⟩
  have hw1:=dn hwf.ao [1]
  have ht1:=dp c.ao [1]
  unfold uE
  rw[hr1]at hw1 ht1 ⊢
  obtain⟨s1,e1⟩:=r1
  dsimp only at hw1 ht1 ⊢
  repeat'(first|refine ar ?_|refine K3 ?_|(refine eH fun b_ _=>?_)|fail)
  obtain⟨bl,rfl⟩:∃y:Nat,y=b_:=⟨_,rfl⟩
  refine aa.freeze (q:=.aT bl [.int .i64 1] fY) (fun w=>af (fun k=>k=bl) w (.slice (some ⟨bl,0,none⟩) 1 1) [1]) je (fun w' h _=>cZ h) ?_
  refine aa.he (HE.bC (M0:=aS sp c.ao (tv,pv)) dt rfl rfl (fun w' hw'=>by have:=fK (fun k=>k=bl) sp c.ao (tv,pv) (.slice (some ⟨bl,0,none⟩) 1 1) [1] w' (hw'.cF dM aV) hps hat.1 hat.2;rw[hr1]at this;exact this)) rfl ?_
  rintro⟨tv1,pv1⟩ _
  dsimp only[aS,List.cons_append,List.nil_append]
  by_cases he1:e1=0
  ·subst he1
   rw[if_neg (fun h=>h rfl)]
   refine aa.lL (qJ ⟨l,l⟩ ⟨fun k=>(Value.slice pu l.length cu).ownBlock=some k,pu,cu,pu,cu⟩) (fun w2 h=>⟨h (fun w=>af (fun k=>(Value.slice pu l.length cu).ownBlock=some k) w (.slice pu l.length cu) l) ak,h (fun w=>af (fun k=>(Value.slice pu l.length cu).ownBlock=some k) w (.slice pu l.length cu) l) ak⟩) ?_
   repeat'(first|refine ar ?_|refine K3 ?_|fail)
   refine aa.he (HE.bC (M0:=aS sp s1 (tv1,pv1)) dt rfl rfl (fun w' hw'=>uX sp s1 (tv1,pv1) ⟨l,l⟩ ⟨fun k=>(Value.slice pu l.length cu).ownBlock=some k,pu,cu,pu,cu⟩ w' (hw'.cF dM aV) hw1 (EF l (by show(s1.ts.length+l.length)*8≤_;omega)))) rfl ?_
   rintro⟨tv2,pv2⟩ _
   dsimp only[aS,List.cons_append,List.nil_append]
   repeat'(first|refine ar ?_|fail)
   unfold Ao
   dsimp only
   exact ah.aB rfl rfl fun w' hw'=>by
    by_cases h2:(fy s1 ⟨l,l⟩).2=0
    ·have:=aD.ok (cp:=cp) (r:=({c with ao:=(fy s1 ⟨l,l⟩).1},(fy s1 ⟨l,l⟩).2)) (⟨sp,tv2,pv2,bv,rv,fv,D,L⟩:iY) h2 ⟨hg.len,hg.fr,hg.rs⟩ hS hw' LD ak
     rw[show Value.int .i64 (fy s1 ⟨l,l⟩).2=.int .i64 0 by rw[h2]];exact this
    ·exact aD.err _ rfl h2 hS hw' ak
  ·rw[if_pos he1]
   repeat'(first|refine ar ?_|fail)
   all_goals exact pi
 ·rw[if_pos he]
  repeat'(first|refine ar ?_|fail)
  all_goals first|omega|exact ah.aB rfl rfl fun w' hw'=>aD.err e rfl he hS hw' ak
set_option maxHeartbeats 8000000 in
theorem sj (F:Nat→Prop) (cp:Nat) (c:di) (v:iY) (x:cJ) (pt pl:Option Addr) (ct cl:Nat) (w:World) (hw:Ok (aQ cp c v) [fun w=>af F w (.slice pl x.labels.length cl) x.labels] w) (hg:v.Good c) (hb:c.broken=0) (hwf:c.Wf) (_hres:c.results.length≤100000000000) (hlb:∀n,(cy c n).1.length≤100000000000) (hll:x.labels.length≤1000) (ho:x.op=14):Calls G.P 46 #[.pointer (some ⟨cp,0,none⟩),.agg #[Value.int .i64 x.op,Value.int .i64 x.a,Value.int .i64 x.b,Value.int .u64 x.n,Value.int .i64 x.kind,Value.int .i64 x.val,Value.int .i64 x.index,Value.slice pt x.types.length ct,Value.slice pl x.labels.length cl]] w (aD (aQ cp c v) cp (iM c x) w):=by
 have hI:af F w (.slice pl x.labels.length cl) x.labels:=hw.get (p:=fun w=>af F w (.slice pl x.labels.length cl) x.labels) Mk
 refine ae (l:=[_,_]) Tryz.func46 rfl Tryz.ntmps46 rfl (Ok.dj hw) ?_;generalize hS:Mb (aQ cp c v)=S0;obtain⟨sp,tv,pv,bv,rv,fv,D,L⟩:=v;dsimp only[aQ,aS,List.cons_append,List.nil_append];have hps:=hwf.ao.some;have hat:=hwf.ao.at_
 unfold iM
 obtain⟨r,hr⟩:∃r,dv c x=r:=⟨_,rfl⟩
 have hwfr:=Bo hwf x
 rw[hr]at hwfr ⊢
 obtain⟨s1,e1⟩:=r
 dsimp only at hwfr ⊢
 repeat'(first|refine ar ?_|(refine aC fun b_=>?_)|fail)
 refine KJ ?_
 intro u0 _
 dsimp only[List.cons_append,List.nil_append]
 repeat'(first|refine ar ?_|fail)
 have htab:=fun w' (hw':Ok (aQ cp c ⟨sp,tv,pv,bv,rv,fv,D,L⟩) [fun w=>af F w (.slice pl x.labels.length cl) x.labels] w')=>zy F cp c ⟨sp,tv,pv,bv,rv,fv,D,L⟩ x pt pl ct cl w' hw' hg hb hwf hlb hll
 rw[hr]at htab
 by_cases he1:e1=0
 ·subst he1
  rw[if_neg (fun h=>h rfl)]
  refine aa.he (HE.bC (M0:=aQ cp c ⟨sp,tv,pv,bv,rv,fv,D,L⟩) dt rfl rfl (fun w' hw'=>(htab w' (hw'.cF dM aV)).mono fun _ _ h=>h.xO rfl)) rfl ?_
  rintro⟨sp1,tv1,pv1,bv1,rv1,fv1,D1,L1⟩ hg1
  dsimp only[aQ,aS,List.cons_append,List.nil_append]at hg1 ⊢
  repeat'(first|refine ar ?_|fail)
  refine aa.he (HE.bC (M0:=aQ cp {c with ao:=s1} ⟨sp1,tv1,pv1,bv1,rv1,fv1,D1,L1⟩) dt rfl rfl (fun w' hw'=>lC cp {c with ao:=s1} ⟨sp1,tv1,pv1,bv1,rv1,fv1,D1,L1⟩ w' (hw'.cF dM (fun p hp=>absurd hp Mk)) hg1 hb hwfr)) rfl ?_
  rintro⟨sp2,tv2,pv2,bv2,rv2,fv2,D2,L2⟩ hg2
  dsimp only[aQ,aS,List.cons_append,List.nil_append]at hg2 ⊢
  repeat'(first|refine ar ?_|fail)
  exact ws
 ·rw[if_pos he1]
  refine aa.he (HE.bC (M0:=aQ cp c ⟨sp,tv,pv,bv,rv,fv,D,L⟩) dt rfl rfl (fun w' hw'=>(htab w' (hw'.cF dM aV)).mono fun _ _ h=>h.bad (q:=e1) rfl he1)) rfl ?_
  rintro _ _
  dsimp only[List.nil_append]
  repeat'(first|refine ar ?_|fail)
  all_goals exact pi
theorem xE (F:Nat→Prop) (cp:Nat) (c:di) (v:iY) (x:cJ) (pt pl:Option Addr) (ct cl:Nat) (w:World) (hw:Ok (aQ cp c v) [fun w=>af F w (.slice pl x.labels.length cl) x.labels] w) (hg:v.Good c) (hb:c.broken=0) (hwf:c.Wf) (hres:c.results.length≤100000000000) (hlb:∀n,(cy c n).1.length≤100000000000) (hll:x.labels.length≤1000) (hj:jumps x.op) (hts:c.ao.ts.length≤1000000000000):Calls G.P 46 #[.pointer (some ⟨cp,0,none⟩),.agg #[Value.int .i64 x.op,Value.int .i64 x.a,Value.int .i64 x.b,Value.int .u64 x.n,Value.int .i64 x.kind,Value.int .i64 x.val,Value.int .i64 x.index,Value.slice pt x.types.length ct,Value.slice pl x.labels.length cl]] w (aD (aQ cp c v) cp (kE c x) w):=by
 have hj':=hj
 unfold jumps at hj'
 unfold kE
 rcases hj' with h|h|h|h
 ·have n15:¬x.op=15:=by omega
  have n14:¬x.op=14:=by omega
  have n13:¬x.op=13:=by omega
  rw[if_neg n15,if_neg n14,if_neg n13]
  exact sr F cp c v x pt pl ct cl w hw hg hb hwf hres hlb hll h
 ·have n15:¬x.op=15:=by omega
  have n14:¬x.op=14:=by omega
  rw[if_neg n15,if_neg n14,if_pos h]
  exact tl F cp c v x pt pl ct cl w hw hg hb hwf hres hlb hll h hts
 ·have n15:¬x.op=15:=by omega
  rw[if_neg n15,if_pos h]
  exact sj F cp c v x pt pl ct cl w hw hg hb hwf hres hlb hll h
 ·rw[if_pos h]
  exact rl F cp c v x pt pl ct cl w hw hg hb hwf hres hlb hll h
theorem di.Wf.ok {c:di} (h:c.Wf):c.Ok:=⟨h.ao.ok,h.many,h.fr.kinds,h.fr.other,h.ended,fun h0=>(h.fr.first h0).1⟩
def yr (K:Nat) (fs:List mK):Prop:=∀f∈fs,f.par.length≤K∧f.res.length≤K
theorem yr.ix {K:Nat} {fs:List mK} (h:yr K fs) {i:Nat} (hi:i<fs.length):(Go.Proofs.YtgbgnipidakdhaaGreatDoor.ix fs i).par.length≤K∧(Go.Proofs.YtgbgnipidakdhaaGreatDoor.ix fs i).res.length≤K:=by
 rw[cD hi];exact h _ (List.getElem_mem hi)
theorem yr.top {K:Nat} {c:di} (h:yr K c.fs):c.top.par.length≤K∧c.top.res.length≤K:=by
 unfold di.top
 by_cases h0:c.fs.length=0
 ·have:c.fs=[]:=List.eq_nil_of_length_eq_zero h0
  rw[this];exact⟨Nat.zero_le _,Nat.zero_le _⟩
 ·exact h.ix Mj
theorem yr.snoc {K:Nat} {fs:List mK} {f:mK} (h:yr K fs) (h1:f.par.length≤K) (h2:f.res.length≤K):yr K (fs++[f]):=fun g hg=>by
 rcases List.mem_append.1 hg with hg|hg
 ·exact h g hg
 ·rw[List.mem_singleton]at hg;subst hg;exact⟨h1,h2⟩
theorem yr.take {K:Nat} {fs:List mK} (h:yr K fs) (n:Nat):yr K (fs.take n):=fun f hf=>h f (List.mem_of_mem_take hf)
theorem yr.label {K:Nat} {c:di} (h:yr K c.fs) (n:Int):(cy c n).1.length≤K:=by
 unfold cy
 split
 ·exact Nat.zero_le _
 ·split
  ·exact Nat.zero_le _
  ·rename_i hn
   have:=h.ix (i:=c.fs.length - 1 - n.toNat) Mj
   dsimp only
   split
   ·exact this.1
   ·exact this.2
structure ic (K L:Nat) (c:di):Prop where
 wf:c.Wf
 bk:c.broken=0
 fit:c.ao.Fit
 fr:yr K c.fs
 ts:c.ao.ts.length≤L
theorem vk (s:bP):(dq s).ts.length≤s.ts.length:=by unfold dq;rw[List.length_take];omega
theorem za {s:bP} (h:s.Fit):(dq s).Fit:=by
 have h1:=vk s
 have h2:(dq s).bH=s.bH:=rfl
 unfold bP.Fit at*;omega
theorem Ct (s:bP):∀n,(cV s n).1.ts.length≤s.ts.length∧(s.Fit→(cV s n).1.Fit):=by
 intro n
 induction n generalizing s with
 |zero=>exact⟨Nat.le_refl _,fun h=>h⟩
 |succ n ih=>
  have h1:=ja s
  have h2:=ih (aU s).1
  rw[cV]
  split
  ·exact⟨Nat.le_refl _,fun h=>h⟩
  ·split
   ·exact⟨Nat.le_trans h2.1 h1,fun h=>h2.2 (qU h)⟩
   ·exact⟨Nat.le_trans h2.1 h1,fun h=>h2.2 (qU h)⟩
theorem AR (rows:List (List Int)) (s:bP):(fa rows s).1.ts.length≤s.ts.length∧(s.Fit→(fa rows s).1.Fit):=by
 have h1:=dp s [1]
 have h2:=Ct (aE s [1]).1 (ix rows (rows.length - 1)).length
 unfold fa
 split
 ·exact⟨Nat.le_refl _,fun h=>h⟩
 ·split
  ·exact⟨Nat.le_refl _,fun h=>h⟩
  ·split
   ·exact⟨Nat.le_refl _,fun h=>h⟩
   ·split
    ·exact⟨Nat.le_refl _,fun h=>h⟩
    ·exact⟨Nat.le_trans h2.1 h1,fun h=>h2.2 (jS h _)⟩
theorem xL (s:bP) (f:aL):(fy s f).1.ts.length≤s.ts.length+f.results.length∧(s.Fit→(fy s f).1.Fit):=by
 have h1:=dp s f.params
 unfold fy
 split
 ·exact⟨by omega,fun h=>jS h _⟩
 ·refine⟨?_,fun _=>jR _ _⟩
  show((aE s f.params).1.ts++f.results).length≤_
  rw[List.length_append];omega
theorem zx {s:bP} (h:s.Wf) (op:Int):(gH s op).1.Wf∧(gH s op).1.ps=s.ps∧(gH s op).1.ts.length≤s.ts.length+1∧(s.Fit→(gH s op).1.Fit):=by
 have hpp:∀s:bP,(aU s).1.ps=s.ps:=fun s=>by unfold aU;split<;>(try rfl);split<;>rfl
 have base:∀s:bP,s.Wf→s.Wf∧s.ps=s.ps∧s.ts.length≤s.ts.length∧(s.Fit→s.Fit):=fun s h=>⟨h,rfl,Nat.le_refl _,fun h=>h⟩
 have pop:∀{a b:bP},(b.Wf∧b.ps=a.ps∧b.ts.length≤a.ts.length∧(a.Fit→b.Fit))→((aU b).1.Wf∧(aU b).1.ps=a.ps∧(aU b).1.ts.length≤a.ts.length∧(a.Fit→(aU b).1.Fit)):=fun{a b} h=>⟨iC h.1,(hpp b).trans h.2.1,Nat.le_trans (ja b) h.2.2.1,fun hf=>qU (h.2.2.2 hf)⟩
 have want:(aE s [1]).1.Wf∧(aE s [1]).1.ps=s.ps∧(aE s [1]).1.ts.length≤s.ts.length∧(s.Fit→(aE s [1]).1.Fit):=⟨dn h _,eM _ _,dp _ _,fun hf=>jS hf _⟩
 have out:∀{b:bP},(b.Wf∧b.ps=s.ps∧b.ts.length≤s.ts.length∧(s.Fit→b.Fit))→(b.Wf∧b.ps=s.ps∧b.ts.length≤s.ts.length+1∧(s.Fit→b.Fit)):=fun{b} h=>⟨h.1,h.2.1,by omega,h.2.2.2⟩
 have push:∀{b:bP} (a:Int),(b.Wf∧b.ps=s.ps∧b.ts.length≤s.ts.length∧(s.Fit→b.Fit))→((aJ b [a]).Wf∧(aJ b [a]).ps=s.ps∧(aJ b [a]).ts.length≤s.ts.length+1∧(s.Fit→(aJ b [a]).Fit)):=fun{b} a h=>⟨mZ h.1 _,h.2.1,by show(b.ts++[a]).length≤_;rw[List.length_append];show _+1≤_;omega,fun _=>jR _ _⟩
 have w2:(if op=27 then aE s [1]else(s,0)).1.Wf∧(if op=27 then aE s [1]else(s,0)).1.ps=s.ps∧(if op=27 then aE s [1]else(s,0)).1.ts.length≤s.ts.length∧(s.Fit→(if op=27 then aE s [1]else(s,0)).1.Fit):=by
  split
  ·exact want
  ·exact base s h
 have ite:∀{p:Prop} [Decidable p] {a b:bP×Int},(a.1.Wf∧a.1.ps=s.ps∧a.1.ts.length≤s.ts.length+1∧(s.Fit→a.1.Fit))→(b.1.Wf∧b.1.ps=s.ps∧b.1.ts.length≤s.ts.length+1∧(s.Fit→b.1.Fit))→((if p then a else b).1.Wf∧(if p then a else b).1.ps=s.ps∧(if p then a else b).1.ts.length≤s.ts.length+1∧(s.Fit→(if p then a else b).1.Fit)):=fun{p _ a b} h1 h2=>by
  by_cases hp:p
  ·rw[if_pos hp];exact h1
  ·rw[if_neg hp];exact h2
 unfold gH
 exact ite (out w2) (ite (out (pop w2)) (ite (out (pop (base s h))) (ite (ite (out (pop (base s h))) (push _ (pop (base s h)))) (ite (out (pop (pop want))) (ite (out (pop (pop want))) (push _ (pop (pop want))))))))
theorem ic.ao {K L L':Nat} {c:di} (h:ic K L c) {s:bP} (h1:s.Wf) (h2:s.ps=c.ao.ps) (h3:s.Fit) (h4:s.ts.length≤L'):ic K L' {c with ao:=s}:=
 ⟨⟨h1,by show s.ps.length=_;rw[h2];exact h.wf.many,h.wf.fr,h.wf.ended⟩,h.bk,h3,h.fr,h4⟩
theorem ic.mono {K L L':Nat} {c:di} (h:ic K L c) (hl:L≤L'):ic K L' c:=⟨h.wf,h.bk,h.fit,h.fr,Nat.le_trans h.ts hl⟩
theorem ic.dead {K L:Nat} {c:di} (h:ic K L c):ic K L (gi c)∧(gi c).fs=c.fs∧(gi c).results=c.results:=by
 refine⟨⟨Cp h.wf,?_,?_,?_,?_⟩,?_,?_⟩
 all_goals
  unfold gi
  split
 ·exact h.bk
 ·exact h.bk
 ·exact h.fit
 ·exact za h.fit
 ·exact h.fr
 ·exact h.fr
 ·exact h.ts
 ·exact Nat.le_trans (vk _) h.ts
 all_goals rfl
theorem wo {K L:Nat} {c:di} (h:ic K L c) {m:aj} {locals:List Int} {x:cJ} (h1:1≤K) (hbl:∀f,cA m x.kind x.val x.index=some f→f.params.length≤K∧f.results.length≤K) (hty:(ed m locals x).1.results.length≤K) (he:(jV c m locals x).2=0):
  ic K (L+K) (jV c m locals x).1∧(jV c m locals x).1.results=c.results∧(jV c m locals x).1.fs.length≤c.fs.length+1∧c.fs.length≤(jV c m locals x).1.fs.length+1:=by
 have hts:=h.ts
 have same:ic K (L+K) c∧c.results=c.results∧c.fs.length≤c.fs.length+1∧c.fs.length≤c.fs.length+1:=⟨h.mono Mj,rfl,by omega,by omega⟩
 have dead:∀s:bP,s.Wf→s.ps=c.ao.ps→s.Fit→s.ts.length≤L→ic K (L+K) (gi {c with ao:=s})∧(gi {c with ao:=s}).results=c.results∧(gi {c with ao:=s}).fs.length≤c.fs.length+1∧c.fs.length≤(gi {c with ao:=s}).fs.length+1:=fun s a b d e=>by
  have k:=(h.ao a b d e).dead
  rw[k.2.1,k.2.2]
  exact⟨k.1.mono Mj,rfl,by show c.fs.length≤_;omega,by show c.fs.length≤c.fs.length+1;omega⟩
 have lea:∀l,(gL c l).2=0→ic K (L+K) (gL c l).1∧(gL c l).1.results=c.results∧(gL c l).1.fs.length≤c.fs.length+1∧c.fs.length≤(gL c l).1.fs.length+1:=fun l hl=>by
  unfold gL at hl ⊢
  split
  ·exact same
  ·exact dead _ (dn h.wf.ao l) (eM _ _) (jS h.fit l) (by have:=dp c.ao l;omega)
 have ao:∀s:bP,s.Wf→s.ps=c.ao.ps→s.Fit→s.ts.length≤L+K→ic K (L+K) {c with ao:=s}∧({c with ao:=s}:di).results=c.results∧({c with ao:=s}:di).fs.length≤c.fs.length+1∧c.fs.length≤({c with ao:=s}:di).fs.length+1:=fun s a b d e=>⟨h.ao a b d e,rfl,by show c.fs.length≤_;omega,by show c.fs.length≤c.fs.length+1;omega⟩
 unfold jV at he ⊢
 by_cases q0:cq x=false
 ·rw[if_pos q0]at he;exact absurd he (show¬(10:Int)=0 by decide)
 rw[if_neg q0]at he ⊢
 by_cases q1:opens x.op
 ·rw[if_pos q1]at he ⊢
  cases hf:cA m x.kind x.val x.index with
  |none=>rw[hf]at he;exact absurd he (show¬(11:Int)=0 by decide)
  |some f=>
   rw[hf]at he
   dsimp only at he ⊢
   obtain⟨b1,b2⟩:=hbl f hf
   have hwf:=uP h.wf x.op f.params f.results
   unfold fL at he hwf ⊢
   rw[if_neg (fun hh=>hh h.bk)]at he hwf ⊢
   by_cases e1:x.op≠2∧x.op≠3∧x.op≠4
   ·rw[if_pos e1]at he;exact absurd he (show¬(1:Int)=0 by decide)
   rw[if_neg e1]at he hwf ⊢
   by_cases e2:c.fs.length=0
   ·rw[if_pos e2]at he;exact absurd he (show¬(16:Int)=0 by decide)
   rw[if_neg e2]at he hwf ⊢
   dsimp only at he hwf ⊢
   have ha:(if x.op=4 then aE c.ao [1]else(c.ao,0)).1.ts.length≤c.ao.ts.length:=by
    split
    ·exact dp _ _
    ·exact Nat.le_refl _
   generalize (if x.op=4 then aE c.ao [1]else(c.ao,0))=a at he hwf ha ⊢
   by_cases e3:a.2≠0
   ·rw[if_pos e3]at he;exact absurd he e3
   rw[if_neg e3]at he hwf ⊢
   by_cases e4:(aE a.1 f.params).2≠0
   ·rw[if_pos e4]at he;exact absurd he e4
   rw[if_neg e4]at hwf ⊢
   have hw:=dp a.1 f.params
   refine⟨⟨hwf,h.bk,jR _ _,h.fr.snoc b1 b2,?_⟩,rfl,?_,?_⟩
   ·show((aE a.1 f.params).1.ts++f.params).length≤_
    rw[List.length_append];omega
   ·show(c.fs++[_]).length≤_;rw[List.length_append];exact Nat.le_refl _
   ·show _≤(c.fs++[_]).length+1;rw[List.length_append];omega
 rw[if_neg q1]at he ⊢
 by_cases q2:x.op=5
 ·rw[if_pos q2]at he ⊢
  have hwf:=CD h.wf
  unfold lF at he hwf ⊢
  rw[if_neg (fun hh=>hh h.bk)]at he hwf ⊢
  by_cases e1:c.fs.length=0∨c.top.kind≠4∨c.top.other=true
  ·rw[if_pos e1]at he;exact absurd he (show¬(16:Int)=0 by decide)
  rw[if_neg e1]at he hwf ⊢
  dsimp only at he hwf ⊢
  have hn:c.fs.length≠0:=fun hh=>e1 (.inl hh)
  by_cases e2:(cw c.ao c.top.res).2≠0
  ·rw[if_pos e2]at he;exact absurd he e2
  rw[if_neg e2]at hwf ⊢
  have hw:=kW c.ao c.top.res
  have ht:=h.fr.top
  have hl:(c.fs.take (c.fs.length - 1)++[{c.top with other:=true}]).length=c.fs.length:=by rw[List.length_append,List.length_take];show _+1=_;omega
  refine⟨⟨hwf,h.bk,jR _ _,(h.fr.take _).snoc ht.1 ht.2,?_⟩,rfl,?_,?_⟩
  ·show((cw c.ao c.top.res).1.ts++c.top.par).length≤_
   rw[List.length_append];omega
  ·show(c.fs.take (c.fs.length - 1)++[{c.top with other:=true}]).length≤_;omega
  ·show _≤(c.fs.take (c.fs.length - 1)++[{c.top with other:=true}]).length+1;omega
 rw[if_neg q2]at he ⊢
 by_cases q3:x.op=11
 ·rw[if_pos q3]at he ⊢
  have hwf:=AD h.wf
  unfold jj at he hwf ⊢
  rw[if_neg (fun hh=>hh h.bk)]at he hwf ⊢
  by_cases e1:c.fs.length=0
  ·rw[if_pos e1]at he;exact absurd he (show¬(16:Int)=0 by decide)
  rw[if_neg e1]at he hwf ⊢
  dsimp only at he hwf ⊢
  by_cases e2:(cw c.ao c.top.res).2≠0
  ·rw[if_pos e2]at he;exact absurd he e2
  rw[if_neg e2]at he hwf ⊢
  by_cases e3:c.top.kind=4∧c.top.other=false∧c.top.par≠c.top.res
  ·rw[if_pos e3]at he;exact absurd he (show¬(12:Int)=0 by decide)
  rw[if_neg e3]at hwf ⊢
  have hw:=kW c.ao c.top.res
  have ht:=h.fr.top
  have hl:(c.fs.take (c.fs.length - 1)).length=c.fs.length - 1:=by rw[List.length_take];omega
  refine⟨⟨hwf,h.bk,jR _ _,h.fr.take _,?_⟩,rfl,?_,?_⟩
  ·show((cw c.ao c.top.res).1.ts++c.top.res).length≤_
   rw[List.length_append];omega
  ·show(c.fs.take (c.fs.length - 1)).length≤_;omega
  ·show _≤(c.fs.take (c.fs.length - 1)).length+1;omega
 rw[if_neg q3]at he ⊢
 by_cases q4:x.op=0
 ·rw[if_pos q4];exact dead c.ao h.wf.ao rfl h.fit h.ts
 rw[if_neg q4]at he ⊢
 by_cases q5:jumps x.op
 ·rw[if_pos q5]at he ⊢
  unfold kE at he ⊢
  by_cases e1:x.op=15
  ·rw[if_pos e1]at he ⊢;exact lea _ he
  rw[if_neg e1]at he ⊢
  by_cases e2:x.op=14
  ·rw[if_pos e2]at he ⊢
   unfold iM at he ⊢
   split
   ·exact same
   ·have hk:(dv c x).1.Wf∧(dv c x).1.ps=c.ao.ps∧(dv c x).1.Fit∧(dv c x).1.ts.length≤L:=by
     unfold dv
     split
     ·exact⟨h.wf.ao,rfl,h.fit,h.ts⟩
     ·have a:=uW h.wf.ao (fg (cy c) (x.labels++[x.a])).1
      have b:=AR (fg (cy c) (x.labels++[x.a])).1 c.ao
      exact⟨a.1,a.2,b.2 h.fit,Nat.le_trans b.1 h.ts⟩
    exact dead _ hk.1 hk.2.1 hk.2.2.1 hk.2.2.2
  rw[if_neg e2]at he ⊢
  by_cases e3:(cy c x.a).2≠0
  ·rw[if_pos e3]at he;exact absurd he e3
  rw[if_neg e3]at he ⊢
  by_cases e4:x.op=13
  ·rw[if_pos e4]at he ⊢
   unfold uE at he ⊢
   split
   ·exact same
   ·have a:=dn h.wf.ao [1]
    have b:=xL (aE c.ao [1]).1 ⟨(cy c x.a).1,(cy c x.a).1⟩
    have d:=dp c.ao [1]
    have hl:=h.fr.label x.a
    refine ao _ (th a _) ((sN _ _).trans (eM _ _)) (b.2 (jS h.fit _)) ?_
    have b1:=b.1
    dsimp only at b1
    show(fy (aE c.ao [1]).1 ⟨(cy c x.a).1,(cy c x.a).1⟩).1.ts.length≤L+K
    omega
  rw[if_neg e4]at he ⊢;exact lea _ he
 rw[if_neg q5]at he ⊢
 by_cases q6:jy x.op
 ·rw[if_pos q6]
  have a:=zx h.wf.ao x.op
  exact ao _ a.1 a.2.1 (a.2.2.2 h.fit) (by have:=a.2.2.1;omega)
 rw[if_neg q6]at he ⊢
 unfold n9 at he ⊢
 by_cases e1:(ed m locals x).2≠0
 ·rw[if_pos e1]at he;exact absurd he e1
 rw[if_neg e1]at he ⊢
 have a:=xL c.ao (ed m locals x).1
 exact ao _ (th h.wf.ao _) (sN _ _) (a.2 h.fit) (by have:=a.1;omega)
end Go.Proofs.YtgbgnipidakdhaaGreatDoor
