import Derived.Test.YtdkcljdfbemnbaaGreatDoorJUs
import Derived.Test.YtdkcljdfbemnbaaGreatDoorJUh
namespace Go.Proofs.YtdkcljdfbemnbaaGreatDoor
open Go.RowKit _root_.Go.Proofs.Tryz
set_option maxHeartbeats 8000000
open List renaming cons_append→Pq,length_append→Py,length_take→Pz,nil_append→Pp
open Nat renaming le_refl→Px,le_trans→PE,zero_le→Pu
open Value renaming int→Pm,slice→Pn
set_option maxRecDepth 100000
theorem AV {c:dv} (h:c.Wf) (l:List Int):({c with ao:=(aL c.ao l).1}:dv).Wf:=⟨dE h.ao l,by show(aL c.ao l).1.ps.length=_;rw[ft];exact h.many,h.fr,h.ended⟩
variable {s:ck} {K:Nat} {fs:List n7} (F:Nat→Prop) (cp:Nat) (c:dv) (v:jF) (x:cv) (pt pl:Option Addr)
theorem z7 (h:s.Wf):∀n,(dp s n).1.Wf∧(dp s n).1.ps=s.ps:=by
 intro n
 induction n generalizing s with
 |zero=>exact⟨h,rfl⟩
 |succ n ih=>
  have h1:=jm h
  have h2:=ih h1
  have hp:(aZ s).1.ps=s.ps:=by unfold aZ;split<;>(try rfl);split<;>rfl
  rw[dp]
  split
  ·exact⟨h,rfl⟩
  ·split
   ·exact⟨h2.1,h2.2.trans hp⟩
   ·exact⟨h2.1,h2.2.trans hp⟩
theorem xe (h:s.Wf) (rows:List (List Int)):(fM rows s).1.Wf∧(fM rows s).1.ps=s.ps:=by
 have h1:=dE h [1]
 have h2:=ft s [1]
 have h3:=z7 h1 (ix rows (rows.length - 1)).length
 unfold fM
 split
 ·exact⟨h,rfl⟩
 ·split
  ·exact⟨h,rfl⟩
  ·split
   ·exact⟨h,rfl⟩
   ·split
    ·exact⟨h,rfl⟩
    ·exact⟨h3.1,h3.2.trans h2⟩
theorem Dh {c:dv} (h:c.Wf) (x:cv):({c with ao:=(dN c x).1}:dv).Wf:=by
 have h1:(dN c x).1.Wf∧(dN c x).1.ps=c.ao.ps:=by
  unfold dN
  split
  ·exact⟨h.ao,rfl⟩
  ·exact xe h.ao _
 exact⟨h1.1,by show(dN c x).1.ps.length=_;rw[h1.2];exact h.many,h.fr,h.ended⟩
theorem vm (ct cl:Nat) (w:World) (hw:Ok (aT cp c v) [fun w=>ai F w (.slice pl x.labels.length cl) x.labels] w) (hg:v.Good c) (hb:c.broken=0) (hwf:c.Wf) (_hres:c.results.length≤100000000000) (_hlb:∀n,(cT c n).1.length≤100000000000) (_hll:x.labels.length≤10000000) (_ho:x.op=15):Calls G.P 54 #[.pointer (some ⟨cp,0,none⟩),.agg #[Pm .i64 x.op,Pm .i64 x.a,Pm .i64 x.b,Pm .u64 x.n,Pm .i64 x.kind,Pm .i64 x.val,Pm .i64 x.index,Pn pt x.types.length ct,Pn pl x.labels.length cl]] w (aK (aT cp c v) cp (iA c (qX c)) w):=by
 have:=hg;clear this
 refine ae (l:=[_,_]) func54 rfl ntmps54 rfl (Ok.dk hw) ?_;generalize hS:Mb (aT cp c v)=S0;obtain⟨sp,tv,pv,bv,rv,fv,D,L⟩:=v;dsimp only[aT,aX,Pq,Pp];have hps:=hwf.ao.some;have hat:=hwf.ao.at_
 have hret:qX c=c.results:=if_neg (fun h=>h hb)
 rw[hret]
 repeat'(first|refine ar ?_|(refine aF fun b_=>?_)|fail)
 refine Nm ?_
 intro u0 _
 dsimp only[Pq,Pp]
 refine aa.pure (φ:=∃p cc,u0=.slice p c.results.length cc) (fun w' hw'=>by obtain⟨p,cc,e,_⟩:=aw (hw'.own (B:=0) (T:=fR) (v:=u0));exact⟨p,cc,e⟩) ?_
 rintro⟨pu,cu,rfl⟩
 refine aa.freeze (q:=.own 0 fR 1 (.slice pu c.results.length cu) c.results.length (aY c.results)) (fun w=>ai (fun k=>(Pn pu c.results.length cu).ownBlock=some k) w (.slice pu c.results.length cu) c.results) jH (fun w' h _=>dK h Pi) ?_
 obtain⟨r1,hr1⟩:∃r,aL c.ao c.results=r:=⟨_,rfl⟩
 have hwf1:=AV hwf c.results
 unfold iA
 rw[hr1]at hwf1 ⊢
 obtain⟨s1,e1⟩:=r1
 dsimp only at hwf1 ⊢
 repeat'(first|refine ar ?_|refine Oc ?_|fail)
 refine aa.he (HE.bJ (M0:=aX sp c.ao (tv,pv)) dU rfl rfl (fun w' hw'=>by have:=gy (fun k=>(Pn pu c.results.length cu).ownBlock=some k) sp c.ao (tv,pv) (.slice pu c.results.length cu) c.results w' (hw'.dc dV aU) hps hat.1 hat.2;rw[hr1]at this;exact this)) rfl ?_
 rintro⟨tv1,pv1⟩ _
 dsimp only[aX,Pq,Pp]
 by_cases he1:e1=0
 ·subst he1
  rw[if_neg (fun h=>h rfl)]
  repeat'(first|refine ar ?_|fail)
  refine Nn ?_
  rintro⟨sp2,tv2,pv2,bv2,rv2,fv2,D2,L2⟩ hg2
  dsimp only[aT,aX,Pq,Pp]at hg2 ⊢
  repeat'(first|refine ar ?_|fail)
  exact Id
 ·rw[if_pos he1]
  repeat'(first|refine ar ?_|fail)
  all_goals exact wd
theorem vj (ct cl:Nat) (w:World) (hw:Ok (aT cp c v) [fun w=>ai F w (.slice pl x.labels.length cl) x.labels] w) (hg:v.Good c) (hb:c.broken=0) (hwf:c.Wf) (_hres:c.results.length≤100000000000) (hlb:∀n,(cT c n).1.length≤100000000000) (_hll:x.labels.length≤10000000) (_ho:x.op=12):Calls G.P 54 #[.pointer (some ⟨cp,0,none⟩),.agg #[Pm .i64 x.op,Pm .i64 x.a,Pm .i64 x.b,Pm .u64 x.n,Pm .i64 x.kind,Pm .i64 x.val,Pm .i64 x.index,Pn pt x.types.length ct,Pn pl x.labels.length cl]] w (aK (aT cp c v) cp (if(cT c x.a).2≠0 then(c,(cT c x.a).2)else iA c (cT c x.a).1) w):=by
 have:=hg;clear this;have:=hb;clear this
 refine ae (l:=[_,_]) func54 rfl ntmps54 rfl (Ok.dk hw) ?_;generalize hS:Mb (aT cp c v)=S0;obtain⟨sp,tv,pv,bv,rv,fv,D,L⟩:=v;dsimp only[aT,aX,Pq,Pp];have hps:=hwf.ao.some;have hat:=hwf.ao.at_
 repeat'(first|refine ar ?_|(refine aF fun b_=>?_)|fail)
 refine Nm ?_
 intro u0 _
 dsimp only[Pq,Pp]
 repeat'(first|refine ar ?_|fail)
 refine No ?_
 intro u1 _
 dsimp only[Pq,Pp]
 obtain⟨q,hq⟩:∃q,cT c x.a=q:=⟨_,rfl⟩
 have hql:=hlb x.a
 rw[hq]at hql ⊢
 obtain⟨l,e⟩:=q
 dsimp only at hql ⊢
 by_cases he:e=0
 ·subst he
  rw[if_neg (fun h=>h rfl)]
  refine aa.pure (φ:=∃p cc,u1=.slice p l.length cc) (fun w' hw'=>by obtain⟨p,cc,e,_⟩:=aw (hw'.own (B:=0) (T:=fR) (v:=u1));exact⟨p,cc,e⟩) ?_
  rintro⟨pu,cu,rfl⟩
  refine Np ?_
  obtain⟨r1,hr1⟩:∃r,aL c.ao l=r:=⟨_,rfl⟩
  have hwf1:=AV hwf l
  unfold iA
  rw[hr1]at hwf1 ⊢
  obtain⟨s1,e1⟩:=r1
  dsimp only at hwf1 ⊢
  repeat'(first|refine ar ?_|refine Oc ?_|fail)
  refine aa.he (HE.bJ (M0:=aX sp c.ao (tv,pv)) dU rfl rfl (fun w' hw'=>by have:=gy (fun k=>(Pn pu l.length cu).ownBlock=some k) sp c.ao (tv,pv) (.slice pu l.length cu) l w' (hw'.dc dV aU) hps hat.1 hat.2;rw[hr1]at this;exact this)) rfl ?_
  rintro⟨tv1,pv1⟩ _
  dsimp only[aX,Pq,Pp]
  by_cases he1:e1=0
  ·subst he1
   rw[if_neg (fun h=>h rfl)]
   repeat'(first|refine ar ?_|fail)
   refine Nn ?_
   rintro⟨sp2,tv2,pv2,bv2,rv2,fv2,D2,L2⟩ hg2
   dsimp only[aT,aX,Pq,Pp]at hg2 ⊢
   repeat'(first|refine ar ?_|fail)
   exact Id
  ·rw[if_pos he1]
   repeat'(first|refine ar ?_|fail)
   all_goals exact wd
 ·rw[if_pos he]
  repeat'(first|refine ar ?_|fail)
  all_goals first|omega|exact ah.aG rfl rfl fun w' hw'=>aK.err e rfl he hS hw' ak
theorem vk (ct cl:Nat) (w:World) (hw:Ok (aT cp c v) [fun w=>ai F w (.slice pl x.labels.length cl) x.labels] w) (hg:v.Good c) (hb:c.broken=0) (hwf:c.Wf) (_hres:c.results.length≤100000000000) (hlb:∀n,(cT c n).1.length≤100000000000) (_hll:x.labels.length≤10000000) (_ho:x.op=13) (_hts:c.ao.ts.length≤1000000000000):Calls G.P 54 #[.pointer (some ⟨cp,0,none⟩),.agg #[Pm .i64 x.op,Pm .i64 x.a,Pm .i64 x.b,Pm .u64 x.n,Pm .i64 x.kind,Pm .i64 x.val,Pm .i64 x.index,Pn pt x.types.length ct,Pn pl x.labels.length cl]] w (aK (aT cp c v) cp (if(cT c x.a).2≠0 then(c,(cT c x.a).2)else xf c (cT c x.a).1) w):=by
 have:=hb;clear this
 refine ae (l:=[_,_]) func54 rfl ntmps54 rfl (Ok.dk hw) ?_;generalize hS:Mb (aT cp c v)=S0;obtain⟨sp,tv,pv,bv,rv,fv,D,L⟩:=v;dsimp only[aT,aX,Pq,Pp];have hps:=hwf.ao.some;have hat:=hwf.ao.at_
 repeat'(first|refine ar ?_|(refine aF fun b_=>?_)|fail)
 refine Nm ?_
 intro u0 _
 dsimp only[Pq,Pp]
 repeat'(first|refine ar ?_|fail)
 refine No ?_
 intro u1 _
 dsimp only[Pq,Pp]
 obtain⟨q,hq⟩:∃q,cT c x.a=q:=⟨_,rfl⟩
 have hql:=hlb x.a
 rw[hq]at hql ⊢
 obtain⟨l,e⟩:=q
 dsimp only at hql ⊢
 by_cases he:e=0
 ·subst he
  rw[if_neg (fun h=>h rfl)]
  refine aa.pure (φ:=∃p cc,u1=.slice p l.length cc) (fun w' hw'=>by obtain⟨p,cc,e,_⟩:=aw (hw'.own (B:=0) (T:=fR) (v:=u1));exact⟨p,cc,e⟩) ?_
  rintro⟨pu,cu,rfl⟩
  refine Np ?_
  obtain⟨r1,hr1⟩:∃r,aL c.ao [1]=r:=⟨_,rfl⟩
  have hw1:=dE hwf.ao [1]
  have ht1:=dD c.ao [1]
  unfold xf
  rw[hr1]at hw1 ht1 ⊢
  obtain⟨s1,e1⟩:=r1
  dsimp only at hw1 ht1 ⊢
  repeat'(first|refine ar ?_|refine Oc ?_|(refine fC fun b_ _=>?_)|fail)
  obtain⟨bl,rfl⟩:∃y:Nat,y=b_:=⟨_,rfl⟩
  refine aa.freeze (q:=.aW bl [.int .i64 1] fR) (fun w=>ai (fun k=>k=bl) w (.slice (some ⟨bl,0,none⟩) 1 1) [1]) jH (fun w' h _=>dJ h) ?_
  refine aa.he (HE.bJ (M0:=aX sp c.ao (tv,pv)) dU rfl rfl (fun w' hw'=>by have:=gy (fun k=>k=bl) sp c.ao (tv,pv) (.slice (some ⟨bl,0,none⟩) 1 1) [1] w' (hw'.dc dV aU) hps hat.1 hat.2;rw[hr1]at this;exact this)) rfl ?_
  rintro⟨tv1,pv1⟩ _
  dsimp only[aX,Pq,Pp]
  by_cases he1:e1=0
  ·subst he1
   rw[if_neg (fun h=>h rfl)]
   refine aa.lj (sZ ⟨l,l⟩ ⟨fun k=>(Pn pu l.length cu).ownBlock=some k,pu,cu,pu,cu⟩) (fun w2 h=>⟨h (fun w=>ai (fun k=>(Pn pu l.length cu).ownBlock=some k) w (.slice pu l.length cu) l) ak,h (fun w=>ai (fun k=>(Pn pu l.length cu).ownBlock=some k) w (.slice pu l.length cu) l) ak⟩) ?_
   repeat'(first|refine ar ?_|refine Oc ?_|fail)
   refine aa.he (HE.bJ (M0:=aX sp s1 (tv1,pv1)) dU rfl rfl (fun w' hw'=>xH sp s1 (tv1,pv1) ⟨l,l⟩ ⟨fun k=>(Pn pu l.length cu).ownBlock=some k,pu,cu,pu,cu⟩ w' (hw'.dc dV aU) hw1 (HA l (by show(s1.ts.length+l.length)*8≤_;omega)))) rfl ?_
   rintro⟨tv2,pv2⟩ _
   dsimp only[aX,Pq,Pp]
   repeat'(first|refine ar ?_|fail)
   unfold CX
   dsimp only
   exact ah.aG rfl rfl fun w' hw'=>by
    by_cases h2:(fU s1 ⟨l,l⟩).2=0
    ·have:=aK.ok (cp:=cp) (r:=({c with ao:=(fU s1 ⟨l,l⟩).1},(fU s1 ⟨l,l⟩).2)) (⟨sp,tv2,pv2,bv,rv,fv,D,L⟩:jF) h2 ⟨hg.len,hg.fr,hg.rs⟩ hS hw' ON ak
     rw[show Pm .i64 (fU s1 ⟨l,l⟩).2=.int .i64 0 by rw[h2]];exact this
    ·exact aK.err _ rfl h2 hS hw' ak
  ·rw[if_pos he1]
   repeat'(first|refine ar ?_|fail)
   all_goals exact wd
 ·rw[if_pos he]
  repeat'(first|refine ar ?_|fail)
  all_goals first|omega|exact ah.aG rfl rfl fun w' hw'=>aK.err e rfl he hS hw' ak
theorem vl (ct cl:Nat) (w:World) (hw:Ok (aT cp c v) [fun w=>ai F w (.slice pl x.labels.length cl) x.labels] w) (hg:v.Good c) (hb:c.broken=0) (hwf:c.Wf) (_hres:c.results.length≤100000000000) (hlb:∀n,(cT c n).1.length≤100000000000) (hll:x.labels.length≤10000000) (_ho:x.op=14):Calls G.P 54 #[.pointer (some ⟨cp,0,none⟩),.agg #[Pm .i64 x.op,Pm .i64 x.a,Pm .i64 x.b,Pm .u64 x.n,Pm .i64 x.kind,Pm .i64 x.val,Pm .i64 x.index,Pn pt x.types.length ct,Pn pl x.labels.length cl]] w (aK (aT cp c v) cp (jx c x) w):=by
 have hI:ai F w (.slice pl x.labels.length cl) x.labels:=hw.get (p:=fun w=>ai F w (.slice pl x.labels.length cl) x.labels) Pj
 refine ae (l:=[_,_]) func54 rfl ntmps54 rfl (Ok.dk hw) ?_;generalize hS:Mb (aT cp c v)=S0;obtain⟨sp,tv,pv,bv,rv,fv,D,L⟩:=v;dsimp only[aT,aX,Pq,Pp];have hps:=hwf.ao.some;have hat:=hwf.ao.at_
 unfold jx
 obtain⟨r,hr⟩:∃r,dN c x=r:=⟨_,rfl⟩
 have hwfr:=Dh hwf x
 rw[hr]at hwfr ⊢
 obtain⟨s1,e1⟩:=r
 dsimp only at hwfr ⊢
 repeat'(first|refine ar ?_|(refine aF fun b_=>?_)|fail)
 refine Nm ?_
 intro u0 _
 dsimp only[Pq,Pp]
 repeat'(first|refine ar ?_|fail)
 have htab:=fun w' (hw':Ok (aT cp c ⟨sp,tv,pv,bv,rv,fv,D,L⟩) [fun w=>ai F w (.slice pl x.labels.length cl) x.labels] w')=>BY F cp c ⟨sp,tv,pv,bv,rv,fv,D,L⟩ x pt pl ct cl w' hw' hg hb hwf hlb hll
 rw[hr]at htab
 by_cases he1:e1=0
 ·subst he1
  rw[if_neg (fun h=>h rfl)]
  refine aa.he (HE.bJ (M0:=aT cp c ⟨sp,tv,pv,bv,rv,fv,D,L⟩) dU rfl rfl (fun w' hw'=>(htab w' (hw'.dc dV aU)).mono fun _ _ h=>h.Dw rfl)) rfl ?_
  rintro⟨sp1,tv1,pv1,bv1,rv1,fv1,D1,L1⟩ hg1
  dsimp only[aT,aX,Pq,Pp]at hg1 ⊢
  repeat'(first|refine ar ?_|fail)
  refine aa.he (HE.bJ (M0:=aT cp {c with ao:=s1} ⟨sp1,tv1,pv1,bv1,rv1,fv1,D1,L1⟩) dU rfl rfl (fun w' hw'=>oU cp {c with ao:=s1} ⟨sp1,tv1,pv1,bv1,rv1,fv1,D1,L1⟩ w' (hw'.dc dV (fun p hp=>absurd hp Pj)) hg1 hb hwfr)) rfl ?_
  rintro⟨sp2,tv2,pv2,bv2,rv2,fv2,D2,L2⟩ hg2
  dsimp only[aT,aX,Pq,Pp]at hg2 ⊢
  repeat'(first|refine ar ?_|fail)
  exact Id
 ·rw[if_pos he1]
  refine aa.he (HE.bJ (M0:=aT cp c ⟨sp,tv,pv,bv,rv,fv,D,L⟩) dU rfl rfl (fun w' hw'=>(htab w' (hw'.dc dV aU)).mono fun _ _ h=>h.bad (q:=e1) rfl he1)) rfl ?_
  rintro _ _
  dsimp only[Pp]
  repeat'(first|refine ar ?_|fail)
  all_goals exact wd
theorem AG (ct cl:Nat) (w:World) (hw:Ok (aT cp c v) [fun w=>ai F w (.slice pl x.labels.length cl) x.labels] w) (hg:v.Good c) (hb:c.broken=0) (hwf:c.Wf) (hres:c.results.length≤100000000000) (hlb:∀n,(cT c n).1.length≤100000000000) (hll:x.labels.length≤10000000) (hj:jumps x.op) (hts:c.ao.ts.length≤1000000000000):Calls G.P 54 #[.pointer (some ⟨cp,0,none⟩),.agg #[Pm .i64 x.op,Pm .i64 x.a,Pm .i64 x.b,Pm .u64 x.n,Pm .i64 x.kind,Pm .i64 x.val,Pm .i64 x.index,Pn pt x.types.length ct,Pn pl x.labels.length cl]] w (aK (aT cp c v) cp (lO c x) w):=by
 have hj':=hj
 unfold jumps at hj'
 unfold lO
 rcases hj' with h|h|h|h
 ·have n15:¬x.op=15:=by omega
  have n14:¬x.op=14:=by omega
  have n13:¬x.op=13:=by omega
  rw[if_neg n15,if_neg n14,if_neg n13]
  exact vj F cp c v x pt pl ct cl w hw hg hb hwf hres hlb hll h
 ·have n15:¬x.op=15:=by omega
  have n14:¬x.op=14:=by omega
  rw[if_neg n15,if_neg n14,if_pos h]
  exact vk F cp c v x pt pl ct cl w hw hg hb hwf hres hlb hll h hts
 ·have n15:¬x.op=15:=by omega
  rw[if_neg n15,if_pos h]
  exact vl F cp c v x pt pl ct cl w hw hg hb hwf hres hlb hll h
 ·rw[if_pos h]
  exact vm F cp c v x pt pl ct cl w hw hg hb hwf hres hlb hll h
theorem dv.Wf.ok {c:dv} (h:c.Wf):c.Ok:=⟨h.ao.ok,h.many,h.fr.kinds,h.fr.other,h.ended,fun h0=>(h.fr.first h0).1⟩
def Cp (K:Nat) (fs:List n7):Prop:=∀f∈fs,f.par.length≤K∧f.res.length≤K
theorem Cp.ix (h:Cp K fs) {i:Nat} (hi:i<fs.length):(Go.Proofs.YtdkcljdfbemnbaaGreatDoor.ix fs i).par.length≤K∧(Go.Proofs.YtdkcljdfbemnbaaGreatDoor.ix fs i).res.length≤K:=by
 rw[cz hi];exact h _ (List.getElem_mem hi)
theorem Cp.top {c:dv} (h:Cp K c.fs):c.top.par.length≤K∧c.top.res.length≤K:=by
 unfold dv.top
 by_cases h0:c.fs.length=0
 ·have:c.fs=[]:=List.eq_nil_of_length_eq_zero h0
  rw[this];exact⟨Nat.zero_le _,Pu _⟩
 ·exact h.ix Pi
theorem Cp.snoc {f:n7} (h:Cp K fs) (h1:f.par.length≤K) (h2:f.res.length≤K):Cp K (fs++[f]):=fun g hg=>by
 rcases List.mem_append.1 hg with hg|hg
 ·exact h g hg
 ·rw[List.mem_singleton]at hg;subst hg;exact⟨h1,h2⟩
theorem Cp.take (h:Cp K fs) (n:Nat):Cp K (fs.take n):=fun f hf=>h f (List.mem_of_mem_take hf)
theorem Cp.label {c:dv} (h:Cp K c.fs) (n:Int):(cT c n).1.length≤K:=by
 unfold cT
 split
 ·exact Pu _
 ·split
  ·exact Pu _
  ·rename_i hn
   have:=h.ix (i:=c.fs.length - 1 - n.toNat) Pi
   dsimp only
   split
   ·exact this.1
   ·exact this.2
structure km (K L:Nat) (c:dv):Prop where
 wf:c.Wf
 bk:c.broken=0
 fit:c.ao.Fit
 fr:Cp K c.fs
 ts:c.ao.ts.length≤L
theorem xw (s:ck):(dG s).ts.length≤s.ts.length:=by unfold dG;rw[List.length_take];omega
theorem Br (h:s.Fit):(dG s).Fit:=by
 have:=h;clear this
 have h1:=xw s
 have h2:(dG s).bR=s.bR:=rfl
 unfold ck.Fit at*;omega
theorem FM (s:ck):∀n,(dp s n).1.ts.length≤s.ts.length∧(s.Fit→(dp s n).1.Fit):=by
 intro n
 induction n generalizing s with
 |zero=>exact⟨Nat.le_refl _,fun h=>h⟩
 |succ n ih=>
  have h1:=jM s
  have h2:=ih (aZ s).1
  rw[dp]
  split
  ·exact⟨Nat.le_refl _,fun h=>h⟩
  ·split
   ·exact⟨Nat.le_trans h2.1 h1,fun h=>h2.2 (ug h)⟩
   ·exact⟨Nat.le_trans h2.1 h1,fun h=>h2.2 (ug h)⟩
theorem Di (rows:List (List Int)) (s:ck):(fM rows s).1.ts.length≤s.ts.length∧(s.Fit→(fM rows s).1.Fit):=by
 have h1:=dD s [1]
 have h2:=FM (aL s [1]).1 (ix rows (rows.length - 1)).length
 unfold fM
 split
 ·exact⟨Nat.le_refl _,fun h=>h⟩
 ·split
  ·exact⟨Nat.le_refl _,fun h=>h⟩
  ·split
   ·exact⟨Nat.le_refl _,fun h=>h⟩
   ·split
    ·exact⟨Nat.le_refl _,fun h=>h⟩
    ·exact⟨Nat.le_trans h2.1 h1,fun h=>h2.2 (kN h _)⟩
theorem AT (s:ck) (f:aO):(fU s f).1.ts.length≤s.ts.length+f.results.length∧(s.Fit→(fU s f).1.Fit):=by
 have h1:=dD s f.params
 unfold fU
 split
 ·exact⟨by omega,fun h=>kN h _⟩
 ·refine⟨?_,fun _=>mR _ _⟩
  show((aL s f.params).1.ts++f.results).length≤_
  rw[Py];omega
theorem BI (h:s.Wf) (op:Int):(ic s op).1.Wf∧(ic s op).1.ps=s.ps∧(ic s op).1.ts.length≤s.ts.length+1∧(s.Fit→(ic s op).1.Fit):=by
 have hpp:∀s:ck,(aZ s).1.ps=s.ps:=fun s=>by unfold aZ;split<;>(try rfl);split<;>rfl
 have base:∀s:ck,s.Wf→s.Wf∧s.ps=s.ps∧s.ts.length≤s.ts.length∧(s.Fit→s.Fit):=fun s h=>⟨h,rfl,Px _,fun h=>h⟩
 have pop:∀{a b:ck},(b.Wf∧b.ps=a.ps∧b.ts.length≤a.ts.length∧(a.Fit→b.Fit))→((aZ b).1.Wf∧(aZ b).1.ps=a.ps∧(aZ b).1.ts.length≤a.ts.length∧(a.Fit→(aZ b).1.Fit)):=fun{a b} h=>⟨jm h.1,(hpp b).trans h.2.1,PE (jM b) h.2.2.1,fun hf=>ug (h.2.2.2 hf)⟩
 have want:(aL s [1]).1.Wf∧(aL s [1]).1.ps=s.ps∧(aL s [1]).1.ts.length≤s.ts.length∧(s.Fit→(aL s [1]).1.Fit):=⟨dE h _,ft _ _,dD _ _,fun hf=>kN hf _⟩
 have out:∀{b:ck},(b.Wf∧b.ps=s.ps∧b.ts.length≤s.ts.length∧(s.Fit→b.Fit))→(b.Wf∧b.ps=s.ps∧b.ts.length≤s.ts.length+1∧(s.Fit→b.Fit)):=fun{b} h=>⟨h.1,h.2.1,by omega,h.2.2.2⟩
 have push:∀{b:ck} (a:Int),(b.Wf∧b.ps=s.ps∧b.ts.length≤s.ts.length∧(s.Fit→b.Fit))→((aS b [a]).Wf∧(aS b [a]).ps=s.ps∧(aS b [a]).ts.length≤s.ts.length+1∧(s.Fit→(aS b [a]).Fit)):=fun{b} a h=>⟨qT h.1 _,h.2.1,by show(b.ts++[a]).length≤_;rw[Py];show _+1≤_;omega,fun _=>mR _ _⟩
 have w2:(if op=27 then aL s [1]else(s,0)).1.Wf∧(if op=27 then aL s [1]else(s,0)).1.ps=s.ps∧(if op=27 then aL s [1]else(s,0)).1.ts.length≤s.ts.length∧(s.Fit→(if op=27 then aL s [1]else(s,0)).1.Fit):=by
  split
  ·exact want
  ·exact base s h
 have ite:∀{p:Prop} [Decidable p] {a b:ck×Int},(a.1.Wf∧a.1.ps=s.ps∧a.1.ts.length≤s.ts.length+1∧(s.Fit→a.1.Fit))→(b.1.Wf∧b.1.ps=s.ps∧b.1.ts.length≤s.ts.length+1∧(s.Fit→b.1.Fit))→((if p then a else b).1.Wf∧(if p then a else b).1.ps=s.ps∧(if p then a else b).1.ts.length≤s.ts.length+1∧(s.Fit→(if p then a else b).1.Fit)):=fun{p _ a b} h1 h2=>by
  by_cases hp:p
  ·rw[if_pos hp];exact h1
  ·rw[if_neg hp];exact h2
 unfold ic
 exact ite (out w2) (ite (out (pop w2)) (ite (out (pop (base s h))) (ite (ite (out (pop (base s h))) (push _ (pop (base s h)))) (ite (out (pop (pop want))) (ite (out (pop (pop want))) (push _ (pop (pop want))))))))
theorem km.ao {K L L':Nat} {c:dv} (h:km K L c) {s:ck} (h1:s.Wf) (h2:s.ps=c.ao.ps) (h3:s.Fit) (h4:s.ts.length≤L'):km K L' {c with ao:=s}:=
 ⟨⟨h1,by show s.ps.length=_;rw[h2];exact h.wf.many,h.wf.fr,h.wf.ended⟩,h.bk,h3,h.fr,h4⟩
theorem km.mono {K L L':Nat} {c:dv} (h:km K L c) (hl:L≤L'):km K L' c:=⟨h.wf,h.bk,h.fit,h.fr,PE h.ts hl⟩
theorem km.dead {K L:Nat} {c:dv} (h:km K L c):km K L (iG c)∧(iG c).fs=c.fs∧(iG c).results=c.results:=by
 refine⟨⟨E6 h.wf,?_,?_,?_,?_⟩,?_,?_⟩
 all_goals
  unfold iG
  split
 ·exact h.bk
 ·exact h.bk
 ·exact h.fit
 ·exact Br h.fit
 ·exact h.fr
 ·exact h.fr
 ·exact h.ts
 ·exact PE (xw _) h.ts
 all_goals rfl
theorem qB {K L:Nat} {c:dv} (h:km K L c) {m:af} {locals:List Int} {x:cv} (_h1:1≤K) (hbl:∀f,cX m x.kind x.val x.index=some f→f.params.length≤K∧f.results.length≤K) (_hty:(fO m locals x).1.results.length≤K) (he:(fD c m locals x).2=0):
  km K (L+K) (fD c m locals x).1∧(fD c m locals x).1.results=c.results∧(fD c m locals x).1.fs.length≤c.fs.length+1∧c.fs.length≤(fD c m locals x).1.fs.length+1:=by
 have hts:=h.ts
 have same:km K (L+K) c∧c.results=c.results∧c.fs.length≤c.fs.length+1∧c.fs.length≤c.fs.length+1:=⟨h.mono Pi,rfl,by omega,by omega⟩
 have dead:∀s:ck,s.Wf→s.ps=c.ao.ps→s.Fit→s.ts.length≤L→km K (L+K) (iG {c with ao:=s})∧(iG {c with ao:=s}).results=c.results∧(iG {c with ao:=s}).fs.length≤c.fs.length+1∧c.fs.length≤(iG {c with ao:=s}).fs.length+1:=fun s a b d e=>by
  have k:=(h.ao a b d e).dead
  rw[k.2.1,k.2.2]
  exact⟨k.1.mono Pi,rfl,by show c.fs.length≤_;omega,by show c.fs.length≤c.fs.length+1;omega⟩
 have lea:∀l,(iA c l).2=0→km K (L+K) (iA c l).1∧(iA c l).1.results=c.results∧(iA c l).1.fs.length≤c.fs.length+1∧c.fs.length≤(iA c l).1.fs.length+1:=fun l hl=>by
  unfold iA at hl ⊢
  split
  ·exact same
  ·exact dead _ (dE h.wf.ao l) (ft _ _) (kN h.fit l) (by have:=dD c.ao l;omega)
 have ao:∀s:ck,s.Wf→s.ps=c.ao.ps→s.Fit→s.ts.length≤L+K→km K (L+K) {c with ao:=s}∧({c with ao:=s}:dv).results=c.results∧({c with ao:=s}:dv).fs.length≤c.fs.length+1∧c.fs.length≤({c with ao:=s}:dv).fs.length+1:=fun s a b d e=>⟨h.ao a b d e,rfl,by show c.fs.length≤_;omega,by show c.fs.length≤c.fs.length+1;omega⟩
 unfold fD at he ⊢
 by_cases q0:cW x=false
 ·rw[if_pos q0]at he;exact absurd he (show¬(10:Int)=0 by decide)
 rw[if_neg q0]at he ⊢
 by_cases q1:opens x.op
 ·rw[if_pos q1]at he ⊢
  cases hf:cX m x.kind x.val x.index with
  |none=>rw[hf]at he;exact absurd he (show¬(11:Int)=0 by decide)
  |some f=>
   rw[hf]at he
   dsimp only at he ⊢
   obtain⟨b1,b2⟩:=hbl f hf
   have hwf:=Dp h.wf x.op f.params f.results
   unfold ju at he hwf ⊢
   rw[if_neg (fun hh=>hh h.bk)]at he hwf ⊢
   by_cases e1:x.op≠2∧x.op≠3∧x.op≠4
   ·rw[if_pos e1]at he;exact absurd he (show¬(1:Int)=0 by decide)
   rw[if_neg e1]at he hwf ⊢
   by_cases e2:c.fs.length=0
   ·rw[if_pos e2]at he;exact absurd he (show¬(16:Int)=0 by decide)
   rw[if_neg e2]at he hwf ⊢
   dsimp only at he hwf ⊢
   have ha:(if x.op=4 then aL c.ao [1]else(c.ao,0)).1.ts.length≤c.ao.ts.length:=by
    split
    ·exact dD _ _
    ·exact Px _
   generalize (if x.op=4 then aL c.ao [1]else(c.ao,0))=a at he hwf ha ⊢
   by_cases e3:a.2≠0
   ·rw[if_pos e3]at he;exact absurd he e3
   rw[if_neg e3]at he hwf ⊢
   by_cases e4:(aL a.1 f.params).2≠0
   ·rw[if_pos e4]at he;exact absurd he e4
   rw[if_neg e4]at hwf ⊢
   have hw:=dD a.1 f.params
   refine⟨⟨hwf,h.bk,mR _ _,h.fr.snoc b1 b2,?_⟩,rfl,?_,?_⟩
   ·show((aL a.1 f.params).1.ts++f.params).length≤_
    rw[Py];omega
   ·show(c.fs++[_]).length≤_;rw[Py];exact Px _
   ·show _≤(c.fs++[_]).length+1;rw[Py];omega
 rw[if_neg q1]at he ⊢
 by_cases q2:x.op=5
 ·rw[if_pos q2]at he ⊢
  have hwf:=E9 h.wf
  unfold mF at he hwf ⊢
  rw[if_neg (fun hh=>hh h.bk)]at he hwf ⊢
  by_cases e1:c.fs.length=0∨c.top.kind≠4∨c.top.other=true
  ·rw[if_pos e1]at he;exact absurd he (show¬(16:Int)=0 by decide)
  rw[if_neg e1]at he hwf ⊢
  dsimp only at he hwf ⊢
  have hn:c.fs.length≠0:=fun hh=>e1 (.inl hh)
  by_cases e2:(cQ c.ao c.top.res).2≠0
  ·rw[if_pos e2]at he;exact absurd he e2
  rw[if_neg e2]at hwf ⊢
  have hw:=mW c.ao c.top.res
  have ht:=h.fr.top
  have hl:(c.fs.take (c.fs.length - 1)++[{c.top with other:=true}]).length=c.fs.length:=by rw[Py,Pz];show _+1=_;omega
  refine⟨⟨hwf,h.bk,mR _ _,(h.fr.take _).snoc ht.1 ht.2,?_⟩,rfl,?_,?_⟩
  ·show((cQ c.ao c.top.res).1.ts++c.top.par).length≤_
   rw[Py];omega
  ·show(c.fs.take (c.fs.length - 1)++[{c.top with other:=true}]).length≤_;omega
  ·show _≤(c.fs.take (c.fs.length - 1)++[{c.top with other:=true}]).length+1;omega
 rw[if_neg q2]at he ⊢
 by_cases q3:x.op=11
 ·rw[if_pos q3]at he ⊢
  have hwf:=DG h.wf
  unfold kb at he hwf ⊢
  rw[if_neg (fun hh=>hh h.bk)]at he hwf ⊢
  by_cases e1:c.fs.length=0
  ·rw[if_pos e1]at he;exact absurd he (show¬(16:Int)=0 by decide)
  rw[if_neg e1]at he hwf ⊢
  dsimp only at he hwf ⊢
  by_cases e2:(cQ c.ao c.top.res).2≠0
  ·rw[if_pos e2]at he;exact absurd he e2
  rw[if_neg e2]at he hwf ⊢
  by_cases e3:c.top.kind=4∧c.top.other=false∧c.top.par≠c.top.res
  ·rw[if_pos e3]at he;exact absurd he (show¬(12:Int)=0 by decide)
  rw[if_neg e3]at hwf ⊢
  have hw:=mW c.ao c.top.res
  have ht:=h.fr.top
  have hl:(c.fs.take (c.fs.length - 1)).length=c.fs.length - 1:=by rw[Pz];omega
  refine⟨⟨hwf,h.bk,mR _ _,h.fr.take _,?_⟩,rfl,?_,?_⟩
  ·show((cQ c.ao c.top.res).1.ts++c.top.res).length≤_
   rw[Py];omega
  ·show(c.fs.take (c.fs.length - 1)).length≤_;omega
  ·show _≤(c.fs.take (c.fs.length - 1)).length+1;omega
 rw[if_neg q3]at he ⊢
 by_cases q4:x.op=0
 ·rw[if_pos q4];exact dead c.ao h.wf.ao rfl h.fit h.ts
 rw[if_neg q4]at he ⊢
 by_cases q5:jumps x.op
 ·rw[if_pos q5]at he ⊢
  unfold lO at he ⊢
  by_cases e1:x.op=15
  ·rw[if_pos e1]at he ⊢;exact lea _ he
  rw[if_neg e1]at he ⊢
  by_cases e2:x.op=14
  ·rw[if_pos e2]at he ⊢
   unfold jx at he ⊢
   split
   ·exact same
   ·have hk:(dN c x).1.Wf∧(dN c x).1.ps=c.ao.ps∧(dN c x).1.Fit∧(dN c x).1.ts.length≤L:=by
     unfold dN
     split
     ·exact⟨h.wf.ao,rfl,h.fit,h.ts⟩
     ·have a:=xe h.wf.ao (fP (cT c) (x.labels++[x.a])).1
      have b:=Di (fP (cT c) (x.labels++[x.a])).1 c.ao
      exact⟨a.1,a.2,b.2 h.fit,PE b.1 h.ts⟩
    exact dead _ hk.1 hk.2.1 hk.2.2.1 hk.2.2.2
  rw[if_neg e2]at he ⊢
  by_cases e3:(cT c x.a).2≠0
  ·rw[if_pos e3]at he;exact absurd he e3
  rw[if_neg e3]at he ⊢
  by_cases e4:x.op=13
  ·rw[if_pos e4]at he ⊢
   unfold xf at he ⊢
   split
   ·exact same
   ·have a:=dE h.wf.ao [1]
    have b:=AT (aL c.ao [1]).1 ⟨(cT c x.a).1,(cT c x.a).1⟩
    have d:=dD c.ao [1]
    have hl:=h.fr.label x.a
    refine ao _ (vB a _) ((vA _ _).trans (ft _ _)) (b.2 (kN h.fit _)) ?_
    have b1:=b.1
    dsimp only at b1
    show(fU (aL c.ao [1]).1 ⟨(cT c x.a).1,(cT c x.a).1⟩).1.ts.length≤L+K
    omega
  rw[if_neg e4]at he ⊢;exact lea _ he
 rw[if_neg q5]at he ⊢
 by_cases q6:ku x.op
 ·rw[if_pos q6]
  have a:=BI h.wf.ao x.op
  exact ao _ a.1 a.2.1 (a.2.2.2 h.fit) (by have:=a.2.2.1;omega)
 rw[if_neg q6]at he ⊢
 unfold tt at he ⊢
 by_cases e1:(fO m locals x).2≠0
 ·rw[if_pos e1]at he;exact absurd he e1
 rw[if_neg e1]at he ⊢
 have a:=AT c.ao (fO m locals x).1
 exact ao _ (vB h.wf.ao _) (vA _ _) (a.2 h.fit) (by have:=a.1;omega)
end Go.Proofs.YtdkcljdfbemnbaaGreatDoor
