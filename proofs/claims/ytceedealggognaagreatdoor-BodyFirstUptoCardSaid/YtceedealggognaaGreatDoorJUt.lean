/- Layer 23: rule.branch. Printed by gen_ut.py. -/
import Derived.Test.YtceedealggognaaGreatDoorJUh
import Derived.Test.YtceedealggognaaGreatDoorJNb
namespace Go.Proofs.YtceedealggognaaGreatDoor
open Go.RowKit
set_option maxRecDepth 100000
theorem uj {c:dq} (h:c.Wf) (l:List Int):({c with aG:=(aT c.aG l).1}:dq).Wf:=⟨dx h.aG l,by show(aT c.aG l).1.ps.length=_;rw[eu];exact h.many,h.fr,h.ended⟩
theorem zd {s:cZ} (h:s.Wf):∀n,(dC s n).1.Wf∧(dC s n).1.ps=s.ps:=by
 intro n
 induction n generalizing s with
 |zero=>exact⟨h,rfl⟩
 |succ n ih=>
  have h1:=kc h
  have h2:=ih h1
  have hp:(aZ s).1.ps=s.ps:=by unfold aZ;split<;>(try rfl);split<;>rfl
  rw[dC]
  split
  ·exact⟨h,rfl⟩
  ·split
   ·exact⟨h2.1,h2.2.trans hp⟩
   ·exact⟨h2.1,h2.2.trans hp⟩
theorem qG {s:cZ} (h:s.Wf) (rows:List (List Int)):(jo rows s).1.Wf∧(jo rows s).1.ps=s.ps:=by
 have h1:=dx h [1]
 have h2:=eu s [1]
 have h3:=zd h1 (ix rows (rows.length - 1)).length
 unfold jo
 split
 ·exact⟨h,rfl⟩
 ·split
  ·exact⟨h,rfl⟩
  ·split
   ·exact⟨h,rfl⟩
   ·split
    ·exact⟨h,rfl⟩
    ·exact⟨h3.1,h3.2.trans h2⟩
theorem wF {c:dq} (h:c.Wf) (x:bP):({c with aG:=(cD c x).1}:dq).Wf:=by
 have h1:(cD c x).1.Wf∧(cD c x).1.ps=c.aG.ps:=by
  unfold cD
  split
  ·exact⟨h.aG,rfl⟩
  ·exact qG h.aG _
 exact⟨h1.1,by show(cD c x).1.ps.length=_;rw[h1.2];exact h.many,h.fr,h.ended⟩
set_option maxHeartbeats 8000000 in
theorem pJ (F:Nat→Prop) (cp:Nat) (c:dq) (v:fU) (x:bP) (pt pl:Option Addr) (ct cl:Nat) (w:World) (hw:Ok (aw cp c v) [fun w=>af F w (.slice pl x.labels.length cl) x.labels] w) (hg:v.Good c) (hb:c.broken=0) (hwf:c.Wf) (hres:c.results.length≤100000000000) (_hlb:∀n,(bU c n).1.length≤100000000000) (_hll:x.labels.length≤10000000) (ho:x.op=15):Calls G.P 57 #[.pointer (some ⟨cp,0,none⟩),.agg #[Value.int .i64 x.op,Value.int .i64 x.a,Value.int .i64 x.b,Value.int .u64 x.n,Value.int .i64 x.kind,Value.int .i64 x.val,Value.int .i64 x.index,Value.slice pt x.types.length ct,Value.slice pl x.labels.length cl]] w (ar (aw cp c v) cp (fH c (sq c)) w):=by
 refine aj (l:=[_,_]) Tryz.func57 rfl Tryz.ntmps57 rfl (Ok.bW hw) ?_;generalize hS:Mb (aw cp c v)=S0;obtain⟨sp,tv,pv,bv,rv,fv,D,L⟩:=v;dsimp only[aw,ay,List.cons_append,List.nil_append];have hps:=hwf.aG.some;have hat:=hwf.aG.at_
 have hret:sq c=c.results:=if_neg (fun h=>h hb)
 rw[hret]
 repeat'(first|refine ax ?_|(refine bz fun b_=>?_)|fail)
 refine Eq ?_
 intro u0 _
 dsimp only[List.cons_append,List.nil_append]
 refine aa.pure (φ:=∃p cc,u0=.slice p c.results.length cc) (fun w' hw'=>by obtain⟨p,cc,e,_⟩:=av (hw'.own (B:=0) (T:=fl) (v:=u0));exact⟨p,cc,e⟩) ?_
 rintro⟨pu,cu,rfl⟩
 refine aa.freeze (q:=.own 0 fl 1 (.slice pu c.results.length cu) c.results.length (aU c.results)) (fun w=>af (fun k=>(Value.slice pu c.results.length cu).ownBlock=some k) w (.slice pu c.results.length cu) c.results) hU (fun w' h _=>dI h Hb) ?_
 obtain⟨r1,hr1⟩:∃r,aT c.aG c.results=r:=⟨_,rfl⟩
 have hwf1:=uj hwf c.results
 unfold fH
 rw[hr1]at hwf1 ⊢
 obtain⟨s1,e1⟩:=r1
 dsimp only at hwf1 ⊢
 repeat'(first|refine ax ?_|refine Gw ?_|fail)
 refine aa.he (HE.aW (M0:=ay sp c.aG (tv,pv)) cE rfl rfl (fun w' hw'=>by have:=dX (fun k=>(Value.slice pu c.results.length cu).ownBlock=some k) sp c.aG (tv,pv) (.slice pu c.results.length cu) c.results w' (hw'.bV cT aY) hps hat.1 hat.2;rw[hr1]at this;exact this)) rfl ?_
 rintro⟨tv1,pv1⟩ _
 dsimp only[ay,List.cons_append,List.nil_append]
 by_cases he1:e1=0
 ·subst he1
  rw[if_neg (fun h=>h rfl)]
  repeat'(first|refine ax ?_|fail)
  refine EQ ?_
  rintro⟨sp2,tv2,pv2,bv2,rv2,fv2,D2,L2⟩ hg2
  dsimp only[aw,ay,List.cons_append,List.nil_append]at hg2 ⊢
  repeat'(first|refine ax ?_|fail)
  exact ip
 ·rw[if_pos he1]
  repeat'(first|refine ax ?_|fail)
  all_goals exact gc
set_option maxHeartbeats 8000000 in
theorem pG (F:Nat→Prop) (cp:Nat) (c:dq) (v:fU) (x:bP) (pt pl:Option Addr) (ct cl:Nat) (w:World) (hw:Ok (aw cp c v) [fun w=>af F w (.slice pl x.labels.length cl) x.labels] w) (hg:v.Good c) (hb:c.broken=0) (hwf:c.Wf) (_hres:c.results.length≤100000000000) (hlb:∀n,(bU c n).1.length≤100000000000) (_hll:x.labels.length≤10000000) (ho:x.op=12):Calls G.P 57 #[.pointer (some ⟨cp,0,none⟩),.agg #[Value.int .i64 x.op,Value.int .i64 x.a,Value.int .i64 x.b,Value.int .u64 x.n,Value.int .i64 x.kind,Value.int .i64 x.val,Value.int .i64 x.index,Value.slice pt x.types.length ct,Value.slice pl x.labels.length cl]] w (ar (aw cp c v) cp (if(bU c x.a).2≠0 then(c,(bU c x.a).2)else fH c (bU c x.a).1) w):=by
 refine aj (l:=[_,_]) Tryz.func57 rfl Tryz.ntmps57 rfl (Ok.bW hw) ?_;generalize hS:Mb (aw cp c v)=S0;obtain⟨sp,tv,pv,bv,rv,fv,D,L⟩:=v;dsimp only[aw,ay,List.cons_append,List.nil_append];have hps:=hwf.aG.some;have hat:=hwf.aG.at_
 repeat'(first|refine ax ?_|(refine bz fun b_=>?_)|fail)
 refine Eq ?_
 intro u0 _
 dsimp only[List.cons_append,List.nil_append]
 repeat'(first|refine ax ?_|fail)
 refine Fd ?_
 intro u1 _
 dsimp only[List.cons_append,List.nil_append]
 obtain⟨q,hq⟩:∃q,bU c x.a=q:=⟨_,rfl⟩
 have hql:=hlb x.a
 rw[hq]at hql ⊢
 obtain⟨l,e⟩:=q
 dsimp only at hql ⊢
 by_cases he:e=0
 ·subst he
  rw[if_neg (fun h=>h rfl)]
  refine aa.pure (φ:=∃p cc,u1=.slice p l.length cc) (fun w' hw'=>by obtain⟨p,cc,e,_⟩:=av (hw'.own (B:=0) (T:=fl) (v:=u1));exact⟨p,cc,e⟩) ?_
  rintro⟨pu,cu,rfl⟩
  refine FI ?_
  obtain⟨r1,hr1⟩:∃r,aT c.aG l=r:=⟨_,rfl⟩
  have hwf1:=uj hwf l
  unfold fH
  rw[hr1]at hwf1 ⊢
  obtain⟨s1,e1⟩:=r1
  dsimp only at hwf1 ⊢
  repeat'(first|refine ax ?_|refine Gw ?_|fail)
  refine aa.he (HE.aW (M0:=ay sp c.aG (tv,pv)) cE rfl rfl (fun w' hw'=>by have:=dX (fun k=>(Value.slice pu l.length cu).ownBlock=some k) sp c.aG (tv,pv) (.slice pu l.length cu) l w' (hw'.bV cT aY) hps hat.1 hat.2;rw[hr1]at this;exact this)) rfl ?_
  rintro⟨tv1,pv1⟩ _
  dsimp only[ay,List.cons_append,List.nil_append]
  by_cases he1:e1=0
  ·subst he1
   rw[if_neg (fun h=>h rfl)]
   repeat'(first|refine ax ?_|fail)
   refine EQ ?_
   rintro⟨sp2,tv2,pv2,bv2,rv2,fv2,D2,L2⟩ hg2
   dsimp only[aw,ay,List.cons_append,List.nil_append]at hg2 ⊢
   repeat'(first|refine ax ?_|fail)
   exact ip
  ·rw[if_pos he1]
   repeat'(first|refine ax ?_|fail)
   all_goals exact gc
 ·rw[if_pos he]
  repeat'(first|refine ax ?_|fail)
  all_goals first|omega|exact ai.aA rfl rfl fun w' hw'=>ar.err e rfl he hS hw' ao
set_option maxHeartbeats 8000000 in
theorem pH (F:Nat→Prop) (cp:Nat) (c:dq) (v:fU) (x:bP) (pt pl:Option Addr) (ct cl:Nat) (w:World) (hw:Ok (aw cp c v) [fun w=>af F w (.slice pl x.labels.length cl) x.labels] w) (hg:v.Good c) (hb:c.broken=0) (hwf:c.Wf) (_hres:c.results.length≤100000000000) (hlb:∀n,(bU c n).1.length≤100000000000) (_hll:x.labels.length≤10000000) (ho:x.op=13) (hts:c.aG.ts.length≤1000000000000):Calls G.P 57 #[.pointer (some ⟨cp,0,none⟩),.agg #[Value.int .i64 x.op,Value.int .i64 x.a,Value.int .i64 x.b,Value.int .u64 x.n,Value.int .i64 x.kind,Value.int .i64 x.val,Value.int .i64 x.index,Value.slice pt x.types.length ct,Value.slice pl x.labels.length cl]] w (ar (aw cp c v) cp (if(bU c x.a).2≠0 then(c,(bU c x.a).2)else vL c (bU c x.a).1) w):=by
 refine aj (l:=[_,_]) Tryz.func57 rfl Tryz.ntmps57 rfl (Ok.bW hw) ?_;generalize hS:Mb (aw cp c v)=S0;obtain⟨sp,tv,pv,bv,rv,fv,D,L⟩:=v;dsimp only[aw,ay,List.cons_append,List.nil_append];have hps:=hwf.aG.some;have hat:=hwf.aG.at_
 repeat'(first|refine ax ?_|(refine bz fun b_=>?_)|fail)
 refine Eq ?_
 intro u0 _
 dsimp only[List.cons_append,List.nil_append]
 repeat'(first|refine ax ?_|fail)
 refine Fd ?_
 intro u1 _
 dsimp only[List.cons_append,List.nil_append]
 obtain⟨q,hq⟩:∃q,bU c x.a=q:=⟨_,rfl⟩
 have hql:=hlb x.a
 rw[hq]at hql ⊢
 obtain⟨l,e⟩:=q
 dsimp only at hql ⊢
 by_cases he:e=0
 ·subst he
  rw[if_neg (fun h=>h rfl)]
  refine aa.pure (φ:=∃p cc,u1=.slice p l.length cc) (fun w' hw'=>by obtain⟨p,cc,e,_⟩:=av (hw'.own (B:=0) (T:=fl) (v:=u1));exact⟨p,cc,e⟩) ?_
  rintro⟨pu,cu,rfl⟩
  refine FI ?_
  obtain⟨r1,hr1⟩:∃r,aT c.aG [1]=r:=⟨_,rfl⟩
  have hw1:=dx hwf.aG [1]
  have ht1:=dw c.aG [1]
  unfold vL
  rw[hr1]at hw1 ht1 ⊢
  obtain⟨s1,e1⟩:=r1
  dsimp only at hw1 ht1 ⊢
  repeat'(first|refine ax ?_|refine Gw ?_|(refine gh fun b_ _=>?_)|fail)
  obtain⟨bl,rfl⟩:∃y:Nat,y=b_:=⟨_,rfl⟩
  refine aa.freeze (q:=.aJ bl [.int .i64 1] fl) (fun w=>af (fun k=>k=bl) w (.slice (some ⟨bl,0,none⟩) 1 1) [1]) hU (fun w' h _=>fg h) ?_
  refine aa.he (HE.aW (M0:=ay sp c.aG (tv,pv)) cE rfl rfl (fun w' hw'=>by have:=dX (fun k=>k=bl) sp c.aG (tv,pv) (.slice (some ⟨bl,0,none⟩) 1 1) [1] w' (hw'.bV cT aY) hps hat.1 hat.2;rw[hr1]at this;exact this)) rfl ?_
  rintro⟨tv1,pv1⟩ _
  dsimp only[ay,List.cons_append,List.nil_append]
  by_cases he1:e1=0
  ·subst he1
   rw[if_neg (fun h=>h rfl)]
   refine aa.kq (uw ⟨l,l⟩ ⟨fun k=>(Value.slice pu l.length cu).ownBlock=some k,pu,cu,pu,cu⟩) (fun w2 h=>⟨h (fun w=>af (fun k=>(Value.slice pu l.length cu).ownBlock=some k) w (.slice pu l.length cu) l) ao,h (fun w=>af (fun k=>(Value.slice pu l.length cu).ownBlock=some k) w (.slice pu l.length cu) l) ao⟩) ?_
   repeat'(first|refine ax ?_|refine Gw ?_|fail)
   refine aa.he (HE.aW (M0:=ay sp s1 (tv1,pv1)) cE rfl rfl (fun w' hw'=>q9 sp s1 (tv1,pv1) ⟨l,l⟩ ⟨fun k=>(Value.slice pu l.length cu).ownBlock=some k,pu,cu,pu,cu⟩ w' (hw'.bV cT aY) hw1 (AY l (by show(s1.ts.length+l.length)*8≤_;omega)))) rfl ?_
   rintro⟨tv2,pv2⟩ _
   dsimp only[ay,List.cons_append,List.nil_append]
   repeat'(first|refine ax ?_|fail)
   unfold zA
   dsimp only
   exact ai.aA rfl rfl fun w' hw'=>by
    by_cases h2:(fQ s1 ⟨l,l⟩).2=0
    ·have:=ar.ok (cp:=cp) (r:=({c with aG:=(fQ s1 ⟨l,l⟩).1},(fQ s1 ⟨l,l⟩).2)) (⟨sp,tv2,pv2,bv,rv,fv,D,L⟩:fU) h2 ⟨hg.len,hg.fr,hg.rs⟩ hS hw' GP ao
     rw[show Value.int .i64 (fQ s1 ⟨l,l⟩).2=.int .i64 0 by rw[h2]];exact this
    ·exact ar.err _ rfl h2 hS hw' ao
  ·rw[if_pos he1]
   repeat'(first|refine ax ?_|fail)
   all_goals exact gc
 ·rw[if_pos he]
  repeat'(first|refine ax ?_|fail)
  all_goals first|omega|exact ai.aA rfl rfl fun w' hw'=>ar.err e rfl he hS hw' ao
set_option maxHeartbeats 8000000 in
theorem pI (F:Nat→Prop) (cp:Nat) (c:dq) (v:fU) (x:bP) (pt pl:Option Addr) (ct cl:Nat) (w:World) (hw:Ok (aw cp c v) [fun w=>af F w (.slice pl x.labels.length cl) x.labels] w) (hg:v.Good c) (hb:c.broken=0) (hwf:c.Wf) (_hres:c.results.length≤100000000000) (hlb:∀n,(bU c n).1.length≤100000000000) (hll:x.labels.length≤10000000) (ho:x.op=14):Calls G.P 57 #[.pointer (some ⟨cp,0,none⟩),.agg #[Value.int .i64 x.op,Value.int .i64 x.a,Value.int .i64 x.b,Value.int .u64 x.n,Value.int .i64 x.kind,Value.int .i64 x.val,Value.int .i64 x.index,Value.slice pt x.types.length ct,Value.slice pl x.labels.length cl]] w (ar (aw cp c v) cp (ld c x) w):=by
 have hI:af F w (.slice pl x.labels.length cl) x.labels:=hw.get (p:=fun w=>af F w (.slice pl x.labels.length cl) x.labels) Hc
 refine aj (l:=[_,_]) Tryz.func57 rfl Tryz.ntmps57 rfl (Ok.bW hw) ?_;generalize hS:Mb (aw cp c v)=S0;obtain⟨sp,tv,pv,bv,rv,fv,D,L⟩:=v;dsimp only[aw,ay,List.cons_append,List.nil_append];have hps:=hwf.aG.some;have hat:=hwf.aG.at_
 unfold ld
 obtain⟨r,hr⟩:∃r,cD c x=r:=⟨_,rfl⟩
 have hwfr:=wF hwf x
 rw[hr]at hwfr ⊢
 obtain⟨s1,e1⟩:=r
 dsimp only at hwfr ⊢
 repeat'(first|refine ax ?_|(refine bz fun b_=>?_)|fail)
 refine Eq ?_
 intro u0 _
 dsimp only[List.cons_append,List.nil_append]
 repeat'(first|refine ax ?_|fail)
 have htab:=fun w' (hw':Ok (aw cp c ⟨sp,tv,pv,bv,rv,fv,D,L⟩) [fun w=>af F w (.slice pl x.labels.length cl) x.labels] w')=>vk F cp c ⟨sp,tv,pv,bv,rv,fv,D,L⟩ x pt pl ct cl w' hw' hg hb hwf hlb hll
 rw[hr]at htab
 by_cases he1:e1=0
 ·subst he1
  rw[if_neg (fun h=>h rfl)]
  refine aa.he (HE.aW (M0:=aw cp c ⟨sp,tv,pv,bv,rv,fv,D,L⟩) cE rfl rfl (fun w' hw'=>(htab w' (hw'.bV cT aY)).mono fun _ _ h=>h.wS rfl)) rfl ?_
  rintro⟨sp1,tv1,pv1,bv1,rv1,fv1,D1,L1⟩ hg1
  dsimp only[aw,ay,List.cons_append,List.nil_append]at hg1 ⊢
  repeat'(first|refine ax ?_|fail)
  refine aa.he (HE.aW (M0:=aw cp {c with aG:=s1} ⟨sp1,tv1,pv1,bv1,rv1,fv1,D1,L1⟩) cE rfl rfl (fun w' hw'=>lg cp {c with aG:=s1} ⟨sp1,tv1,pv1,bv1,rv1,fv1,D1,L1⟩ w' (hw'.bV cT (fun p hp=>absurd hp Hc)) hg1 hb hwfr)) rfl ?_
  rintro⟨sp2,tv2,pv2,bv2,rv2,fv2,D2,L2⟩ hg2
  dsimp only[aw,ay,List.cons_append,List.nil_append]at hg2 ⊢
  repeat'(first|refine ax ?_|fail)
  exact ip
 ·rw[if_pos he1]
  refine aa.he (HE.aW (M0:=aw cp c ⟨sp,tv,pv,bv,rv,fv,D,L⟩) cE rfl rfl (fun w' hw'=>(htab w' (hw'.bV cT aY)).mono fun _ _ h=>h.bad (q:=e1) rfl he1)) rfl ?_
  rintro _ _
  dsimp only[List.nil_append]
  repeat'(first|refine ax ?_|fail)
  all_goals exact gc
theorem tS (F:Nat→Prop) (cp:Nat) (c:dq) (v:fU) (x:bP) (pt pl:Option Addr) (ct cl:Nat) (w:World) (hw:Ok (aw cp c v) [fun w=>af F w (.slice pl x.labels.length cl) x.labels] w) (hg:v.Good c) (hb:c.broken=0) (hwf:c.Wf) (hres:c.results.length≤100000000000) (hlb:∀n,(bU c n).1.length≤100000000000) (hll:x.labels.length≤10000000) (hj:jumps x.op) (hts:c.aG.ts.length≤1000000000000):Calls G.P 57 #[.pointer (some ⟨cp,0,none⟩),.agg #[Value.int .i64 x.op,Value.int .i64 x.a,Value.int .i64 x.b,Value.int .u64 x.n,Value.int .i64 x.kind,Value.int .i64 x.val,Value.int .i64 x.index,Value.slice pt x.types.length ct,Value.slice pl x.labels.length cl]] w (ar (aw cp c v) cp (k9 c x) w):=by
 have hj':=hj
 unfold jumps at hj'
 unfold k9
 rcases hj' with h|h|h|h
 ·have n15:¬x.op=15:=by omega
  have n14:¬x.op=14:=by omega
  have n13:¬x.op=13:=by omega
  rw[if_neg n15,if_neg n14,if_neg n13]
  exact pG F cp c v x pt pl ct cl w hw hg hb hwf hres hlb hll h
 ·have n15:¬x.op=15:=by omega
  have n14:¬x.op=14:=by omega
  rw[if_neg n15,if_neg n14,if_pos h]
  exact pH F cp c v x pt pl ct cl w hw hg hb hwf hres hlb hll h hts
 ·have n15:¬x.op=15:=by omega
  rw[if_neg n15,if_pos h]
  exact pI F cp c v x pt pl ct cl w hw hg hb hwf hres hlb hll h
 ·rw[if_pos h]
  exact pJ F cp c v x pt pl ct cl w hw hg hb hwf hres hlb hll h
end Go.Proofs.YtceedealggognaaGreatDoor
