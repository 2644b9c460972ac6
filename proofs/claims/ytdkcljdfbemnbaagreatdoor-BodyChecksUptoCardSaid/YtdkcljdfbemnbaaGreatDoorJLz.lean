/- Layer 23: rule.turn: the parameters popped, the results pushed. -/
import Derived.Test.YtdkcljdfbemnbaaGreatDoorJWj
import Derived.Test.YtdkcljdfbemnbaaGreatDoorJEn
import Derived.Test.YtdkcljdfbemnbaaGreatDoorJVh
import Derived.Test.YtdkcljdfbemnbaaGreatDoorJRt
import Derived.Test.YtdkcljdfbemnbaaGreatDoorJTz
namespace Go.Proofs.YtdkcljdfbemnbaaGreatDoor
open Go.RowKit _root_.Go.Proofs.Tryz
set_option maxHeartbeats 16000000
open List renaming Sublist→Pp,cons_append→Pj,getElem?_eq_getElem→Pq,length_take→Ps,nil_append→Pi,take_length→Pu
open Nat renaming le_refl→Pr,zero_add→Pm,zero_le→Po
open Value renaming int→Pf,slice→Pg
set_option maxRecDepth 100000
def fS (s:ck) (f:aO):ck×Int:=if(aK s f.params).2≠0 then aK s f.params else(aS (aK s f.params).1 f.results,0)
theorem Hr {s:ck} (p:List Int) {n:Nat} (_h:(s.ts.length+n)*8≤140737488355328):(aK s p).2=0→((aK s p).1.ts.length+n)*8≤140737488355328:=fun _=>by have:=dD s p;omega
theorem xE (sp:Nat) (s:ck) (y:Value×Value) (f:aO) (a:C1) (w:World) (hw:Ok (aX sp s y) [sW f a] w) (hwf:s.Wf) (hb:(aK s f.params).2=0→((aK s f.params).1.ts.length+f.results.length)*8≤140737488355328):
  Calls G.P 57 #[.pointer (some ⟨sp,0,none⟩),.agg #[.slice a.p f.params.length a.c,.slice a.q f.results.length a.d]] w (fe sp s y (.int .i64 (fS s f).2) (fS s f).1 w):=by
 obtain⟨tv,pv⟩:=y
 have hp:=hwf.some
 have h0:=hwf.at_.1
 have hle:=hwf.at_.2
 refine ae (l:=[_,_]) func57 rfl ntmps57 rfl (Ok.dk hw) ?_
 unfold fe
 generalize hS:Mb (aX sp s (tv,pv))=S0
 unfold fS
 have hw1:=dE hwf f.params
 have hts:=dD s f.params
 obtain⟨r,hr⟩:∃r,aK s f.params=r:=⟨_,rfl⟩
 obtain⟨s1,e1⟩:=r
 rw[hr]at hw1 hts hb ⊢
 dsimp only at hw1 hts hb ⊢
 have hp1:=hw1.some
 have hwant:=fun w' hw'=>gy a.D sp s (tv,pv) (.slice a.p f.params.length a.c) f.params w' hw' hp h0 hle
 rw[hr]at hwant
 dsimp only at hwant
 dsimp only[aX]
 repeat'(first|refine ar ?_|(refine aE fun b_=>?_)|fail)
 refine aa.he (HE.bJ (M0:=aX sp s (tv,pv)) dS rfl rfl (fun w' hw'=>hwant w' ((hw'.lj (p:=fun w=>ai a.D w (.slice a.p f.params.length a.c) f.params) (fun w2 h=>(h (sW f a) ak).1)).dc dU aU))) rfl ?_
 rintro⟨tv1,pv1⟩ _
 dsimp only[aX,Pj,Pi]
 by_cases he:e1=0
 ·subst he
  have hb:=hb rfl
  rw[if_neg Pb]
  repeat'(first|refine ar ?_|fail)
  refine aa.he (HE.bJ (M0:=aX sp s1 (tv1,pv1)) dS rfl rfl (fun w' hw'=>gX a.D sp s1 (tv1,pv1) (.slice a.q f.results.length a.d) f.results w' ((hw'.lj (p:=fun w=>ai a.D w (.slice a.q f.results.length a.d) f.results) (fun w2 h=>(h (sW f a) ak).2)).dc dU aU) hp1 Pc)) rfl ?_
  rintro⟨tv2,pv2⟩ _
  dsimp only[aX,Pj,Pi]
  repeat'(first|refine ar ?_|fail)
  all_goals exact ah.aF rfl rfl fun w' hw'=>aC.qF (x:=(tv2,pv2)) trivial hS hw' dU ak
 ·rw[if_pos he]
  repeat'(first|refine ar ?_|fail)
  all_goals exact li
def CT (c:dv) (f:aO):dv×Int:=({c with ao:=(fS c.ao f).1},(fS c.ao f).2)
variable {op:Int} (r:ck×List Int×Int) {M0:List bu} {f:aO} {a:C1} (B:Nat) (F:Nat→Prop) (cp:Nat) (s:ck) (c:gA) (y:jE) (w:World) {ops:Array Oper} {Q:Exit→Act→World→Prop} {n:Nat} {l:List Oper} {E:Env}
theorem HE.Jk {M:List bu} {R:List (World→Prop)} {f:Nat} {args:List Operand} {tys:Array TypeId} {vs:List Value} {r:aO×Int} (hf:G.fb[f]?=some true) (ha:kI E args=some vs) (hc:∀w,Ok M R w→Calls G.P f vs.toArray w (jx r (fun _=>False) w)):
  HE n (.call ⟨.value (.func f),args.toArray,tys⟩) E M R (fun _:C1=>True) (fun x=>.tuple #[.agg #[.slice x.p r.1.params.length x.c,.slice x.q r.1.results.length x.d],.int .i64 r.2]) (fun _=>M) (fun x=>sW r.1 x::R):=
 ⟨fun w hw=>(bU.call hf ha (hc w hw) (fun e w' h=>by obtain⟨⟨x,e1,_⟩,_⟩:=h;exact⟨_,e1⟩)).mono fun v w' ⟨⟨⟨x1,x2⟩,e1,hv⟩,hx⟩=>by
  cases e1
  obtain⟨⟨p,c,rfl⟩,⟨q,d,rfl⟩⟩:=hv.shape
  refine⟨⟨fun k=>False∨w.heap.size≤k,p,c,q,d⟩,trivial,rfl,(hw.ext hx).add fun w2 h2=>dH.fr r.1 hv h2 fun k _ hk hm=>?_⟩
  rcases hk with hk|hk
  ·exact hk
  ·obtain⟨q,hq,hk'⟩:=hm
   have:=(hw.m q hq).2 k hk';omega⟩
def qg (B:Nat) (F:Nat→Prop) (m:af) (sv:Value) (locals:List Int) (lv:Value) (x:cv) (tv bv:Value):List (World→Prop):=[fJ,fun w=>bN B m w sv,fun w=>ai F w lv locals,fun w=>ai F w tv x.types,fun w=>ai F w bv x.labels]
theorem lW {B:Nat} {F:Nat→Prop} {m:af} {locals:List Int} {sv lv:Value} {x:cv} {pt pl:Option Addr} {ct cl:Nat} {M:List bu} {w:World} (hw:Ok M (qg B F m sv locals lv x (.slice pt x.types.length ct) (.slice pl x.labels.length cl)) w):Calls G.P 48 #[sv,.agg #[Pf .i64 x.op,Pf .i64 x.a,Pf .i64 x.b,Pf .u64 x.n,Pf .i64 x.kind,Pf .i64 x.val,Pf .i64 x.index,Pg pt x.types.length ct,Pg pl x.labels.length cl]] w fun e w'=>e=.returned (.int .i64 (if cW x=false then 10 else 0))∧Ext w w':=by
 have h0:fJ w:=hw.get Pa
 have h:bN B m w sv:=hw.get (p:=fun w=>bN B m w sv) Pa
 have ht:=hw.get (p:=fun w=>ai F w (.slice pt x.types.length ct) x.types) Pa
 have hl:=hw.get (p:=fun w=>ai F w (.slice pl x.labels.length cl) x.labels) Pa
 exact Ec B m sv x pt pl ct cl w h fun w2 hx2=>yq F x pt pl ct cl w2 (h0.ext hx2) (ht.aP hx2 (fun _ _ _ h=>h)) (hl.aP hx2 (fun _ _ _ h=>h))
theorem F8 {B:Nat} {F:Nat→Prop} {m:af} {locals:List Int} {sv:Value} {x:cv} {lp pt pl:Option Addr} {lc ct cl:Nat} {M:List bu} {w:World} (hw:Ok M (qg B F m sv locals (.slice lp locals.length lc) x (.slice pt x.types.length ct) (.slice pl x.labels.length cl)) w) (hp:cW x=true) (hT:m7 m):Calls G.P 56 #[sv,.slice lp locals.length lc,.agg #[Pf .i64 x.op,Pf .i64 x.a,Pf .i64 x.b,Pf .u64 x.n,Pf .i64 x.kind,Pf .i64 x.val,Pf .i64 x.index,Pg pt x.types.length ct,Pg pl x.labels.length cl]] w (jx (fN m locals x) (fun _=>False) w):=by
 have h0:fJ w:=hw.get Pa
 have h:bN B m w sv:=hw.get (p:=fun w=>bN B m w sv) Pa
 have hl:=hw.get (p:=fun w=>ai F w (.slice lp locals.length lc) locals) Pa
 have ht:=hw.get (p:=fun w=>ai F w (.slice pt x.types.length ct) x.types) Pa
 exact BV B F m locals sv x lp pt pl lc ct cl w h0 h hl ht hp hT
theorem FO {g g':Prop} (h:g') (hw:eI g'→g:=by(intro hk_;(first|refine Ow ?_|refine N7 ?_|refine N6 ?_);exact hk_.out)):g:=hw ⟨h⟩
theorem wG (c:dv) (v:jI) (m:af) (locals:List Int) (sv:Value) (x:cv) (lp pt pl:Option Addr) (lc ct cl:Nat) (w:World) (hw:Ok (aT cp c v) (qg B F m sv locals (.slice lp locals.length lc) x (.slice pt x.types.length ct) (.slice pl x.labels.length cl)) w) (hp:cW x=false):Calls G.P 32 #[.pointer (some ⟨cp,0,none⟩),sv,.slice lp locals.length lc,.agg #[Pf .i64 x.op,Pf .i64 x.a,Pf .i64 x.b,Pf .u64 x.n,Pf .i64 x.kind,Pf .i64 x.val,Pf .i64 x.index,Pg pt x.types.length ct,Pg pl x.labels.length cl]] w (aJ (aT cp c v) cp (c,10) w):=by
 refine ae (l:=[_,_,_,_]) func32 rfl ntmps32 rfl (Ok.dk hw) ?_
 generalize hS:Mb (aT cp c v)=S0
 unfold qg
 obtain⟨sp,tv,pv,bv,rv,fv,D,L⟩:=v
 dsimp only[aT,aX,Pj,Pi]
 have hno:=fun w' M (hw':Ok M _ w')=>lW (B:=B) (F:=F) (m:=m) (locals:=locals) (sv:=sv) (lv:=.slice lp locals.length lc) (x:=x) (pt:=pt) (pl:=pl) (ct:=ct) (cl:=cl) hw'
 rw[hp]at hno
 repeat'(first|refine ar ?_|(refine aE fun b_=>?_)|refine FO ?_|fail)
 all_goals exact ah.aF rfl rfl fun w' hw'=>aJ.err 10 rfl Pb hS hw' ak
def tm (c:dv) (r:aO×Int):dv×Int:=if r.2≠0 then(c,r.2)else CT c r.1
theorem rH (c:dv) (v:jI) (m:af) (locals:List Int) (sv:Value) (x:cv) (lp pt pl:Option Addr) (lc ct cl:Nat) (w:World) (hw:Ok (aT cp c v) (qg B F m sv locals (.slice lp locals.length lc) x (.slice pt x.types.length ct) (.slice pl x.labels.length cl)) w) (hg:v.Good c) (hwf:c.Wf) (hp:cW x=true) (ha:jW x.op=false) (hT:m7 m) (hb:(aK c.ao (fN m locals x).1.params).2=0→((aK c.ao (fN m locals x).1.params).1.ts.length+(fN m locals x).1.results.length)*8≤140737488355328):Calls G.P 32 #[.pointer (some ⟨cp,0,none⟩),sv,.slice lp locals.length lc,.agg #[Pf .i64 x.op,Pf .i64 x.a,Pf .i64 x.b,Pf .u64 x.n,Pf .i64 x.kind,Pf .i64 x.val,Pf .i64 x.index,Pg pt x.types.length ct,Pg pl x.labels.length cl]] w (aJ (aT cp c v) cp (tm c (fN m locals x)) w):=by
 have hop:x.op≠2∧x.op≠3∧x.op≠4∧x.op≠5∧x.op≠11∧x.op≠0∧x.op≠12∧x.op≠13∧x.op≠14∧x.op≠15∧x.op≠26∧x.op≠27∧x.op≠209:=by simpa[jW,and_assoc]using ha
 refine ae (l:=[_,_,_,_]) func32 rfl ntmps32 rfl (Ok.dk hw) ?_
 generalize hS:Mb (aT cp c v)=S0
 unfold qg
 obtain⟨sp,tv,pv,bv,rv,fv,D,L⟩:=v
 dsimp only[aT,aX,Pj,Pi]
 have hno:=fun w' M (hw':Ok M _ w')=>lW (B:=B) (F:=F) (m:=m) (locals:=locals) (sv:=sv) (lv:=.slice lp locals.length lc) (x:=x) (pt:=pt) (pl:=pl) (ct:=ct) (cl:=cl) hw'
 rw[hp]at hno
 have hty:=fun w' M (hw':Ok M _ w')=>F8 (B:=B) (F:=F) (m:=m) (locals:=locals) (sv:=sv) (x:=x) (lp:=lp) (lc:=lc) (pt:=pt) (pl:=pl) (ct:=ct) (cl:=cl) hw' hp hT
 generalize fN m locals x=r at hty hb ⊢
 obtain⟨f,e0⟩:=r
 dsimp only at hb
 by_cases he:e0=0
 ·subst he
  repeat'(first|refine ar ?_|(refine NU fun b_=>?_)|refine FO ?_|(refine aa.aj (f:=56) ?_;refine aa.he (HE.Jk (r:=(f,0)) rfl rfl (fun w' hw'=>hty w' _ (hw'.sub (Pp.refl _) aU))) rfl ?_;rintro⟨D_,p_,c_,q_,d_⟩ _;dsimp only)|fail)
  refine bh.cF [.aV b_ [.slice p_ f.params.length c_,.slice q_ f.results.length d_] sw] [sW f ⟨D_,p_,c_,q_,d_⟩] bw aU ?_
  repeat'(first|refine pG ?_|(refine ax.dz 26 ?_;refine ax.he rfl rfl (HE.eK rfl rfl (fun w' hw'=>eB cp ⟨sp,0,none⟩ w' (hw'.c1 aH Pe))) (fun _=>bw) (fun _=>aU) ?_;rintro⟨⟩ _)|(refine ax.dz 57 ?_;refine ax.he rfl rfl (HE.bJ (M0:=aX sp c.ao (tv,pv)) dS rfl rfl (fun w' hw'=>xE sp c.ao (tv,pv) f ⟨D_,p_,c_,q_,d_⟩ w' (hw'.dc dU aU) hwf.ao hb)) (fun _=>by dsimp only[aX,Pj,Pi];exact bw) (fun _=>aU) ?_;rintro⟨tvb,pvb⟩ _;dsimp only[aX,Pj,Pi])|refine aN.nil O3 ?_|refine aN.any O3 ?_|exact aB.fin rfl|refine aB.skip O3 ?_|refine aB.go ?_ ?_)
  all_goals
   repeat'(first|refine ar ?_|fail)
   exact ah.aF rfl rfl fun w' hw'=>by
    by_cases h2:(fS c.ao f).2=0
    ·have:=aJ.ok (cp:=cp) (r:=({c with ao:=(fS c.ao f).1},(fS c.ao f).2)) (⟨sp,tvb,pvb,bv,rv,fv,D,L⟩:jI) h2 ⟨hg.len,hg.fr,hg.rs⟩ hS hw' OH ak
     rw[h2];exact this
    ·exact aJ.err _ rfl h2 hS hw' ak
 ·unfold tm
  rw[if_pos he]
  repeat'(first|refine ar ?_|(refine NU fun b_=>?_)|refine FO ?_|(refine aa.aj (f:=56) ?_;refine aa.he (HE.Jk (r:=(f,e0)) rfl rfl (fun w' hw'=>hty w' _ (hw'.sub (Pp.refl _) aU))) rfl ?_;rintro⟨D_,p_,c_,q_,d_⟩ _;dsimp only)|fail)
  all_goals first|omega|exact ah.aF rfl rfl fun w' hw'=>aJ.err e0 rfl he hS hw' ak
section
variable {n:Nat} {E:Env} {M:List bu} {R:List (World→Prop)} {f:Nat} {args:List Operand} {tys:Array TypeId} {vs:List Value}
theorem HE.tw {m:af} (hf:G.fb[f]?=some true) (ha:kI E args=some vs) (hc:∀w,Ok M R w→Calls G.P f vs.toArray w (wT m w)):
  HE n (.call ⟨.value (.func f),args.toArray,tys⟩) E M R (fun _:Nat×Value=>True) (fun x=>x.2) (fun _=>M) (fun x=>(fun w=>bN x.1 m w x.2)::R):=
 ⟨fun w hw=>(bU.call hf ha (hc w hw) (fun e w' h=>by obtain⟨⟨x,e1,_⟩,_⟩:=h;exact⟨_,e1⟩)).mono fun v w' ⟨⟨x,e1,hv⟩,hx⟩=>by
  cases e1
  refine⟨(w.heap.size,v),trivial,rfl,(hw.ext hx).add fun w2 h2=>hv.aP h2 fun k hk hm=>?_⟩
  obtain⟨q,hq,hk'⟩:=hm
  have:=(hw.m q hq).2 k hk';omega⟩
end
theorem aJ.Dr {cp:Nat} {r:dv×Int} {w w':World} {e:Ending} (h:aJ M0 cp r w e w') (hr:r.2=0):aC M0 w (fun _:jI=>.int .i64 0) (fun v'=>v'.Good r.1) (aT cp r.1) e w':=by
 obtain⟨x,e1,h2,h3,h4,h5⟩:=h
 dsimp only at h3 h5
 rw[if_pos hr]at h3
 simp only[if_pos hr]at h5
 rw[hr]at e1
 exact⟨x,e1,h2 hr,h3,h4,h5⟩
theorem aJ.bad {cp:Nat} {r:dv×Int} {w w':World} {e:Ending} (h:aJ M0 cp r w e w') {q:Int} (hr:r.2=q) (_hq:q≠0):aC M0 w (fun _:jI=>.int .i64 q) (fun _=>True) (fun _=>[]) e w':=by
 obtain⟨x,e1,h2,h3,h4,h5⟩:=h
 dsimp only at h3 h5
 rw[if_neg Pc]at h3
 simp only[if_neg (show¬r.2=0 by omega)]at h5
 rw[hr]at e1
 exact⟨x,e1,trivial,h3,h4,h5⟩
theorem Ok.tN {M:List bu} {R:List (World→Prop)} {w0 w:World} {b T:Nat} {cs:List Value} (h:Ok M R w) (hR:Ext w0∈R) (hm:bu.aV b cs T∈M):gO w b cs T∧w0.heap.size≤b:=by
 refine⟨(h.m _ hm).1,?_⟩
 rcases Nat.lt_or_ge b w0.heap.size with hlt|hge
 ·exact(h.origin (S:=fun _=>False) hR b ⟨_,hm,rfl⟩ hlt).elim
 ·exact hge
theorem zx {w:World} {b T:Nat} {cs:List Value} (h:gO w b cs T) {s:Nat} (_hs:cs.length=s):∀j,j<s→w.cell? ⟨b,0+0*s+j,none⟩=cs[j]?:=fun j hj=>by
 rw[Nat.zero_mul,Pm,Pq Pc]
 exact h.cell (Pq Pc)
theorem uA (F F':Nat→Prop) (xs ys:List Int) (v u:Value) (w:World) (h:ai F w v xs) (h':ai F' w u ys):Calls G.P 116 #[v,u] w fun e w'=>e=.returned (.bool (decide (xs=ys)))∧Ext w w':=by
 obtain⟨p,c,rfl,hl⟩:=h.slice
 obtain⟨q,d,rfl,hl'⟩:=h'.slice
 refine ae (l:=[_,_]) func116 rfl ntmps116 rfl (Ok.start w) ?_
 by_cases hlen:xs.length=ys.length
 ·repeat'(first|refine ar ?_|fail)
  refine MF ?_
  rintro j ⟨hj,heq⟩
  by_cases hjl:j<xs.length
  ·obtain⟨b7,o7,rfl,-,hc⟩:=h.at hjl
   obtain⟨b8,o8,rfl,-,hc'⟩:=h'.at (show j<ys.length by omega)
   have hcj:=hc j hjl
   have hcj':=hc' j Pc
   have hst:=rJ hjl (show j<ys.length by omega) heq
   by_cases he:ix xs j=ix ys j
   ·repeat'(first|refine ar ?_|fail)
    all_goals exact ne
   ·repeat'(first|refine ar ?_|fail)
    all_goals exact pi
  ·obtain rfl:j=xs.length:=by omega
   rw[Pu,hlen,Pu]at heq
   repeat'(first|refine ar ?_|fail)
   all_goals exact pm
 ·repeat'(first|refine ar ?_|fail)
  all_goals exact pp
def fK (r:aO×Int) (F:Nat→Prop) (w:World):Ending→World→Prop:=bD (dH r.1) (fun y:Value×Value=>.agg #[y.1,y.2,.int .i64 r.2]) F w
section
variable {n:Nat} {E:Env} {M:List bu} {R:List (World→Prop)} {w0:World} {f:Nat} {args:List Operand} {tys:Array TypeId} {vs:List Value} {F:Nat→Prop}
theorem HE.rg {r:aO×Int} (hR:Ext w0∈R) (hF:∀k,F k→k<w0.heap.size) (hf:G.fb[f]?=some true) (ha:kI E args=some vs) (hc:∀w,Ok M R w→Calls G.P f vs.toArray w (fK r F w)):
  HE n (.call ⟨.value (.func f),args.toArray,tys⟩) E M R (fun x:C1=>∀k,x.D k→F k∨w0.heap.size≤k) (fun x=>.agg #[.slice x.p r.1.params.length x.c,.slice x.q r.1.results.length x.d,.int .i64 r.2]) (fun _=>M) (fun x=>sW r.1 x::R):=
 HE.EV (tf:=fun u v=>.agg #[u,v,.int .i64 r.2]) hR hF hf ha hc
end
theorem bK {rest:List Oper} {E:Env} {M:List bu} {R:List (World→Prop)} {d:Nat} {ty:TypeId} {pos:String} {aft:Array Edge} (h:∀b:Nat,aa ops Q n rest ((d,.pointer (some ⟨b,0,none⟩))::E) (.aV b [Value.slice none 0 0,Value.slice none 0 0,Value.int .i64 0] 211::M) R) (hd:Nat.blt d n=true:=by rfl):aa ops Q n (⟨some d,.alloc 211,ty,pos,aft,none⟩::rest) E M R:=aa.alloc (t:=211) [Value.slice none 0 0,Value.slice none 0 0,Value.int .i64 0] rfl rfl hd h
theorem jC (e0:Int) (w:World):Calls G.P 152 #[.int .i64 e0] w fun e w'=>e=.returned (.agg #[.slice none 0 0,.slice none 0 0,.int .i64 e0])∧Ext w w':=by
 refine ae (l:=[_]) func152 rfl ntmps152 rfl (Ok.start w) ?_
 repeat'(first|refine ar ?_|(refine bK fun b_=>?_)|fail)
 all_goals exact qr
theorem gQ (p0 p1:Option Addr) (n0 n1 c0 c1:Nat) (w:World):Calls G.P 155 #[.slice p0 n0 c0,.slice p1 n1 c1] w fun e w'=>e=.returned (.agg #[.slice p0 n0 c0,.slice p1 n1 c1,.int .i64 0])∧Ext w w':=by
 refine ae (l:=[_,_]) func155 rfl ntmps155 rfl (Ok.start w) ?_
 repeat'(first|refine ar ?_|(refine bK fun b_=>?_)|fail)
 all_goals exact qr
theorem gq (p0:Option Addr) (n0 c0:Nat) (w:World):Calls G.P 118 #[.slice p0 n0 c0] w fun e w'=>e=.returned (.slice p0 n0 c0)∧Ext w w':=by
 refine ae (l:=[_]) func118 rfl ntmps118 rfl (Ok.start w) ?_
 repeat'(first|refine ar ?_|fail)
 all_goals exact rd
theorem rB {g g':Prop} (h:g') (hw:eI g'→g:=by(intro hk_;(first|refine Ot ?_|refine Oa ?_|(refine aa.aj (f:=118) ?_;refine aa.au rfl rfl rfl (fun w' hw'=>gq _ _ _ w') ?_));exact hk_.out)):g:=hw ⟨h⟩
def ry (c:gA):gA×Int:=if c.fs.length=0 then(c,16)else if(cP c.ao (ix c.fs (c.fs.length - 1)).res).2≠0 then(c,(cP c.ao (ix c.fs (c.fs.length - 1)).res).2)else if(ix c.fs (c.fs.length - 1)).op=4∧(ix c.fs (c.fs.length - 1)).par≠(ix c.fs (c.fs.length - 1)).res then(c,12)else
  ({c with ao:=aS (cP c.ao (ix c.fs (c.fs.length - 1)).res).1 (ix c.fs (c.fs.length - 1)).res,fs:=c.fs.take (c.fs.length - 1)},0)
theorem rD (h:cG c F w y) (hs:c.ao.Wf) (_hfl:c.fs.length≤1000000) (_hpl:c.ao.ps.length≤1000000) (_hn:c.fs.length=0):Calls G.P 68 #[.agg (eN c y).toArray] w (gC (c,16) F w):=by
 have hp0:=hs.some
 have ha0:=hs.at_.1
 have hle0:=hs.at_.2
 obtain⟨p1,c1,p2,c2,p3,c3,p4,c4,p5,c5,ey,k4,h4,kz⟩:=h.gx
 obtain⟨y,fv,rv,z⟩:=y
 cases ey
 refine ae (l:=[_]) func68 rfl ntmps68 rfl (Ok.fg (V:=bz c.ao) (bz.fr c.ao) (bz.lt c.ao) h.1) ?_
 dsimp only[eN]
 have hn':(c.fs.length:Int)=0:=by omega
 repeat'(first|refine ar ?_|(refine NQ fun b_=>?_)|fail)
 all_goals exact rt
theorem wh (h:cG c F w y) (hs:c.ao.Wf) (_hfl:c.fs.length≤1000000) (_hpl:c.ao.ps.length≤1000000) (_hn:c.fs.length≠0) (hp2:2≤c.ao.ps.length) (_hb:c.ao.ts.length+(ix c.fs (c.fs.length - 1)).res.length≤17592186044416):Calls G.P 68 #[.agg (eN c y).toArray] w (gC (if(cP c.ao (ix c.fs (c.fs.length - 1)).res).2≠0 then(c,(cP c.ao (ix c.fs (c.fs.length - 1)).res).2)else if(ix c.fs (c.fs.length - 1)).op=4∧(ix c.fs (c.fs.length - 1)).par≠(ix c.fs (c.fs.length - 1)).res then(c,12)else
  ({c with ao:=aS (cP c.ao (ix c.fs (c.fs.length - 1)).res).1 (ix c.fs (c.fs.length - 1)).res,fs:=c.fs.take (c.fs.length - 1)},0)) F w):=by
 have hp0:=hs.some
 have ha0:=hs.at_.1
 have hle0:=hs.at_.2
 obtain⟨p1,c1,p2,c2,p3,c3,p4,c4,p5,c5,ey,k4,h4,kz⟩:=h.gx
 obtain⟨_,_,g1,k1,g2,k2,_,-,e5,hfx,-⟩:=h.frame (i:=c.fs.length - 1) Pc
 have hz:=h.2.1
 have htop:∀w',Ext w w'→Calls G.P 63 #[.agg (eN c y).toArray] w' fun e w2=>e=.returned (.agg #[.int .i64 (ix c.fs (c.fs.length - 1)).op,.slice g1 (ix c.fs (c.fs.length - 1)).par.length k1,.slice g2 (ix c.fs (c.fs.length - 1)).res.length k2,.bool (ix c.fs (c.fs.length - 1)).live,.bool (ix c.fs (c.fs.length - 1)).lq])∧Ext w' w2:=fun w' hx=>by
  have:=kg F c y w' (cG.fr c h hx (fun _ _ _ h=>h)) Pc
  rw[e5]at this
  exact this
 obtain⟨y,fv,rv,z⟩:=y
 cases ey
 dsimp only[eN]at e5 hz kz hfx htop
 rw[e5]at hfx
 have hI:∀l v,ai F w v l→∀D w',Ext w w'→ai (AF F w D) w' v l:=fun l v hv D w' hx=>(((hv.mono (fun k hk hF=>⟨hF,hk⟩):ai (fun k=>F k∧k<w.heap.size) w _ _)).aP hx (fun _ _ _ h=>h)).mono fun k _ h=>.inl h
 refine ae (l:=[_]) func68 rfl ntmps68 rfl (Ok.fg (V:=bz c.ao) (bz.fr c.ao) (bz.lt c.ao) h.1) ?_
 dsimp only[eN]
 have hn':¬(c.fs.length:Int)=0:=by omega
 obtain⟨r1,hr1⟩:∃r,cP c.ao (ix c.fs (c.fs.length - 1)).res=r:=⟨_,rfl⟩
 obtain⟨s1,e1⟩:=r1
 rw[hr1]
 have hts1:s1.ts.length≤c.ao.ts.length:=by have:=mS c.ao (ix c.fs (c.fs.length - 1)).res;rw[hr1]at this;exact this
 have htk:=(show vF F w (.slice p4 c.fs.length c4) z from hz).take (c.fs.length - 1) Pc
 have htl:(z.take (c.fs.length - 1)).length=c.fs.length - 1:=by rw[Ps];omega
 have hsv:∀w',Ext w w'→Calls G.P 116 #[.slice g1 (ix c.fs (c.fs.length - 1)).par.length k1,.slice g2 (ix c.fs (c.fs.length - 1)).res.length k2] w' fun e w2=>e=.returned (.bool (decide ((ix c.fs (c.fs.length - 1)).par=(ix c.fs (c.fs.length - 1)).res)))∧Ext w' w2:=fun w' hx=>uA F F _ _ _ _ w' (hfx.1.aP hx (fun _ _ _ h=>h)) (hfx.2.aP hx (fun _ _ _ h=>h))
 dsimp only
 repeat'(first|refine ar ?_|(refine NQ fun b_=>?_)|(refine aa.aj (f:=63) ?_;refine aa.au rfl rfl rfl (fun w' hw'=>htop w' hw'.at) ?_)|refine Oc ?_|fail)
 all_goals first|omega|skip
 obtain⟨b4,rfl⟩:∃y:Nat,y=b_:=⟨_,rfl⟩
 by_cases he1:e1=0
 ·subst he1
  rw[if_neg (fun h=>h rfl)]
  refine aa.he (HE.bV (V:=bz c.ao) (V2:=bz s1) (w0:=w) (F:=F) (D:=fun _=>False) (y:=⟨.slice p1 c.ao.ts.length c1,.slice p2 c.ao.ps.length c2,.slice p3 c.ao.ps.length c3⟩) (bz.fr _) (bz.lt _) (bz.mo _) ak bO (fun _=>aH) rfl rfl (fun w' hw' hh=>by have:=np _ F c.ao ⟨.slice p1 c.ao.ts.length c1,.slice p2 c.ao.ps.length c2,.slice p3 c.ao.ps.length c3⟩ (.slice g2 (ix c.fs (c.fs.length - 1)).res.length k2) (ix c.fs (c.fs.length - 1)).res w' hh (hfx.2.aP (show Ext w w' from hw'.at) (fun _ _ _ h=>h)) hp2 ha0 hle0;rw[hr1]at this;exact this.mono fun _ _ g=>oK.to g)) rfl ?_
  rintro⟨D1,x1⟩ _
  refine aa.pure (φ:=∃q1 d1 q2 d2 q3 d3,x1=⟨.slice q1 s1.ts.length d1,.slice q2 s1.ps.length d2,.slice q3 s1.ps.length d3⟩) (fun w' hw'=>by obtain⟨q1,d1,q2,d2,q3,d3,e,-⟩:=(hw'.an (V:=bz s1) (w0:=w) (F:=F) (D:=D1) (y:=x1) ak bO).gx;exact⟨q1,d1,q2,d2,q3,d3,e⟩) ?_
  rintro⟨r1,rc1,r2,rc2,r3,rc3,rfl⟩
  dsimp only[gw]
  repeat'(first|refine ar ?_|(refine NS fun b_=>?_)|fail)
  refine MG ?_
  rintro⟨⟩ _
  by_cases hbad:(ix c.fs (c.fs.length - 1)).op=4∧(ix c.fs (c.fs.length - 1)).par≠(ix c.fs (c.fs.length - 1)).res
  ·rw[if_pos hbad]
   obtain⟨ho4,hpr⟩:=hbad
   have hdn:(!decide ((ix c.fs (c.fs.length - 1)).par=(ix c.fs (c.fs.length - 1)).res))=true:=by rw[decide_eq_false hpr];rfl
   repeat'(first|refine ar ?_|(refine NS fun b_=>?_)|(refine aa.aj (f:=112) ?_;refine aa.he (HE.eK rfl rfl (fun w' _=>iP _ _ _ _ _ _ _ _ _ _ _ _ _ _ _ _ _ _ w')) rfl ?_;rintro⟨⟩ _)|(refine aa.cQ (f:=116) ?_;refine aa.cH pF rfl rfl rfl (fun w' hw'=>hsv w' hw'.at) ?_)|fail)
   all_goals exact rt
  ·rw[if_neg hbad]
   have hdn:(ix c.fs (c.fs.length - 1)).op=4→(!decide ((ix c.fs (c.fs.length - 1)).par=(ix c.fs (c.fs.length - 1)).res))=false:=fun h=>by
    have:(ix c.fs (c.fs.length - 1)).par=(ix c.fs (c.fs.length - 1)).res:=Classical.byContradiction fun h2=>hbad ⟨h,h2⟩
    rw[decide_eq_true this];rfl
   by_cases ho4:(ix c.fs (c.fs.length - 1)).op=4
   ·have hd2:=hdn ho4
    repeat'(first|refine ar ?_|(refine NS fun b_=>?_)|(refine aa.cQ (f:=116) ?_;refine aa.cH pF rfl rfl rfl (fun w' hw'=>hsv w' hw'.at) ?_)|fail)
    all_goals first|omega|skip
    refine MH ?_
    rintro⟨D4,x4⟩ _
    obtain⟨s4,hs4⟩:∃s,aS s1 (ix c.fs (c.fs.length - 1)).res=s:=⟨_,rfl⟩
    rw[hs4]
    refine aa.pure (φ:=∃q1 d1 q2 d2 q3 d3,x4=⟨.slice q1 s4.ts.length d1,.slice q2 s4.ps.length d2,.slice q3 s4.ps.length d3⟩) (fun w' hw'=>by obtain⟨q1,d1,q2,d2,q3,d3,e,-⟩:=(hw'.an (V:=bz s4) (w0:=w) (F:=F) (D:=D4) (y:=x4) ak bO).gx;exact⟨q1,d1,q2,d2,q3,d3,e⟩) ?_
    rintro⟨v1,vc1,v2,vc2,v3,vc3,rfl⟩
    dsimp only[gw]
    repeat'(first|refine ar ?_|fail)
    refine MI ?_
    rintro⟨⟩ _
    repeat'(first|refine ar ?_|fail)
    refine MJ ?_
    intro b6 _
    refine aa.jP (b:=b6) (len:=0) 5 aH rfl (Po _) ?_
    repeat'(first|refine ar ?_|(refine aa.y_ (Yl.cZ (i:=c.fs.length - 1) rfl rfl rfl rfl rfl Pc Pc) rfl ?_)|fail)
    refine aa.he (HE.gP (kY (z.take (c.fs.length - 1))) rfl rfl (fun _=>aH) ((uU htk ak).imp_left fun h=>by omega) (by rw[kZ,htl]) rfl rfl rfl Pe Pe Pe (oQ _ htk.Ge) OJ Pc (fun _ _=>Po _)) rfl ?_
    intro va _
    simp only[Pm,Pi]
    refine aa.pure (φ:=∃p cc,va=.slice p (c.fs.length - 1) cc∧c.fs.length - 1≤cc) (fun w' hw'=>by obtain⟨p,cc,e,h,_⟩:=aw (hw'.own (v:=va));exact⟨p,cc,e,h⟩) ?_
    rintro⟨pa,ca,rfl,hca⟩
    repeat'(first|refine ar ?_|fail)
    refine Mv ?_
    intro w' hw'
    have hE:Ext w w':=hw'.at
    have hsd:=(cG.fr c h hE (fun _ _ _ h=>h)).mono (H:=fun k=>F k∨w.heap.size≤k) fun _ h=>.inl h
    have g:=oP (F:=F) (z.take (c.fs.length - 1)) hw' ak bO htl.symm rfl Pc (fun a ha=>hsd.2.1.Ge a (List.mem_of_mem_take ha))
    have g1:=hw'.new (V:=bz s4) (w:=w) (F:=F) (D:=D4) (y:=⟨.slice v1 s4.ts.length vc1,.slice v2 s4.ps.length vc2,.slice v3 s4.ps.length vc3⟩) (bz.mo _) ak bO
    exact rx
   ·repeat'(first|refine ar ?_|(refine NS fun b_=>?_)|fail)
    all_goals first|omega|skip
    refine MH ?_
    rintro⟨D4,x4⟩ _
    obtain⟨s4,hs4⟩:∃s,aS s1 (ix c.fs (c.fs.length - 1)).res=s:=⟨_,rfl⟩
    rw[hs4]
    refine aa.pure (φ:=∃q1 d1 q2 d2 q3 d3,x4=⟨.slice q1 s4.ts.length d1,.slice q2 s4.ps.length d2,.slice q3 s4.ps.length d3⟩) (fun w' hw'=>by obtain⟨q1,d1,q2,d2,q3,d3,e,-⟩:=(hw'.an (V:=bz s4) (w0:=w) (F:=F) (D:=D4) (y:=x4) ak bO).gx;exact⟨q1,d1,q2,d2,q3,d3,e⟩) ?_
    rintro⟨v1,vc1,v2,vc2,v3,vc3,rfl⟩
    dsimp only[gw]
    repeat'(first|refine ar ?_|fail)
    refine MI ?_
    rintro⟨⟩ _
    repeat'(first|refine ar ?_|fail)
    refine MJ ?_
    intro b6 _
    refine aa.jP (b:=b6) (len:=0) 5 aH rfl (Po _) ?_
    repeat'(first|refine ar ?_|(refine aa.y_ (Yl.cZ (i:=c.fs.length - 1) rfl rfl rfl rfl rfl Pc Pc) rfl ?_)|fail)
    refine aa.he (HE.gP (kY (z.take (c.fs.length - 1))) rfl rfl (fun _=>aH) ((uU htk ak).imp_left fun h=>by omega) (by rw[kZ,htl]) rfl rfl rfl Pe Pe Pe (oQ _ htk.Ge) OJ Pc (fun _ _=>Po _)) rfl ?_
    intro va _
    simp only[Pm,Pi]
    refine aa.pure (φ:=∃p cc,va=.slice p (c.fs.length - 1) cc∧c.fs.length - 1≤cc) (fun w' hw'=>by obtain⟨p,cc,e,h,_⟩:=aw (hw'.own (v:=va));exact⟨p,cc,e,h⟩) ?_
    rintro⟨pa,ca,rfl,hca⟩
    repeat'(first|refine ar ?_|fail)
    refine Mv ?_
    intro w' hw'
    have hE:Ext w w':=hw'.at
    have hsd:=(cG.fr c h hE (fun _ _ _ h=>h)).mono (H:=fun k=>F k∨w.heap.size≤k) fun _ h=>.inl h
    have g:=oP (F:=F) (z.take (c.fs.length - 1)) hw' ak bO htl.symm rfl Pc (fun a ha=>hsd.2.1.Ge a (List.mem_of_mem_take ha))
    have g1:=hw'.new (V:=bz s4) (w:=w) (F:=F) (D:=D4) (y:=⟨.slice v1 s4.ts.length vc1,.slice v2 s4.ps.length vc2,.slice v3 s4.ps.length vc3⟩) (bz.mo _) ak bO
    exact rx
 ·rw[if_pos he1]
  refine aa.he (HE.bV (V:=bz c.ao) (V2:=ky) (w0:=w) (F:=F) (D:=fun _=>False) (y:=⟨.slice p1 c.ao.ts.length c1,.slice p2 c.ao.ps.length c2,.slice p3 c.ao.ps.length c3⟩) ky.fr ky.lt ky.mo ak bO (fun _=>aH) rfl rfl (fun w' hw' hh=>by have:=np _ F c.ao ⟨.slice p1 c.ao.ts.length c1,.slice p2 c.ao.ps.length c2,.slice p3 c.ao.ps.length c3⟩ (.slice g2 (ix c.fs (c.fs.length - 1)).res.length k2) (ix c.fs (c.fs.length - 1)).res w' hh (hfx.2.aP (show Ext w w' from hw'.at) (fun _ _ _ h=>h)) hp2 ha0 hle0;rw[hr1]at this;exact this.mono fun _ _ g=>oK.qW g)) rfl ?_
  rintro⟨D2,x2⟩ _
  refine Mw ?_
  rintro⟨q1,n1,d1,q2,n2,d2,q3,n3,d3,rfl⟩
  dsimp only[gw]
  repeat'(first|refine ar ?_|(refine NS fun b_=>?_)|(refine aa.aj (f:=112) ?_;refine aa.he (HE.eK rfl rfl (fun w' _=>iP _ _ _ _ _ _ _ _ _ _ _ _ _ _ _ _ _ _ w')) rfl ?_;rintro⟨⟩ _)|fail)
  all_goals first|omega|skip
  all_goals(refine ah.aM (.inl rfl) rfl rfl rfl rfl rfl aH rfl rfl ?_;exact fun w' hw'=>gC.err (e:=_) (fG.mk ..) OU hw'.at)
theorem kl {F:Nat→Prop} {w w':World} {v:Value} {l:List Int} (h:ai F w v l) (hx:Ext w w') (D:Nat→Prop):ai (AF F w D) w' v l:=(((h.mono (fun _k hk hF=>⟨hF,hk⟩):ai (fun k=>F k∧k<w.heap.size) w _ _)).aP hx (fun _ _ _ h=>h)).mono fun _k _ h=>.inl h
theorem gC.ao {c:gA} {F D:Nat→Prop} {s:ck} {w w':World} {y:jE} {M:List bu} {R:List (World→Prop)} (x:jV) (h:cG c F w y) (hw:Ok M R w') (hR:Ext w∈R) (hM:bu.an (bz s) w F D x∈M):gC ({c with ao:=s},0) F w (.returned (.tuple #[.agg (eN {c with ao:=s} {y with r:=x}).toArray,.int .i64 0])) w':=by
 have hE:Ext w w':=hw.get hR
 have hsd:=(cG.fr c h hE (fun _ _ _ h=>h)).mono (H:=fun k=>F k∨w.heap.size≤k) fun _ h=>.inl h
 exact gC.ok (c:={c with ao:=s}) {y with r:=x} ⟨hw.new (V:=bz s) (bz.mo _) hR hM,hsd.2⟩ hE
theorem aa.tk {M M':List bu} {R:List (World→Prop)} {β β2:Type} {V:(Nat→Prop)→World→β→Prop} {V2:(Nat→Prop)→World→β2→Prop} {w0:World} {F D:Nat→Prop} {y:β} (y2:β2) (hM:Up (bu.an V w0 F D y) (bu.an V2 w0 F D y2) M M') (hp:∀D w,V D w y→V2 D w y2) (h:aa ops Q n l E M' R):aa ops Q n l E M R:=⟨fun w hw=>h.h w (hw.tk y2 hM hp)⟩
theorem vv {s:ck} (h:s.Wf) (f:aO):(fS s f).1.Wf:=by
 unfold fS
 split
 ·exact dE h _
 ·exact qK (dE h _) _
theorem vu (f:aO):(fS s f).1.ps=s.ps:=by
 unfold fS
 split
 ·exact fm _ _
 ·exact fm _ _
def ki (c:gA) (f:aO):gA×Int:=({c with ao:=(fS c.ao f).1},(fS c.ao f).2)
theorem oz (h:cG c F w y) (f:aO) (fp fq:Option Addr) (fc fd:Nat) (hf:dH f F w (.slice fp f.params.length fc,.slice fq f.results.length fd)) (hs:c.ao.Wf) (_hb:c.ao.ts.length+f.results.length≤17592186044416):Calls G.P 73 #[.agg (eN c y).toArray,.agg #[.slice fp f.params.length fc,.slice fq f.results.length fd]] w (gC (ki c f) F w):=by
 obtain⟨p1,c1,p2,c2,p3,c3,p4,c4,p5,c5,ey,k4,h4,kz⟩:=h.gx
 obtain⟨y,fv,rv,z⟩:=y
 cases ey
 unfold ki fS
 obtain⟨r1,hr1⟩:∃r,aK c.ao f.params=r:=⟨_,rfl⟩
 obtain⟨s1,e1⟩:=r1
 rw[hr1]
 have hts1:s1.ts.length≤c.ao.ts.length:=by have:=dD c.ao f.params;rw[hr1]at this;exact this
 refine ae (l:=[_,_]) func73 rfl ntmps73 rfl (Ok.fg (V:=bz c.ao) (bz.fr c.ao) (bz.lt c.ao) h.1) ?_
 dsimp only[eN]
 refine ar ?_
 refine aa.box [.slice p1 c.ao.ts.length c1,.slice p2 c.ao.ps.length c2,.slice p3 c.ao.ps.length c3,.int .i64 c.ao.bQ,.slice p4 c.fs.length c4,.slice p5 c.results.length c5,.int .i64 0] rfl rfl rfl fun b2=>?_
 refine aa.box [.slice fp f.params.length fc,.slice fq f.results.length fd] rfl rfl rfl fun b3=>?_
 repeat'(first|refine ar ?_|(refine NS fun b_=>?_)|fail)
 by_cases he1:e1=0
 ·subst he1
  rw[if_neg (fun h=>h rfl)]
  refine aa.he (HE.bV (V:=bz c.ao) (V2:=bz s1) (w0:=w) (F:=F) (D:=(fun _=>False)) (y:=⟨.slice p1 c.ao.ts.length c1,.slice p2 c.ao.ps.length c2,.slice p3 c.ao.ps.length c3⟩) (bz.fr _) (bz.lt _) (bz.mo _) ak bO (fun _=>aH) rfl rfl (fun w' hw' hh=>by have:=eZ _ _ c.ao ⟨.slice p1 c.ao.ts.length c1,.slice p2 c.ao.ps.length c2,.slice p3 c.ao.ps.length c3⟩ (.slice fp f.params.length fc) f.params w' hh (hf.1.aP (show Ext w w' from hw'.at) (fun _ _ _ h=>h)) hs.some hs.at_.1 hs.at_.2;rw[hr1]at this;exact this.mono fun _ _ g=>oK.to g)) rfl ?_
  rintro⟨D1,x1⟩ _
  refine aa.pure (φ:=∃q1 d1 q2 d2 q3 d3,x1=⟨.slice q1 s1.ts.length d1,.slice q2 s1.ps.length d2,.slice q3 s1.ps.length d3⟩) (fun w' hw'=>by obtain⟨q1,d1,q2,d2,q3,d3,e,-⟩:=(hw'.an (V:=bz s1) (w0:=w) (F:=F) (D:=D1) (y:=x1) ak bO).gx;exact⟨q1,d1,q2,d2,q3,d3,e⟩) ?_
  rintro⟨r1,rc1,r2,rc2,r3,rc3,rfl⟩
  dsimp only[gw]
  repeat'(first|refine ar ?_|(refine NS fun b_=>?_)|fail)
  refine aa.he (HE.bV (V:=bz s1) (V2:=bz (aS s1 f.results)) (tf:=fun y=>.agg (gw (aS s1 f.results) y).toArray) (w0:=w) (F:=F) (D:=D1) (y:=⟨.slice r1 s1.ts.length rc1,.slice r2 s1.ps.length rc2,.slice r3 s1.ps.length rc3⟩) (bz.fr _) (bz.lt _) (bz.mo _) ak bO (fun _=>aH) rfl rfl (fun w' hw' hh=>kf _ s1 ⟨.slice r1 s1.ts.length rc1,.slice r2 s1.ps.length rc2,.slice r3 s1.ps.length rc3⟩ (.slice fq f.results.length fd) f.results w' hh (kl hf.2 hw'.at _) Pc)) rfl ?_
  rintro⟨D4,x4⟩ _
  dsimp only
  obtain⟨s4,hs4⟩:∃s,aS s1 f.results=s:=⟨_,rfl⟩
  rw[hs4]
  refine aa.pure (φ:=∃q1 d1 q2 d2 q3 d3,x4=⟨.slice q1 s4.ts.length d1,.slice q2 s4.ps.length d2,.slice q3 s4.ps.length d3⟩) (fun w' hw'=>by obtain⟨q1,d1,q2,d2,q3,d3,e,-⟩:=(hw'.an (V:=bz s4) (w0:=w) (F:=F) (D:=D4) (y:=x4) ak bO).gx;exact⟨q1,d1,q2,d2,q3,d3,e⟩) ?_
  rintro⟨v1,vc1,v2,vc2,v3,vc3,rfl⟩
  dsimp only[gw]
  repeat'(first|refine ar ?_|fail)
  refine MI ?_
  rintro⟨⟩ _
  repeat'(first|refine ar ?_|fail)
  refine Mv ?_
  exact fun w' hw'=>gC.ao (D:=D4) ⟨.slice v1 s4.ts.length vc1,.slice v2 s4.ps.length vc2,.slice v3 s4.ps.length vc3⟩ h hw' ak bO
 ·rw[if_pos he1]
  refine aa.he (HE.bV (V:=bz c.ao) (V2:=ky) (w0:=w) (F:=F) (D:=(fun _=>False)) (y:=⟨.slice p1 c.ao.ts.length c1,.slice p2 c.ao.ps.length c2,.slice p3 c.ao.ps.length c3⟩) ky.fr ky.lt ky.mo ak bO (fun _=>aH) rfl rfl (fun w' hw' hh=>by have:=eZ _ _ c.ao ⟨.slice p1 c.ao.ts.length c1,.slice p2 c.ao.ps.length c2,.slice p3 c.ao.ps.length c3⟩ (.slice fp f.params.length fc) f.params w' hh (hf.1.aP (show Ext w w' from hw'.at) (fun _ _ _ h=>h)) hs.some hs.at_.1 hs.at_.2;rw[hr1]at this;exact this.mono fun _ _ g=>oK.qW g)) rfl ?_
  rintro⟨D2,x2⟩ _
  refine Mw ?_
  rintro⟨q1,n1,d1,q2,n2,d2,q3,n3,d3,rfl⟩
  dsimp only[gw]
  repeat'(first|refine ar ?_|(refine NS fun b_=>?_)|fail)
  all_goals exact rt
def gk (c:gA):gA:=if c.fs.length=0 then c else o9 c
theorem ox (h:cG c F w y) (hfl:c.fs.length≤1000000) (hs:c.ao.Wf) (hpl:c.ao.ps.length≤1000000):Calls G.P 69 #[.agg (eN c y).toArray] w (bD (cG (gk c)) (fun y=>.agg (eN (gk c) y).toArray) F w):=by
 by_cases hn:c.fs.length=0
 ·rw[show gk c=c from if_pos hn]
  have hn':(c.fs.length:Int)=0:=by omega
  obtain⟨p1,c1,p2,c2,p3,c3,p4,c4,p5,c5,ey,k4,h4,kz⟩:=h.gx
  obtain⟨y,fv,rv,z⟩:=y
  cases ey
  refine ae (l:=[_]) func69 rfl ntmps69 rfl (Ok.fg (V:=bz c.ao) (bz.fr c.ao) (bz.lt c.ao) h.1) ?_
  dsimp only[eN]
  repeat'(first|refine ar ?_|(refine NQ fun b_=>?_)|fail)
  all_goals first|omega|skip
  refine Mj ?_
  intro w' hw'
  have hE:Ext w w':=hw'.at
  exact⟨⟨(⟨⟨.slice p1 c.ao.ts.length c1,.slice p2 c.ao.ps.length c2,.slice p3 c.ao.ps.length c3⟩,.slice p4 c.fs.length c4,.slice p5 c.results.length c5,z⟩:jE),rfl,(cG.fr c h hE (fun _ _ _ h=>h)).mono fun _ h=>.inl h⟩,hE⟩
 ·rw[show gk c=o9 c from if_neg hn]
  exact BI F c y w h Pc hfl hs.some hs.at_.1 hs.at_.2 hpl
def lV (c:gA) (l:List Int) (e:Int):gA×Int:=if e≠0 then(c,e)else if(ki c ⟨l,[]⟩).2≠0 then(c,(ki c ⟨l,[]⟩).2)else(gk (ki c ⟨l,[]⟩).1,0)
theorem qM (h:cG c F w y) (l:List Int) (lp:Option Addr) (ln lc:Nat) (e:Int) (hl:e=0→ln=l.length∧ai F w (.slice lp ln lc) l) (hfl:c.fs.length≤1000000) (hs:c.ao.Wf) (hpl:c.ao.ps.length≤1000000) (_hb:c.ao.ts.length≤17592186044416):Calls G.P 70 #[.agg (eN c y).toArray,.slice lp ln lc,.int .i64 e] w (gC (lV c l e) F w):=by
 have hh:=h
 obtain⟨p1,c1,p2,c2,p3,c3,p4,c4,p5,c5,ey,k4,h4,kz⟩:=h.gx
 obtain⟨y,fv,rv,z⟩:=y
 cases ey
 unfold lV
 by_cases he:e=0
 ·subst he
  obtain⟨rfl,hl⟩:=hl rfl
  rw[if_neg (fun h=>h rfl)]
  have htk:∀w',Ext w w'→Calls G.P 73 #[.agg (eN c ⟨⟨.slice p1 c.ao.ts.length c1,.slice p2 c.ao.ps.length c2,.slice p3 c.ao.ps.length c3⟩,.slice p4 c.fs.length c4,.slice p5 c.results.length c5,z⟩).toArray,.agg #[.slice lp l.length lc,.slice none 0 0]] w' (gC (ki c ⟨l,[]⟩) (AF F w (fun _=>False)) w'):=fun w' hx=>oz _ c _ w' ((cG.fr c (cG.lt c h) hx (fun _ _ _ h=>h)).mono fun _ hk=>.inl hk) ⟨l,[]⟩ lp none lc 0 ⟨kl hl hx _,ai.cI _ _⟩ hs (by show c.ao.ts.length+0≤_;omega)
  generalize htt:ki c ⟨l,[]⟩=r at htk ⊢
  obtain⟨cc,e2⟩:=r
  have hcf:cc.fs=c.fs∧cc.results=c.results∧cc.ao.Wf∧cc.ao.ps=c.ao.ps:=by
   have h1:(ki c ⟨l,[]⟩).1=cc:=by rw[htt]
   rw[←h1]
   exact⟨rfl,rfl,vv hs _,vu _ _⟩
  refine ae (l:=[_,_,_]) func70 rfl ntmps70 rfl (Ok.fg (V:=cG c) (cG.fr c) (cG.lt c) h) ?_
  dsimp only[eN]at htk ⊢
  repeat'(first|refine ar ?_|(refine NQ fun b_=>?_)|fail)
  refine aa.he (HE.bV (V:=cG c) (V2:=fX (cc,e2)) (tf:=fun x=>.tuple #[.agg x.2.toArray,.int .i64 e2]) (w0:=w) (F:=F) (D:=fun _=>False) (y:=⟨⟨.slice p1 c.ao.ts.length c1,.slice p2 c.ao.ps.length c2,.slice p3 c.ao.ps.length c3⟩,.slice p4 c.fs.length c4,.slice p5 c.results.length c5,z⟩) (fX.fr _) (fX.lt _) (fX.mo _) ak bO (fun _=>aH) rfl rfl (fun w' hw' _=>htk w' hw'.at)) rfl ?_
  rintro⟨D1,y1,l1⟩ _
  by_cases he2:e2=0
  ·subst he2
   rw[if_neg (fun h=>h rfl)]
   refine aa.pure (φ:=∃a1 k1 a2 k2 a3 k3 a4 k4 a5 k5,∃zz:List vC,y1=⟨⟨.slice a1 cc.ao.ts.length k1,.slice a2 cc.ao.ps.length k2,.slice a3 cc.ao.ps.length k3⟩,.slice a4 cc.fs.length k4,.slice a5 cc.results.length k5,zz⟩∧l1=eN cc y1) (fun w' hw'=>by have hv:=hw'.an (V:=fX (cc,0)) (w0:=w) (F:=F) (D:=D1) (y:=(y1,l1)) ak bO;obtain⟨h1,h2⟩:=hv.2 rfl;obtain⟨p1,c1,p2,c2,p3,c3,p4,c4,p5,c5,e,-⟩:=h2.gx;exact⟨p1,c1,p2,c2,p3,c3,p4,c4,p5,c5,_,e,h1⟩) ?_
   rintro⟨a1,k1,a2,k2,a3,k3,a4,k4',a5,k5,zz,rfl,rfl⟩
   refine aa.tk (V:=fX (cc,0)) (V2:=cG cc) (w0:=w) (F:=F) (D:=D1) (⟨⟨.slice a1 cc.ao.ts.length k1,.slice a2 cc.ao.ps.length k2,.slice a3 cc.ao.ps.length k3⟩,.slice a4 cc.fs.length k4',.slice a5 cc.results.length k5,zz⟩:jE) aH (fun D w h=>(h.2 rfl).2) ?_
   dsimp only[eN]
   repeat'(first|refine ar ?_|(refine NS fun b_=>?_)|fail)
   refine aa.he (HE.bV (V:=cG cc) (V2:=cG (gk cc)) (tf:=fun y=>.agg (eN (gk cc) y).toArray) (w0:=w) (F:=F) (D:=D1) (y:=⟨⟨.slice a1 cc.ao.ts.length k1,.slice a2 cc.ao.ps.length k2,.slice a3 cc.ao.ps.length k3⟩,.slice a4 cc.fs.length k4',.slice a5 cc.results.length k5,zz⟩) (cG.fr _) (cG.lt _) (cG.mo _) ak bO (fun _=>aH) rfl rfl (fun w' _ hh=>ox _ cc ⟨⟨.slice a1 cc.ao.ts.length k1,.slice a2 cc.ao.ps.length k2,.slice a3 cc.ao.ps.length k3⟩,.slice a4 cc.fs.length k4',.slice a5 cc.results.length k5,zz⟩ w' hh (by rw[hcf.1];exact hfl) hcf.2.2.1 (by rw[hcf.2.2.2];exact hpl))) rfl ?_
   rintro⟨D5,y5⟩ _
   refine aa.pure (φ:=∃a1 n1 c1 a2 n2 c2 a3 n3 c3 a4 n4 c4 a5 n5 c5,∃z:List vC,y5=⟨⟨.slice a1 n1 c1,.slice a2 n2 c2,.slice a3 n3 c3⟩,.slice a4 n4 c4,.slice a5 n5 c5,z⟩) (fun w' hw'=>by obtain⟨p1,c1,p2,c2,p3,c3,p4,c4,p5,c5,e,-⟩:=(hw'.an (V:=cG (gk cc)) (w0:=w) (F:=F) (D:=D5) (y:=y5) ak bO).gx;exact⟨p1,_,c1,p2,_,c2,p3,_,c3,p4,_,c4,p5,_,c5,_,e⟩) ?_
   rintro⟨t1,m1,j1,t2,m2,j2,t3,m3,j3,t4,m4,j4,t5,m5,j5,z5,rfl⟩
   dsimp only[eN]
   repeat'(first|refine ar ?_|fail)
   refine Mv ?_
   exact fun w' hw'=>gC.ok (c:=gk cc) ⟨⟨.slice t1 m1 j1,.slice t2 m2 j2,.slice t3 m3 j3⟩,.slice t4 m4 j4,.slice t5 m5 j5,z5⟩ (hw'.new (V:=cG (gk cc)) (w:=w) (F:=F) (D:=D5) (y:=⟨⟨.slice t1 m1 j1,.slice t2 m2 j2,.slice t3 m3 j3⟩,.slice t4 m4 j4,.slice t5 m5 j5,z5⟩) (cG.mo _) ak bO) hw'.at
  ·rw[if_pos he2]
   refine aa.pure (φ:=fG l1) (fun w' hw'=>(hw'.an (V:=fX (cc,e2)) (w0:=w) (F:=F) (D:=D1) (y:=(y1,l1)) ak bO).1) ?_
   rintro⟨a1,n1,k1,a2,n2,k2,a3,n3,k3,mm,a4,n4,k4',a5,n5,k5,bb,rfl⟩
   dsimp only
   repeat'(first|refine ar ?_|(refine NS fun b_=>?_)|fail)
   all_goals exact rt
 ·rw[if_pos he]
  refine ae (l:=[_,_,_]) func70 rfl ntmps70 rfl (Ok.fg (V:=bz c.ao) (bz.fr c.ao) (bz.lt c.ao) h.1) ?_
  dsimp only[eN]
  repeat'(first|refine ar ?_|(refine NQ fun b_=>?_)|fail)
  all_goals exact rt
def ia (s:ck) (op:Int):ck×Int:=
 if(if op=27 then aK s [1]else(s,0)).2≠0 then(if op=27 then aK s [1]else(s,0))else
 if(aY (if op=27 then aK s [1]else(s,0)).1).2.2≠0 then((aY (if op=27 then aK s [1]else(s,0)).1).1,(aY (if op=27 then aK s [1]else(s,0)).1).2.2)else
 if op=26 then((aY s).1,0)else
 if op=209 then(if(aY s).2.1=1∨(aY s).2.1=2 then((aY s).1,12)else(aS (aY s).1 [1],0))else
 if(aY (aY (aK s [1]).1).1).2.2≠0 then((aY (aY (aK s [1]).1).1).1,(aY (aY (aK s [1]).1).1).2.2)else
 if(aY (aK s [1]).1).2.1=3∨(aY (aK s [1]).1).2.1=4∨(aY (aY (aK s [1]).1).1).2.1=3∨(aY (aY (aK s [1]).1).1).2.1=4∨((aY (aK s [1]).1).2.1≠(aY (aY (aK s [1]).1).1).2.1∧(aY (aK s [1]).1).2.1≠0∧(aY (aY (aK s [1]).1).1).2.1≠0)then((aY (aY (aK s [1]).1).1).1,12)
 else(aS (aY (aY (aK s [1]).1).1).1 [if(aY (aK s [1]).1).2.1=0 then(aY (aY (aK s [1]).1).1).2.1 else(aY (aK s [1]).1).2.1],0)
theorem jO:(aY s).1.ts.length≤s.ts.length:=by
 unfold aY
 split
 ·dsimp only;rw[Ps];omega
 ·split<;>exact Pr _
theorem ow (F D2:Nat→Prop) (s:ck) (y:jV) (v:Value) (xs:List Int) (w:World) (h:bz s F w y) (hI:ai D2 w v xs) (_hb:s.ts.length+xs.length≤17592186044416):Calls G.P 113 #[.agg (gw s y).toArray,v] w (IC (aS s xs) F w):=by
 obtain⟨p1,c1,p2,c2,p3,c3,rfl,k1,k2,k3⟩:=h.gx
 obtain⟨h1,h2,h3,-⟩:=h
 obtain⟨q,d,rfl,hl⟩:=hI.slice
 dsimp only at h1 h2 h3
 refine ae (l:=[_,_]) func113 rfl ntmps113 rfl (Ok.start w) ?_
 dsimp only[gw]
 repeat'(first|refine ar ?_|(refine aE fun b_=>?_)|(refine dy fun b_=>?_)|fail)
 refine aa.iN 0 fT 1 ?_
 refine aa.he (HE.gP (aZ s.ts) rfl rfl (fun _=>aH) (jL h1 ak) O9 rfl rfl rfl Pe Pe Pe (fj _) (by show(0+s.ts.length)*8≤_;omega) Pc (fun _ _=>Po _)) rfl ?_
 intro v1 _
 simp only[Pm,Pi]
 refine aa.pure (φ:=∃p c,v1=.slice p s.ts.length c) (fun w' hw'=>?_) ?_
 ·obtain⟨p,c,e,_⟩:=aw (hw'.own (v:=v1));exact⟨p,c,e⟩
 rintro⟨p4,c4,rfl⟩
 repeat'(first|refine ar ?_|fail)
 refine aa.he (HE.gP (aZ xs) rfl rfl (fun _=>aH) (jL hI ak) O9 rfl rfl rfl Pe Pe Pe (fj _) (by show(s.ts.length+xs.length)*8≤_;omega) Pc (fun _ _=>Po _)) rfl ?_
 intro v2 _
 refine aa.pure (φ:=∃p c,v2=.slice p (s.ts.length+xs.length) c∧s.ts.length+xs.length≤c) (fun w' hw'=>?_) ?_
 ·obtain⟨p,c,e,h,_⟩:=aw (hw'.own (v:=v2));exact⟨p,c,e,h⟩
 rintro⟨p5,c5,rfl,k5⟩
 repeat'(first|refine ar ?_|fail)
 refine aa.he (HE.yl (Yl.I7 rfl rfl)) rfl ?_
 rintro⟨⟩ _
 repeat'(first|refine ar ?_|fail)
 refine ah.bB (.inl rfl) rfl rfl rfl rfl rfl aH rfl fun w' hw'=>⟨⟨(⟨.slice p5 (s.ts.length+xs.length) c5,.slice p2 s.ps.length c2,.slice p3 s.ps.length c3⟩:jV),?_,n9 (s.ts++xs) hw' ak bO Pd O9 O8,h2.kc hw' ak,jo.kc h3 hw' ak,k5,k2,k3⟩,hw'.at⟩
 dsimp only[gw,aS]
 rw[CE]
theorem uF (h:cG c F w y) (op:Int) (_ho:op=26) (hs:c.ao.Wf):Calls G.P 75 #[.agg (eN c y).toArray,.int .i64 op] w (gC (if(aY c.ao).2.2≠0 then(c,(aY c.ao).2.2)else({c with ao:=(aY c.ao).1},0)) F w):=by
 obtain⟨p1,c1,p2,c2,p3,c3,p4,c4,p5,c5,ey,k4,h4,kz⟩:=h.gx
 obtain⟨y,fv,rv,z⟩:=y
 cases ey
 refine MK ?_
 dsimp only[eN]
 repeat'(first|refine ar ?_|(refine NQ fun b_=>?_)|fail)
 obtain⟨b6,rfl⟩:∃y:Nat,y=b_:=⟨_,rfl⟩
 refine MM ?_
 rintro⟨D1,x1⟩ _
 obtain⟨pr1,hpr1⟩:∃r,aY c.ao=r:=⟨_,rfl⟩
 rw[hpr1]
 have wf1:pr1.1.Wf:=by rw[←hpr1];exact jn hs
 have pl1:pr1.1.ts.length≤c.ao.ts.length:=by rw[←hpr1];exact jO c.ao
 obtain⟨s1,a1,e1⟩:=pr1
 dsimp only at wf1 pl1 ⊢
 refine aa.pure (φ:=∃q1 d1 q2 d2 q3 d3,x1=⟨.slice q1 s1.ts.length d1,.slice q2 s1.ps.length d2,.slice q3 s1.ps.length d3⟩) (fun w' hw'=>by obtain⟨q1,d1,q2,d2,q3,d3,e,-⟩:=(hw'.an (V:=bz s1) (w0:=w) (F:=F) (D:=D1) (y:=x1) ak bO).gx;exact⟨q1,d1,q2,d2,q3,d3,e⟩) ?_
 rintro⟨r1,rc1,r2,rc2,r3,rc3,rfl⟩
 dsimp only[gw]
 by_cases he:e1=0
 ·subst he
  rw[if_neg (fun h=>h rfl)]
  repeat'(first|refine ar ?_|fail)
  refine MG ?_
  rintro⟨⟩ _
  repeat'(first|refine ar ?_|fail)
  refine Mv ?_
  exact fun w' hw'=>gC.ao (D:=D1) ⟨.slice r1 s1.ts.length rc1,.slice r2 s1.ps.length rc2,.slice r3 s1.ps.length rc3⟩ h hw' ak bO
 ·rw[if_pos he]
  repeat'(first|refine ar ?_|fail)
  all_goals exact rt
theorem sM (h:cG c F w y) (op:Int) (ho:op=209) (hs:c.ao.Wf) (hb:c.ao.ts.length+1≤17592186044416):Calls G.P 75 #[.agg (eN c y).toArray,.int .i64 op] w (gC (if(aY c.ao).2.2≠0 then(c,(aY c.ao).2.2)else if(aY c.ao).2.1=1∨(aY c.ao).2.1=2 then(c,12)else({c with ao:=aS (aY c.ao).1 [1]},0)) F w):=by
 have:=ho;clear this;have:=hb;clear this
 obtain⟨p1,c1,p2,c2,p3,c3,p4,c4,p5,c5,ey,k4,h4,kz⟩:=h.gx
 obtain⟨y,fv,rv,z⟩:=y
 cases ey
 refine MK ?_
 dsimp only[eN]
 repeat'(first|refine ar ?_|(refine NQ fun b_=>?_)|(refine bC ?_ ?_<;>intro hc_))
 obtain⟨b6,rfl⟩:∃y:Nat,y=b_:=⟨_,rfl⟩
 refine MM ?_
 rintro⟨D1,x1⟩ _
 obtain⟨pr1,hpr1⟩:∃r,aY c.ao=r:=⟨_,rfl⟩
 rw[hpr1]
 have wf1:pr1.1.Wf:=by rw[←hpr1];exact jn hs
 have pl1:pr1.1.ts.length≤c.ao.ts.length:=by rw[←hpr1];exact jO c.ao
 obtain⟨s1,a1,e1⟩:=pr1
 dsimp only at wf1 pl1 ⊢
 refine aa.pure (φ:=∃q1 d1 q2 d2 q3 d3,x1=⟨.slice q1 s1.ts.length d1,.slice q2 s1.ps.length d2,.slice q3 s1.ps.length d3⟩) (fun w' hw'=>by obtain⟨q1,d1,q2,d2,q3,d3,e,-⟩:=(hw'.an (V:=bz s1) (w0:=w) (F:=F) (D:=D1) (y:=x1) ak bO).gx;exact⟨q1,d1,q2,d2,q3,d3,e⟩) ?_
 rintro⟨r1,rc1,r2,rc2,r3,rc3,rfl⟩
 dsimp only[gw]
 by_cases he:e1=0
 ·subst he
  rw[if_neg (fun h=>h rfl)]
  by_cases hbad:a1=1∨a1=2
  ·rw[if_pos hbad]
   repeat'(first|refine ar ?_|(refine bC ?_ ?_<;>intro hc_))
   all_goals exact rt
  ·rw[if_neg hbad]
   have n1:a1≠1:=fun h=>hbad (.inl h)
   have n2:a1≠2:=fun h=>hbad (.inr h)
   repeat'(first|refine ar ?_|(refine bC ?_ ?_<;>intro hc_))
   refine bh.iA 5 [.aV b6 [.slice r1 s1.ts.length rc1,.slice r2 s1.ps.length rc2,.slice r3 s1.ps.length rc3,.int .i64 s1.bQ] nR] [Ext w] bw aU ?_
   repeat'(first|refine CV ?_|(refine bA.lD ?_;refine bA.he rfl rfl (HE.jJ rfl rfl rfl rfl rfl ep Pe Pe) (fun _=>bw) (fun _=>aU) ?_;rintro bl _)|(refine bA.dz 118 ?_;refine bA.he rfl rfl (HE.eK rfl rfl (fun w' hw'=>gq _ _ _ w')) (fun _=>bw) (fun _=>aU) ?_;rintro⟨⟩ _)|(refine bA.dz 113 ?_;refine bA.he rfl rfl (HE.bV (V:=bz s1) (V2:=bz (aS s1 [1])) (tf:=fun y=>.agg (gw (aS s1 [1]) y).toArray) (w0:=w) (F:=F) (D:=D1) (y:=⟨.slice r1 s1.ts.length rc1,.slice r2 s1.ps.length rc2,.slice r3 s1.ps.length rc3⟩) (bz.fr _) (bz.lt _) (bz.mo _) ak bO (fun _=>aH) rfl rfl (fun w' hw' hh=>ow _ (fun k=>k=bl) s1 ⟨.slice r1 s1.ts.length rc1,.slice r2 s1.ps.length rc2,.slice r3 s1.ps.length rc3⟩ (.slice (some ⟨bl,0,none⟩) 1 1) [1] w' hh (dJ (hw'.m (.aV bl [.int .i64 1] fT) bO).1) (by show s1.ts.length+1≤_;omega))) (fun _=>bw) (fun _=>aU) ?_;rintro⟨D9,x9⟩ _;refine db.pure (φ:=∃q1 d1 q2 d2 q3 d3,x9=⟨.slice q1 (aS s1 [1]).ts.length d1,.slice q2 (aS s1 [1]).ps.length d2,.slice q3 (aS s1 [1]).ps.length d3⟩) (fun w' hw'=>by obtain⟨q1,d1,q2,d2,q3,d3,e,-⟩:=(hw'.an (V:=bz (aS s1 [1])) (w0:=w) (F:=F) (D:=D9) (y:=x9) ak bO).gx;exact⟨q1,d1,q2,d2,q3,d3,e⟩) ?_;rintro⟨v1,vc1,v2,vc2,v3,vc3,rfl⟩;dsimp only[gw])|(refine bA.iM rfl (gj.ir [.slice v1 (aS s1 [1]).ts.length vc1,.slice v2 (aS s1 [1]).ps.length vc2,.slice v3 (aS s1 [1]).ps.length vc3,.int .i64 (aS s1 [1]).bQ] [.slice v1 (aS s1 [1]).ts.length vc1,.slice v2 (aS s1 [1]).ps.length vc2,.slice v3 (aS s1 [1]).ps.length vc3,.int .i64 (aS s1 [1]).bQ,.slice p4 c.fs.length c4,.slice p5 c.results.length c5,.int .i64 0] rfl rfl rfl rfl rfl rfl aH rfl rfl) ?_;rintro⟨⟩ _)|refine db.any O3 ?_|exact cw.fin rfl|refine cw.skip O3 ?_|refine cw.go ?_ ?_)
   all_goals
    repeat'(first|refine ar ?_|(refine bC ?_ ?_<;>intro hc_))
    refine Mv ?_
    exact fun w' hw'=>gC.ao (s:=(aS s1 [1])) (D:=D9) ⟨.slice v1 (aS s1 [1]).ts.length vc1,.slice v2 (aS s1 [1]).ps.length vc2,.slice v3 (aS s1 [1]).ps.length vc3⟩ h hw' ak bO
 ·rw[if_pos he]
  repeat'(first|refine ar ?_|(refine bC ?_ ?_<;>intro hc_))
  all_goals exact rt
def dp (s:ck):Nat→ck×List Int×Int
 |0=>(s,[],0)
 |n+1=>if(aY s).2.2≠0 then(s,[],(aY s).2.2)else if(dp (aY s).1 n).2.2≠0 then((dp (aY s).1 n).1,[],(dp (aY s).1 n).2.2)else((dp (aY s).1 n).1,(dp (aY s).1 n).2.1++[(aY s).2.1],0)
def vL (r:ck×List Int×Int) (o:List Int):ck×List Int×Int:=if r.2.2≠0 then(r.1,[],r.2.2)else(r.1,r.2.1++o,0)
theorem xx (k:Nat) (o:List Int):vL (dp s (k+1)) o=if(aY s).2.2≠0 then(s,[],(aY s).2.2)else vL (dp (aY s).1 k) ((aY s).2.1::o):=by
 rw[dp]
 by_cases h1:(aY s).2.2≠0
 ·rw[if_pos h1,if_pos h1];unfold vL;rw[if_pos h1]
 ·rw[if_neg h1,if_neg h1]
  by_cases h2:(dp (aY s).1 k).2.2≠0
  ·rw[if_pos h2];unfold vL;rw[if_pos h2,if_pos h2]
  ·rw[if_neg h2];unfold vL;rw[if_neg h2,if_neg (fun h=>h rfl)]
   show(_,(dp (aY s).1 k).2.1++[(aY s).2.1]++o,(0:Int))=_
   rw[List.append_assoc];rfl
theorem aN.map {Q:Exit→Act→World→Prop} {Mc:List bu} {Rc:List (World→Prop)} {n fuel:Nat} {listed:Array Bool} {E:Env} {M M':List bu} {R R':List (World→Prop)} (hp:∀w,Ok M R w→Ok M' R' w) (h:aN l Q Mc Rc n fuel listed E M' R'):aN l Q Mc Rc n fuel listed E M R:=⟨fun w hw=>h.h w (hp w hw)⟩
theorem G0 {M:List bu} {R:List (World→Prop)} {up:Option Addr} {uc B:Nat} {o:List Int} (hm:bu.own B fT 1 (.slice up o.length uc) o.length (aZ o)∈M) (hup:o.length=0∨∃g,up=some ⟨g,0,none⟩):o.length=0∨∃bk o',up=some ⟨bk,o',none⟩∧∀w',Ok M R w'→∀j u,(aZ o)[j]?=some u→w'.cell? ⟨bk,o'+j,none⟩=some u:=by
 rcases hup with h|⟨g,rfl⟩
 ·exact .inl h
 ·refine .inr ⟨g,0,rfl,fun w' hw' j u hj=>?_⟩
  rw[Pm]
  exact dO (hw'.m _ hm).1 hj
theorem mN:(aY s).1.bQ=s.bQ:=by
 unfold aY
 split
 ·rfl
 ·split<;>rfl
def AW (r:ck×List Int×Int) (D:Nat→Prop) (w:World) (x:jV×Value):Prop:=x.1.Sl∧(∃p n c,x.2=.slice p n c)∧(r.2.2=0→bz r.1 D w x.1∧ai D w x.2 r.2.1)
theorem AW.fr:vE (AW r):=fun h hc hd=>⟨h.1,h.2.1,fun e=>⟨bz.fr _ (h.2.2 e).1 hc hd,(h.2.2 e).2.aP hc hd⟩⟩
theorem AW.lt:Eu (AW r):=fun h=>⟨h.1,h.2.1,fun e=>⟨bz.lt _ (h.2.2 e).1,(h.2.2 e).2.mono fun _ hk hd=>⟨hd,hk⟩⟩⟩
theorem AW.mo:yX (AW r):=fun hd h=>⟨h.1,h.2.1,fun e=>⟨bz.mono (h.2.2 e).1 hd,(h.2.2 e).2.mono fun k _ hk=>hd k hk⟩⟩
theorem BN (y:jV) (n:Nat) (w:World) (h:bz s F w y) (hs:s.Wf) (_hn:n≤17592186044415):Calls G.P 119 #[.agg (gw s y).toArray,.int .i64 n] w (bD (AW (dp s n)) (fun x=>.tuple #[.agg #[x.1.l,x.1.m,x.1.o,.int .i64 s.bQ],x.2,.int .i64 (dp s n).2.2]) F w):=by
 obtain⟨p1,c1,p2,c2,p3,c3,rfl,k1,k2,k3⟩:=h.gx
 refine ae (l:=[_,_]) func119 rfl ntmps119 rfl (Ok.fg (V:=bz s) (bz.fr s) (bz.lt s) h) ?_
 dsimp only[gw]
 refine ar ?_
 refine aa.box [.slice p1 s.ts.length c1,.slice p2 s.ps.length c2,.slice p3 s.ps.length c3,.int .i64 s.bQ] rfl rfl rfl fun b2=>?_
 repeat'(first|refine ar ?_|(refine NS fun b_=>?_)|fail)
 obtain⟨b4,rfl⟩:∃y:Nat,y=b_:=⟨_,rfl⟩
 refine bh.iN 0 fT 1 ?_
 refine bh.loop (σ:=Nat×ck×List Int×(Nat→Prop)×Option Addr×Nat×Option Addr×Nat×Option Addr×Nat×Option Addr×Nat) (fun q=>[(1,.int .i64 n),(2,.pointer (some ⟨b2,0,none⟩)),(4,.pointer (some ⟨b4,0,none⟩)),(7,.slice q.2.2.2.2.1 q.2.2.1.length q.2.2.2.2.2.1),(8,.int .i64 q.1)])
  (fun q=>[.own 0 fT 1 (.slice q.2.2.2.2.1 q.2.2.1.length q.2.2.2.2.2.1) q.2.2.1.length (aZ q.2.2.1),.aV b4 [.slice none 0 0,.slice none 0 0,.slice none 0 0,.int .i64 0] nR,.aV b2 [.slice q.2.2.2.2.2.2.1 q.2.1.ts.length q.2.2.2.2.2.2.2.1,.slice q.2.2.2.2.2.2.2.2.1 q.2.1.ps.length q.2.2.2.2.2.2.2.2.2.1,.slice q.2.2.2.2.2.2.2.2.2.2.1 q.2.1.ps.length q.2.2.2.2.2.2.2.2.2.2.2,.int .i64 s.bQ] nR,bu.an (bz q.2.1) w F q.2.2.2.1 ⟨.slice q.2.2.2.2.2.2.1 q.2.1.ts.length q.2.2.2.2.2.2.2.1,.slice q.2.2.2.2.2.2.2.2.1 q.2.1.ps.length q.2.2.2.2.2.2.2.2.2.1,.slice q.2.2.2.2.2.2.2.2.2.2.1 q.2.1.ps.length q.2.2.2.2.2.2.2.2.2.2.2⟩])
  (fun _=>[Ext w]) (fun q=>q.1≤n∧q.2.1.Wf∧q.2.1.bQ=s.bQ∧q.2.2.1.length=q.1∧dp s n=vL (dp q.2.1 (n - q.1)) q.2.2.1) (fun q=>n - q.1) (0,s,[],(fun _=>False),none,0,p1,c1,p2,c2,p3,c3) bH ?_ aU ⟨Nat.zero_le _,hs,rfl,rfl,?_⟩ ?_
 ·dsimp only
  exact bw
 ·dsimp only
  rw[Nat.sub_zero]
  unfold vL
  by_cases he:(dp s n).2.2≠0
  ·rw[if_pos he]
   cases n with
   |zero=>exact absurd rfl he
   |succ n=>
    rw[dp]at he ⊢
    by_cases h1:(aY s).2.2≠0
    ·rw[if_pos h1]
    ·rw[if_neg h1]at he ⊢
     by_cases h2:(dp (aY s).1 n).2.2≠0
     ·rw[if_pos h2]
     ·rw[if_neg h2]at he;exact absurd rfl he
  ·rw[if_neg he,List.append_nil]
   have:(dp s n).2.2=0:=Classical.byContradiction he
   rw[←this]
 rintro⟨i,s1,o,D1,up,uc,q1,d1,q2,d2,q3,d3⟩ ⟨hi,wf1,hms,ho,hpk⟩
 dsimp only at hi wf1 hms ho hpk ⊢
 by_cases hin:i<n
 ·have hk:n - i=(n - (i+1))+1:=by omega
  rw[hk,xx]at hpk
  repeat'(first|refine ar ?_|(refine NS fun b_=>?_)|fail)
  refine aa.he (HE.bV (V:=bz s1) (V2:=bz (aY s1).1) (tf:=fun y=>.tuple #[.agg #[y.l,y.m,y.o,.int .i64 s.bQ],.int .i64 (aY s1).2.1,.int .i64 (aY s1).2.2]) (w0:=w) (F:=F) (D:=D1) (y:=⟨.slice q1 s1.ts.length d1,.slice q2 s1.ps.length d2,.slice q3 s1.ps.length d3⟩) (bz.fr _) (bz.lt _) (bz.mo _) ak bO (fun _=>aH) rfl rfl (fun w' _ hh=>by have:=kJ _ s1 ⟨.slice q1 s1.ts.length d1,.slice q2 s1.ps.length d2,.slice q3 s1.ps.length d3⟩ w' hh wf1.some wf1.at_.1;unfold gw at this;rw[mN,hms]at this;exact this)) rfl ?_
  rintro⟨D2,x2⟩ _
  obtain⟨pr,hpr⟩:∃r,aY s1=r:=⟨_,rfl⟩
  have za:(aY s1).1.Wf:=jn wf1
  have hm2:(aY s1).1.bQ=s.bQ:=by rw[mN,hms]
  rw[hpr]at hpk za hm2 ⊢
  obtain⟨s2,a,e⟩:=pr
  dsimp only at hpk za hm2 ⊢
  refine aa.pure (φ:=∃q1 d1 q2 d2 q3 d3,x2=⟨.slice q1 s2.ts.length d1,.slice q2 s2.ps.length d2,.slice q3 s2.ps.length d3⟩) (fun w' hw'=>by obtain⟨q1,d1,q2,d2,q3,d3,e,-⟩:=(hw'.an (V:=bz s2) (w0:=w) (F:=F) (D:=D2) (y:=x2) ak bO).gx;exact⟨q1,d1,q2,d2,q3,d3,e⟩) ?_
  rintro⟨r1,l1,r2,l2,r3,l3,rfl⟩
  dsimp only
  by_cases he:e=0
  ·subst he
   rw[if_neg (fun h=>h rfl)]at hpk
   refine aa.pure (φ:=o.length=0∨∃g,up=some ⟨g,0,none⟩) (fun w' hw'=>?_) ?_
   ·obtain⟨p,c,e,_,_,hg⟩:=aw (hw'.own (B:=0) (T:=fT) (v:=.slice up o.length uc))
    cases e
    rcases Nat.eq_zero_or_pos o.length with h0|h0
    ·exact .inl h0
    ·obtain⟨g,hg,_⟩:=hg h0;exact .inr ⟨g,hg⟩
   intro hup
   repeat'(first|refine ar ?_|(refine NS fun b_=>?_)|fail)
   obtain⟨b9,rfl⟩:∃y:Nat,y=b_:=⟨_,rfl⟩
   simp only[List.getElem_toArray,List.getElem_cons_succ,List.getElem_cons_zero]
   refine bh.cF [.aV b9 [.slice r1 s2.ts.length l1,.slice r2 s2.ps.length l2,.slice r3 s2.ps.length l3,.int .i64 s.bQ] nR] [Ext w] bw aU ?_
   repeat'(first|refine pG ?_|(refine ax.lD ?_;refine ax.he rfl rfl (HE.jJ rfl rfl rfl rfl rfl ep Pe Pe) (fun _=>bw) (fun _=>aU) ?_;rintro bl _;refine aN.map (fun w' hw'=>hw'.jP (b:=bl) (len:=1) (s:=1) aH rfl OY) ?_)|(refine ax.rl ?_;refine ax.he rfl rfl (HE.gP (aZ o) rfl rfl (fun _=>aH) (G0 (B:=0) (uc:=uc) bO hup) O9 rfl rfl rfl Pe Pe Pe (fj _) (by show(1+o.length)*8≤_;omega) Pc (fun _ _=>Po _)) (fun _=>bw) (fun _=>aU) ?_;rintro v9 _;refine aN.pure (φ:=∃p cc,v9=.slice p (1+o.length) cc) (fun w' hw'=>by obtain⟨p,cc,e,_⟩:=aw (hw'.own (v:=v9));exact⟨p,cc,e⟩) ?_;rintro⟨up2,uc2,rfl⟩;simp only[Nat.add_comm 1 o.length])|(refine ax.nf ?_;refine ax.jQ rfl (gj.bn _ rfl rfl rfl rfl rfl rfl aH rfl) (fun _=>bw) (fun _=>aU) ?_;rintro⟨⟩ _)|refine aN.nil O3 ?_|refine aN.any O3 ?_|exact aB.fin rfl|refine aB.skip O3 ?_|refine aB.go ?_ ?_)
   all_goals
    repeat'(first|refine ar ?_|fail)
    exact ah.next (i+1,s2,a::o,D2,up2,uc2,r1,l1,r2,l2,r3,l3) bH bw aU ⟨by dsimp only;omega,za,hm2,by simp[ho],hpk⟩ O0
  ·rw[if_pos he]at hpk
   rw[hpk]
   repeat'(first|refine ar ?_|(refine NS fun b_=>?_)|fail)
   all_goals first|omega|skip
   refine MN ?_
   exact fun w' hw'=>⟨⟨(⟨.slice q1 s1.ts.length d1,.slice q2 s1.ps.length d2,.slice q3 s1.ps.length d3⟩,.slice none 0 0),rfl,jV.Sl.mk ..,⟨_,_,_,rfl⟩,fun h=>absurd h he⟩,hw'.at⟩
 ·obtain rfl:i=n:=by omega
  have hf:dp s i=(s1,o,0):=by rw[hpk,Nat.sub_self];rfl
  rw[hf]
  repeat'(first|refine ar ?_|(refine NS fun b_=>?_)|fail)
  refine MN ?_
  exact fun w' hw'=>⟨⟨(⟨.slice q1 s1.ts.length d1,.slice q2 s1.ps.length d2,.slice q3 s1.ps.length d3⟩,.slice up o.length uc),rfl,jV.Sl.mk ..,⟨_,_,_,rfl⟩,fun _=>⟨hw'.new (V:=bz s1) (w:=w) (F:=F) (D:=D1) (bz.mo _) ak bO,n9 (F:=F) o hw' ak bO rfl rfl Pc⟩⟩,hw'.at⟩
theorem sc {x:cv} (h:cW x=true):(fy x.op).isSome=true:=by
 cases hf:(fy x.op).isSome with
 |true=>rfl
 |false=>
  unfold cW at h
  dsimp only at h
  rw[if_pos (.inl hf)]at h
  cases h
theorem Hj:(lL.all fun r=>jW r.1 || (!(decide (r.2.2=1) || decide (r.2.2=2) || decide (r.2.2=3)) && (decide (r.2.2=5) || decide (r.2.2=6) || decide (r.2.2=7) || decide (r.2.2=8) || decide (r.2.2=9) || decide (r.2.2=20) || decide (r.2.2=4) || (fP r.1).isSome) && (!decide (r.2.2=4) || decide (r.1=16) || decide (r.1=210))))=true:=by decide+kernel
theorem Hi (hk:(fy op).isSome=true) (ha:jW op=false):¬(eQ op=1∨eQ op=2∨eQ op=3)∧((eQ op≠5∧eQ op≠6∧eQ op≠7∧eQ op≠8∧eQ op≠9∧eQ op≠20∧eQ op≠4)→(fP op).isSome=true)∧(eQ op=4→op=16∨op=210):=by
 obtain⟨r,hr⟩:=Option.isSome_iff_exists.1 hk
 have h1:=List.all_eq_true.1 Hj r (List.mem_of_find?_eq_some hr)
 have e:r.1=op:=by have:=List.find?_some hr;simpa using this
 have e2:eQ op=r.2.2:=by unfold eQ eE;rw[hr];rfl
 rw[e,ha,←e2]at h1
 generalize eQ op=k at*
 simp only[Bool.false_or,Bool.and_eq_true,Bool.or_eq_true,Bool.not_eq_true',Bool.or_eq_false_iff,decide_eq_true_eq,decide_eq_false_iff_not]at h1
 obtain⟨⟨⟨⟨a1,a2⟩,a3⟩,h2⟩,h3⟩:=h1
 refine⟨by omega,fun⟨b1,b2,b3,b4,b5,b6,b7⟩=>?_,fun h4=>?_⟩
 ·rcases h2 with((((((h|h)|h)|h)|h)|h)|h)|h
  ·exact absurd h b1
  ·exact absurd h b2
  ·exact absurd h b3
  ·exact absurd h b4
  ·exact absurd h b5
  ·exact absurd h b6
  ·exact absurd h b7
  ·exact h
 ·rcases h3 with(h|h)|h
  ·exact absurd h4 h
  ·exact .inl h
  ·exact .inr h
theorem Ef (h:(fP op).isSome=true):da op=((fP op).getD dF,0):=by
 unfold da
 cases hs:fP op with
 |none=>rw[hs]at h;cases h
 |some f=>rfl
theorem F7 {m:af} {locals:List Int} {x:cv} (hk:(fy x.op).isSome=true) (ha:jW x.op=false):fN m locals x=cE m locals x:=by
 obtain⟨h1,h2,h3⟩:=Hi hk ha
 have hr:=zQ x.op
 unfold fN cE kG
 generalize eQ x.op=k at*
 dsimp only
 rw[if_neg h1]
 by_cases h4:k=4
 ·rw[if_pos h4,if_pos h4]
  unfold dY
  cases gH m x.a with
  |none=>rfl
  |some f=>
   dsimp only
   rcases h3 h4 with h|h
   ·rw[if_pos h,if_pos h]
   ·have h16:¬x.op=16:=by omega
    rw[if_neg h16,if_neg h16,h]
    rfl
 rw[if_neg h4,if_neg h4]
 by_cases h5:k=5
 ·rw[if_pos h5,if_pos h5];rfl
 rw[if_neg h5,if_neg h5]
 by_cases h6:k=6
 ·rw[if_pos h6,if_pos h6]
 rw[if_neg h6,if_neg h6]
 by_cases h7:k=7
 ·rw[if_pos h7,if_pos h7];rfl
 rw[if_neg h7,if_neg h7]
 by_cases h8:k=8
 ·rw[if_pos h8,if_pos h8];rfl
 rw[if_neg h8,if_neg h8]
 by_cases h9:k=9
 ·rw[if_pos h9,if_pos h9];rfl
 rw[if_neg h9,if_neg h9]
 have hs:k≠20→da x.op=((fP x.op).getD dF,0):=fun h=>Ef (h2 ⟨h5,h6,h7,h8,h9,h,h4⟩)
 have hk':k=0∨k=10∨k=11∨k=12∨k=13∨k=14∨k=15∨k=16∨k=17∨k=18∨k=19∨k=20:=by omega
 clear h1 h2 h3 h4 h5 h6 h7 h8 h9 hr ha hk
 unfold fD
 rcases hk' with rfl|rfl|rfl|rfl|rfl|rfl|rfl|rfl|rfl|rfl|rfl|rfl
 ·simp[hs]
 ·cases cJ (bL m) x.a<;>cases cJ (bL m) x.b<;>simp[hs]
  rename_i a b
  by_cases he:a.elem=b.elem<;>simp[he]
 ·cases cJ (dN m) x.a<;>cases cJ (bL m) x.b<;>simp[hs]
  rename_i a b
  by_cases he:a=b.elem<;>simp[he]
 ·cases cJ (dN m) x.a<;>simp[hs]
 ·cases cJ (dZ m) x.b<;>simp[hs]
 ·cases cJ (dZ m) x.a<;>cases cJ (dZ m) x.b<;>simp[hs]
 ·by_cases hd:(m.bg.length:Int)≤x.a
  ·have:¬x.a<(m.bg.length:Int):=by omega
   cases cJ (dZ m) x.b<;>simp[hd,this]
  ·have:x.a<(m.bg.length:Int):=by omega
   cases cJ (dZ m) x.b<;>simp[hs,hd,this]
 ·by_cases hd:(m.bg.length:Int)≤x.a
  ·have:¬x.a<(m.bg.length:Int):=by omega
   simp[hd,this]
  ·have:x.a<(m.bg.length:Int):=by omega
   simp[hs,hd,this]
 ·by_cases hd:ml x.op<x.a<;>cases cJ (dZ m) x.b<;>simp[hs,hd]
 ·simp[hs]
 ·simp[hs]
 ·simp
theorem vz (m:af) (locals:List Int) (x:cv):qf m locals x=kA m locals x:=by
 unfold qf kA
 cases hp:cW x with
 |false=>rw[if_pos rfl,if_pos rfl]
 |true=>
  rw[if_neg (show¬true=false by decide),if_neg (show¬true=false by decide)]
  cases ha:jW x.op with
  |true=>rw[if_pos rfl];exact(EK m locals x ha (sc hp)).symm
  |false=>rw[if_neg (show¬false=true by decide)];exact F7 (sc hp) ha
section
variable {n:Nat} {E:Env} {M M':List bu} {R:List (World→Prop)} {t:TypeId}
theorem HE.JO {B e len s:Nat} {ti te:TI} {parts:List (Nat×Operand)} {vs cs:List Value} (hB:∀w,Ok M R w→B≤w.heap.size) (ht:G.ty t=some ti) (he:ti.elem=some e) (hte:G.ty e=some te) (hs:te.size=s) (hv:kI E (parts.map (·.2))=some vs) (_hc:Cells vs cs) (hlen:Nat.ble (len*s) 16777216=true) (hf:tx s (Cj len s te.zero.cells.toList) ((parts.map (·.1)).zip vs)=some cs):
  HE n (.buildSlice t len parts.toArray) E M R (fun b:Nat=>B≤b) (fun b=>.slice (some ⟨b,0,none⟩) len len) (fun b=>.aV b cs e::M) (fun _=>R):=
 ⟨fun w hw=>(bU.buildSlice hv (vi w ht he hte hs hlen hf)).mono fun _v _w' ⟨e1,hn⟩=>⟨w.heap.size,hB w hw,e1,hw.push hn.ext hn.aV (tp hn)⟩⟩
theorem zU {w:World} {B b n s T:Nat} {cs:List Value} (h:gO w b cs T) (hl:cs.length=n*s) (hB:B≤b) (_hn:n≤1000000):w.ownsRow B T s (.slice (some ⟨b,0,none⟩) n n) n cs:=
 ⟨hl,.inr ⟨b,n,cs.toArray,rfl,hB,h,Pr _,by unfold maxLen;omega,by simp[hl],by simp[←hl]⟩⟩
theorem Ok.B9 {w:World} {B b m s T:Nat} {cs:List Value} (hw:Ok M R w) (hM:Up (.aV b cs T) (.own B T s (.slice (some ⟨b,0,none⟩) m m) m cs) M M') (hl:cs.length=m*s) (hB:B≤b) (hn:m≤1000000):Ok M' R w:=
 hw.qd hM (bX.refl _ w) (zU (hw.m _ hM.mem).1 hl hB hn) (fun k hk=>by
  have hk':some b=some k:=hk
  cases hk'
  exact⟨(hw.m _ hM.mem).2 b rfl,fun _=>rfl⟩)
theorem aN.B9 {l:List Oper} {Q:Exit→Act→World→Prop} {Mc:List bu} {Rc:List (World→Prop)} {n fuel:Nat} {listed:Array Bool} {E:Env} {B b m s T:Nat} {cs:List Value} (hM:Up (.aV b cs T) (.own B T s (.slice (some ⟨b,0,none⟩) m m) m cs) M M') (hl:cs.length=m*s) (hB:B≤b) (hn:m≤1000000) (h:aN l Q Mc Rc n fuel listed E M' R):aN l Q Mc Rc n fuel listed E M R:=⟨fun w hw=>h.h w (hw.B9 hM hl hB hn)⟩
end
theorem Jj {w:World} (h:sW f a w):f.params.length=0∨∃bk o,a.p=some ⟨bk,o,none⟩:=by
 obtain⟨q,c,e,hl,h0|⟨b,o,hq,-,-⟩⟩:=h.1
 ·exact .inl (by rw[h0];rfl)
 ·cases e;exact .inr ⟨b,o,hq⟩
theorem Fh {M:List bu} {R:List (World→Prop)} (hs:f.params.length=0∨∃bk o,a.p=some ⟨bk,o,none⟩) (hR:sW f a∈R):f.params.length=0∨∃bk o,a.p=some ⟨bk,o,none⟩∧∀w',Ok M R w'→∀j u,(aZ f.params)[j]?=some u→w'.cell? ⟨bk,o+j,none⟩=some u:=by
 rcases hs with h|⟨b,o,hq⟩
 ·exact .inl h
 by_cases hz:f.params.length=0
 ·exact .inl hz
 refine .inr ⟨b,o,hq,fun w' hw' j u hj=>?_⟩
 obtain⟨q2,c2,e2,-,h1|⟨b2,o2,hq2,-,hc2⟩⟩:=(hw'.get hR).1
 ·rw[h1]at hz;exact absurd rfl hz
 ·cases e2
  rw[hq]at hq2;cases hq2
  have hjl:j<f.params.length:=by
   have:=(List.getElem?_eq_some_iff.1 hj).1
   simpa[aZ]using this
  have hu:u=.int .i64 (ix f.params j):=by
   unfold aZ at hj
   rw[List.getElem?_map,iy hjl]at hj
   simpa using hj.symm
  rw[hu];exact hc2 j hjl
end Go.Proofs.YtdkcljdfbemnbaaGreatDoor
