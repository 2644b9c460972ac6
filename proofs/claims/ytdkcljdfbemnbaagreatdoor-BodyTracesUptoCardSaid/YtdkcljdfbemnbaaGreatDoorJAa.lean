import Derived.Test.YtdkcljdfbemnbaaGreatDoorJLm
namespace Go.Proofs.YtdkcljdfbemnbaaGreatDoor
open Go.RowKit _root_.Go.Proofs.Tryz
set_option maxHeartbeats 8000000
open List renaming Sublist→Pv,cons_append→Pq,getElem?_eq_getElem→Pw,nil_append→Pp
open Value renaming int→Pm,slice→Pn
set_option maxRecDepth 100000
theorem HE.Jr {n:Nat} {E:Env} {M:List bu} {R:List (World→Prop)} {f:Nat} {args:List Operand} {tys:Array TypeId} {vs:List Value} {r:aO×Int} (hf:G.fb[f]?=some true) (ha:kJ E args=some vs) (hc:∀w,Ok M R w→Calls G.P f vs.toArray w (jw r (fun _=>False) w)):
  HE n (.call ⟨.value (.func f),args.toArray,tys⟩) E M R (fun _:C4=>True) (fun x=>.tuple #[.agg #[.slice x.p r.1.params.length x.c,.slice x.q r.1.results.length x.d],.int .i64 r.2]) (fun _=>M) (fun x=>sZ r.1 x::R):=
 ⟨fun w hw=>(bU.call hf ha (hc w hw) (fun e w' h=>by obtain⟨⟨x,e1,_⟩,_⟩:=h;exact⟨_,e1⟩)).mono fun v w' ⟨⟨⟨x1,x2⟩,e1,hv⟩,hx⟩=>by
  cases e1
  obtain⟨⟨p,c,rfl⟩,⟨q,d,rfl⟩⟩:=hv.shape
  refine⟨⟨fun k=>False∨w.heap.size≤k,p,c,q,d⟩,trivial,rfl,(hw.ext hx).add fun w2 h2=>dH.fr r.1 hv h2 fun k _ hk hm=>?_⟩
  rcases hk with hk|hk
  ·exact hk
  ·obtain⟨q,hq,hk'⟩:=hm
   have:=(hw.m q hq).2 k hk';omega⟩
def qm (B:Nat) (F:Nat→Prop) (m:af) (sv:Value) (locals:List Int) (lv:Value) (x:cv) (tv bv:Value):List (World→Prop):=[fK,fun w=>bK B m w sv,fun w=>ai F w lv locals,fun w=>ai F w tv x.types,fun w=>ai F w bv x.labels]
theorem lW {B:Nat} {F:Nat→Prop} {m:af} {locals:List Int} {sv lv:Value} {x:cv} {pt pl:Option Addr} {ct cl:Nat} {M:List bu} {w:World} (hw:Ok M (qm B F m sv locals lv x (.slice pt x.types.length ct) (.slice pl x.labels.length cl)) w):Calls G.P 48 #[sv,.agg #[Pm .i64 x.op,Pm .i64 x.a,Pm .i64 x.b,Pm .u64 x.n,Pm .i64 x.kind,Pm .i64 x.val,Pm .i64 x.index,Pn pt x.types.length ct,Pn pl x.labels.length cl]] w fun e w'=>e=.returned (.int .i64 (if cW x=false then 10 else 0))∧Ext w w':=by
 have h0:fK w:=hw.get Pf
 have h:bK B m w sv:=hw.get (p:=fun w=>bK B m w sv) Pf
 have ht:=hw.get (p:=fun w=>ai F w (.slice pt x.types.length ct) x.types) Pf
 have hl:=hw.get (p:=fun w=>ai F w (.slice pl x.labels.length cl) x.labels) Pf
 exact Eg B m sv x pt pl ct cl w h fun w2 hx2=>yw F x pt pl ct cl w2 (h0.ext hx2) (ht.aN hx2 (fun _ _ _ h=>h)) (hl.aN hx2 (fun _ _ _ h=>h))
theorem Gd {B:Nat} {F:Nat→Prop} {m:af} {locals:List Int} {sv:Value} {x:cv} {lp pt pl:Option Addr} {lc ct cl:Nat} {M:List bu} {w:World} (hw:Ok M (qm B F m sv locals (.slice lp locals.length lc) x (.slice pt x.types.length ct) (.slice pl x.labels.length cl)) w) (hp:cW x=true) (hT:nb m):Calls G.P 56 #[sv,.slice lp locals.length lc,.agg #[Pm .i64 x.op,Pm .i64 x.a,Pm .i64 x.b,Pm .u64 x.n,Pm .i64 x.kind,Pm .i64 x.val,Pm .i64 x.index,Pn pt x.types.length ct,Pn pl x.labels.length cl]] w (jw (fO m locals x) (fun _=>False) w):=by
 have h0:fK w:=hw.get Pf
 have h:bK B m w sv:=hw.get (p:=fun w=>bK B m w sv) Pf
 have hl:=hw.get (p:=fun w=>ai F w (.slice lp locals.length lc) locals) Pf
 have ht:=hw.get (p:=fun w=>ai F w (.slice pt x.types.length ct) x.types) Pf
 exact BZ B F m locals sv x lp pt pl lc ct cl w h0 h hl ht hp hT
theorem FU {g g':Prop} (h:g') (hw:eA g'→g:=by(intro hk_;(first|refine OC ?_|refine Oc ?_|refine Ob ?_);exact hk_.out)):g:=hw ⟨h⟩
variable (B:Nat) (F:Nat→Prop) {M0:List bu} {cp:Nat} {r:dv×Int} {w w':World}
theorem wL (cp:Nat) (c:dv) (v:jF) (m:af) (locals:List Int) (sv:Value) (x:cv) (lp pt pl:Option Addr) (lc ct cl:Nat) (w:World) (hw:Ok (aT cp c v) (qm B F m sv locals (.slice lp locals.length lc) x (.slice pt x.types.length ct) (.slice pl x.labels.length cl)) w) (hp:cW x=false):Calls G.P 32 #[.pointer (some ⟨cp,0,none⟩),sv,.slice lp locals.length lc,.agg #[Pm .i64 x.op,Pm .i64 x.a,Pm .i64 x.b,Pm .u64 x.n,Pm .i64 x.kind,Pm .i64 x.val,Pm .i64 x.index,Pn pt x.types.length ct,Pn pl x.labels.length cl]] w (aK (aT cp c v) cp (c,10) w):=by
 refine ae (l:=[_,_,_,_]) func32 rfl ntmps32 rfl (Ok.dk hw) ?_
 generalize hS:Mb (aT cp c v)=S0
 unfold qm
 obtain⟨sp,tv,pv,bv,rv,fv,D,L⟩:=v
 dsimp only[aT,aX,Pq,Pp]
 have hno:=fun w' M (hw':Ok M _ w')=>lW (B:=B) (F:=F) (m:=m) (locals:=locals) (sv:=sv) (lv:=.slice lp locals.length lc) (x:=x) (pt:=pt) (pl:=pl) (ct:=ct) (cl:=cl) hw'
 rw[hp]at hno
 repeat'(first|refine ar ?_|(refine aF fun b_=>?_)|refine FU ?_|fail)
 all_goals exact ah.aG rfl rfl fun w' hw'=>aK.err 10 rfl Ph hS hw' ak
def tt (c:dv) (r:aO×Int):dv×Int:=if r.2≠0 then(c,r.2)else CX c r.1
theorem rL (cp:Nat) (c:dv) (v:jF) (m:af) (locals:List Int) (sv:Value) (x:cv) (lp pt pl:Option Addr) (lc ct cl:Nat) (w:World) (hw:Ok (aT cp c v) (qm B F m sv locals (.slice lp locals.length lc) x (.slice pt x.types.length ct) (.slice pl x.labels.length cl)) w) (hg:v.Good c) (hwf:c.Wf) (hp:cW x=true) (ha:jU x.op=false) (hT:nb m) (hb:(aL c.ao (fO m locals x).1.params).2=0→((aL c.ao (fO m locals x).1.params).1.ts.length+(fO m locals x).1.results.length)*8≤140737488355328):Calls G.P 32 #[.pointer (some ⟨cp,0,none⟩),sv,.slice lp locals.length lc,.agg #[Pm .i64 x.op,Pm .i64 x.a,Pm .i64 x.b,Pm .u64 x.n,Pm .i64 x.kind,Pm .i64 x.val,Pm .i64 x.index,Pn pt x.types.length ct,Pn pl x.labels.length cl]] w (aK (aT cp c v) cp (tt c (fO m locals x)) w):=by
 have hop:x.op≠2∧x.op≠3∧x.op≠4∧x.op≠5∧x.op≠11∧x.op≠0∧x.op≠12∧x.op≠13∧x.op≠14∧x.op≠15∧x.op≠26∧x.op≠27∧x.op≠209:=by simpa[jU,and_assoc]using ha
 refine ae (l:=[_,_,_,_]) func32 rfl ntmps32 rfl (Ok.dk hw) ?_
 generalize hS:Mb (aT cp c v)=S0
 unfold qm
 obtain⟨sp,tv,pv,bv,rv,fv,D,L⟩:=v
 dsimp only[aT,aX,Pq,Pp]
 have hno:=fun w' M (hw':Ok M _ w')=>lW (B:=B) (F:=F) (m:=m) (locals:=locals) (sv:=sv) (lv:=.slice lp locals.length lc) (x:=x) (pt:=pt) (pl:=pl) (ct:=ct) (cl:=cl) hw'
 rw[hp]at hno
 have hty:=fun w' M (hw':Ok M _ w')=>Gd (B:=B) (F:=F) (m:=m) (locals:=locals) (sv:=sv) (x:=x) (lp:=lp) (lc:=lc) (pt:=pt) (pl:=pl) (ct:=ct) (cl:=cl) hw' hp hT
 generalize fO m locals x=r at hty hb ⊢
 obtain⟨f,e0⟩:=r
 dsimp only at hb
 by_cases he:e0=0
 ·subst he
  repeat'(first|refine ar ?_|(refine N0 fun b_=>?_)|refine FU ?_|(refine aa.aj (f:=56) ?_;refine aa.he (HE.Jr (r:=(f,0)) rfl rfl (fun w' hw'=>hty w' _ (hw'.sub (Pv.refl _) aU))) rfl ?_;rintro⟨D_,p_,c_,q_,d_⟩ _;dsimp only)|fail)
  refine bh.cI [.aW b_ [.slice p_ f.params.length c_,.slice q_ f.results.length d_] sy] [sZ f ⟨D_,p_,c_,q_,d_⟩] bz aU ?_
  repeat'(first|refine pN ?_|(refine ax.dA 26 ?_;refine ax.he rfl rfl (HE.eU rfl rfl (fun w' hw'=>eF cp ⟨sp,0,none⟩ w' (hw'.c1 aH Pk))) (fun _=>bz) (fun _=>aU) ?_;rintro⟨⟩ _)|(refine ax.dA 57 ?_;refine ax.he rfl rfl (HE.bJ (M0:=aX sp c.ao (tv,pv)) dU rfl rfl (fun w' hw'=>xH sp c.ao (tv,pv) f ⟨D_,p_,c_,q_,d_⟩ w' (hw'.dc dV aU) hwf.ao hb)) (fun _=>by dsimp only[aX,Pq,Pp];exact bz) (fun _=>aU) ?_;rintro⟨tvb,pvb⟩ _;dsimp only[aX,Pq,Pp])|refine aP.nil O9 ?_|refine aP.any O9 ?_|exact aB.fin rfl|refine aB.skip O9 ?_|refine aB.go ?_ ?_)
  all_goals
   repeat'(first|refine ar ?_|fail)
   exact ah.aG rfl rfl fun w' hw'=>by
    by_cases h2:(fU c.ao f).2=0
    ·have:=aK.ok (cp:=cp) (r:=({c with ao:=(fU c.ao f).1},(fU c.ao f).2)) (⟨sp,tvb,pvb,bv,rv,fv,D,L⟩:jF) h2 ⟨hg.len,hg.fr,hg.rs⟩ hS hw' ON ak
     rw[h2];exact this
    ·exact aK.err _ rfl h2 hS hw' ak
 ·unfold tt
  rw[if_pos he]
  repeat'(first|refine ar ?_|(refine N0 fun b_=>?_)|refine FU ?_|(refine aa.aj (f:=56) ?_;refine aa.he (HE.Jr (r:=(f,e0)) rfl rfl (fun w' hw'=>hty w' _ (hw'.sub (Pv.refl _) aU))) rfl ?_;rintro⟨D_,p_,c_,q_,d_⟩ _;dsimp only)|fail)
  all_goals first|omega|exact ah.aG rfl rfl fun w' hw'=>aK.err e0 rfl he hS hw' ak
section
variable {n:Nat} {E:Env} {M:List bu} {R:List (World→Prop)} {f:Nat} {args:List Operand} {tys:Array TypeId} {vs:List Value}
theorem HE.tC {m:af} (hf:G.fb[f]?=some true) (ha:kJ E args=some vs) (hc:∀w,Ok M R w→Calls G.P f vs.toArray w (wY m w)):
  HE n (.call ⟨.value (.func f),args.toArray,tys⟩) E M R (fun _:Nat×Value=>True) (fun x=>x.2) (fun _=>M) (fun x=>(fun w=>bK x.1 m w x.2)::R):=
 ⟨fun w hw=>(bU.call hf ha (hc w hw) (fun e w' h=>by obtain⟨⟨x,e1,_⟩,_⟩:=h;exact⟨_,e1⟩)).mono fun v w' ⟨⟨x,e1,hv⟩,hx⟩=>by
  cases e1
  refine⟨(w.heap.size,v),trivial,rfl,(hw.ext hx).add fun w2 h2=>hv.aN h2 fun k hk hm=>?_⟩
  obtain⟨q,hq,hk'⟩:=hm
  have:=(hw.m q hq).2 k hk';omega⟩
end
theorem aK.Dw {e:Ending} (h:aK M0 cp r w e w') (hr:r.2=0):aC M0 w (fun _:jF=>.int .i64 0) (fun v'=>v'.Good r.1) (aT cp r.1) e w':=by
 obtain⟨x,e1,h2,h3,h4,h5⟩:=h
 dsimp only at h3 h5
 rw[if_pos hr]at h3
 simp only[if_pos hr]at h5
 rw[hr]at e1
 exact⟨x,e1,h2 hr,h3,h4,h5⟩
theorem aK.bad {e:Ending} (h:aK M0 cp r w e w') {q:Int} (hr:r.2=q) (_hq:q≠0):aC M0 w (fun _:jF=>.int .i64 q) (fun _=>True) (fun _=>[]) e w':=by
 obtain⟨x,e1,h2,h3,h4,h5⟩:=h
 dsimp only at h3 h5
 rw[if_neg Pi]at h3
 simp only[if_neg (show¬r.2=0 by omega)]at h5
 rw[hr]at e1
 exact⟨x,e1,trivial,h3,h4,h5⟩
theorem Ok.tT {M:List bu} {R:List (World→Prop)} {w0 w:World} {b T:Nat} {cs:List Value} (h:Ok M R w) (hR:Ext w0∈R) (hm:bu.aW b cs T∈M):gQ w b cs T∧w0.heap.size≤b:=by
 refine⟨(h.m _ hm).1,?_⟩
 rcases Nat.lt_or_ge b w0.heap.size with hlt|hge
 ·exact(h.origin (S:=fun _=>False) hR b ⟨_,hm,rfl⟩ hlt).elim
 ·exact hge
theorem zE {w:World} {b T:Nat} {cs:List Value} (h:gQ w b cs T) {s:Nat} (_hs:cs.length=s):∀j,j<s→w.cell? ⟨b,0+0*s+j,none⟩=cs[j]?:=fun j hj=>by
 rw[Nat.zero_mul,Nat.zero_add,Pw Pi]
 exact h.cell (Pw Pi)
end Go.Proofs.YtdkcljdfbemnbaaGreatDoor
