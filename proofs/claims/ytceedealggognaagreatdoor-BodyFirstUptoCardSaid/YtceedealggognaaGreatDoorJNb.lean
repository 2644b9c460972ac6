/- Layer 23: rule.turn: the parameters popped, the results pushed. -/
import Derived.Test.YtceedealggognaaGreatDoorJWj
import Derived.Test.YtceedealggognaaGreatDoorJEn
import Derived.Test.YtceedealggognaaGreatDoorJVe
import Derived.Test.YtceedealggognaaGreatDoorJIm
namespace Go.Proofs.YtceedealggognaaGreatDoor
open Go.RowKit
set_option maxRecDepth 100000
def fQ (s:cZ) (f:aE):cZ×Int:=if(aT s f.params).2≠0 then aT s f.params else(gg (aT s f.params).1 f.results,0)
theorem AY {s:cZ} (p:List Int) {n:Nat} (h:(s.ts.length+n)*8≤140737488355328):(aT s p).2=0→((aT s p).1.ts.length+n)*8≤140737488355328:=fun _=>by have:=dw s p;omega
set_option maxHeartbeats 4000000 in
theorem q9 (sp:Nat) (s:cZ) (y:Value×Value) (f:aE) (a:zF) (w:World) (hw:Ok (ay sp s y) [uw f a] w) (hwf:s.Wf) (hb:(aT s f.params).2=0→((aT s f.params).1.ts.length+f.results.length)*8≤140737488355328):
  Calls G.P 60 #[.pointer (some ⟨sp,0,none⟩),.agg #[.slice a.p f.params.length a.c,.slice a.q f.results.length a.d]] w (dr sp s y (.int .i64 (fQ s f).2) (fQ s f).1 w):=by
 obtain⟨tv,pv⟩:=y
 have hp:=hwf.some
 have h0:=hwf.at_.1
 have hle:=hwf.at_.2
 refine aj (l:=[_,_]) Tryz.func60 rfl Tryz.ntmps60 rfl (Ok.bW hw) ?_
 unfold dr
 generalize hS:Mb (ay sp s (tv,pv))=S0
 unfold fQ
 have hw1:=dx hwf f.params
 have hts:=dw s f.params
 obtain⟨r,hr⟩:∃r,aT s f.params=r:=⟨_,rfl⟩
 obtain⟨s1,e1⟩:=r
 rw[hr]at hw1 hts hb ⊢
 dsimp only at hw1 hts hb ⊢
 have hp1:=hw1.some
 have hwant:=fun w' hw'=>dX a.D sp s (tv,pv) (.slice a.p f.params.length a.c) f.params w' hw' hp h0 hle
 rw[hr]at hwant
 dsimp only at hwant
 dsimp only[ay]
 repeat'(first|refine ax ?_|(refine bz fun b_=>?_)|fail)
 refine aa.he (HE.aW (M0:=ay sp s (tv,pv)) cE rfl rfl (fun w' hw'=>hwant w' ((hw'.kq (p:=fun w=>af a.D w (.slice a.p f.params.length a.c) f.params) (fun w2 h=>(h (uw f a) ao).1)).bV cT aY))) rfl ?_
 rintro⟨tv1,pv1⟩ _
 dsimp only[ay,List.cons_append,List.nil_append]
 by_cases he:e1=0
 ·subst he
  have hb:=hb rfl
  rw[if_neg Ha]
  repeat'(first|refine ax ?_|fail)
  refine aa.he (HE.aW (M0:=ay sp s1 (tv1,pv1)) cE rfl rfl (fun w' hw'=>eB a.D sp s1 (tv1,pv1) (.slice a.q f.results.length a.d) f.results w' ((hw'.kq (p:=fun w=>af a.D w (.slice a.q f.results.length a.d) f.results) (fun w2 h=>(h (uw f a) ao).2)).bV cT aY) hp1 Hb)) rfl ?_
  rintro⟨tv2,pv2⟩ _
  dsimp only[ay,List.cons_append,List.nil_append]
  repeat'(first|refine ax ?_|fail)
  all_goals exact ai.aA rfl rfl fun w' hw'=>aq.mM (x:=(tv2,pv2)) trivial hS hw' cT ao
 ·rw[if_pos he]
  repeat'(first|refine ax ?_|fail)
  all_goals exact fd
def zA (c:dq) (f:aE):dq×Int:=({c with aG:=(fQ c.aG f).1},(fQ c.aG f).2)
theorem HE.CT {n:Nat} {E:Env} {M:List aV} {R:List (World→Prop)} {f:Nat} {args:List Operand} {tys:Array TypeId} {vs:List Value} {r:aE×Int} (hf:G.fb[f]?=some true) (ha:ju E args=some vs) (hc:∀w,Ok M R w→Calls G.P f vs.toArray w (gn r (fun _=>False) w)):
  HE n (.call ⟨.value (.func f),args.toArray,tys⟩) E M R (fun _:zF=>True) (fun x=>.tuple #[.agg #[.slice x.p r.1.params.length x.c,.slice x.q r.1.results.length x.d],.int .i64 r.2]) (fun _=>M) (fun x=>uw r.1 x::R):=
 ⟨fun w hw=>(bB.call hf ha (hc w hw) (fun e w' h=>by obtain⟨⟨x,e1,_⟩,_⟩:=h;exact⟨_,e1⟩)).mono fun v w' ⟨⟨⟨x1,x2⟩,e1,hv⟩,hx⟩=>by
  cases e1
  obtain⟨⟨p,c,rfl⟩,⟨q,d,rfl⟩⟩:=hv.shape
  refine⟨⟨fun k=>False∨w.heap.size≤k,p,c,q,d⟩,trivial,rfl,(hw.ext hx).add fun w2 h2=>fa.fr r.1 hv h2 fun k _ hk hm=>?_⟩
  rcases hk with hk|hk
  ·exact hk
  ·obtain⟨q,hq,hk'⟩:=hm
   have:=(hw.m q hq).2 k hk';omega⟩
def mj (B:Nat) (F:Nat→Prop) (m:ae) (sv:Value) (locals:List Int) (lv:Value) (x:bP) (tv bv:Value):List (World→Prop):=[dQ,fun w=>aR B m w sv,fun w=>af F w lv locals,fun w=>af F w tv x.types,fun w=>af F w bv x.labels]
theorem jc {B:Nat} {F:Nat→Prop} {m:ae} {locals:List Int} {sv lv:Value} {x:bP} {pt pl:Option Addr} {ct cl:Nat} {M:List aV} {w:World} (hw:Ok M (mj B F m sv locals lv x (.slice pt x.types.length ct) (.slice pl x.labels.length cl)) w):Calls G.P 51 #[sv,.agg #[Value.int .i64 x.op,Value.int .i64 x.a,Value.int .i64 x.b,Value.int .u64 x.n,Value.int .i64 x.kind,Value.int .i64 x.val,Value.int .i64 x.index,Value.slice pt x.types.length ct,Value.slice pl x.labels.length cl]] w fun e w'=>e=.returned (.int .i64 (if db x=false then 10 else 0))∧Ext w w':=by
 have h0:dQ w:=hw.get G9
 have h:aR B m w sv:=hw.get (p:=fun w=>aR B m w sv) G9
 have ht:=hw.get (p:=fun w=>af F w (.slice pt x.types.length ct) x.types) G9
 have hl:=hw.get (p:=fun w=>af F w (.slice pl x.labels.length cl) x.labels) G9
 exact xB B m sv x pt pl ct cl w h fun w2 hx2=>sf F x pt pl ct cl w2 (h0.ext hx2) (ht.aD hx2 (fun _ _ _ h=>h)) (hl.aD hx2 (fun _ _ _ h=>h))
theorem zB {B:Nat} {F:Nat→Prop} {m:ae} {locals:List Int} {sv:Value} {x:bP} {lp pt pl:Option Addr} {lc ct cl:Nat} {M:List aV} {w:World} (hw:Ok M (mj B F m sv locals (.slice lp locals.length lc) x (.slice pt x.types.length ct) (.slice pl x.labels.length cl)) w) (hp:db x=true) (hT:xR m):Calls G.P 59 #[sv,.slice lp locals.length lc,.agg #[Value.int .i64 x.op,Value.int .i64 x.a,Value.int .i64 x.b,Value.int .u64 x.n,Value.int .i64 x.kind,Value.int .i64 x.val,Value.int .i64 x.index,Value.slice pt x.types.length ct,Value.slice pl x.labels.length cl]] w (gn (dY m locals x) (fun _=>False) w):=by
 have h0:dQ w:=hw.get G9
 have h:aR B m w sv:=hw.get (p:=fun w=>aR B m w sv) G9
 have hl:=hw.get (p:=fun w=>af F w (.slice lp locals.length lc) locals) G9
 have ht:=hw.get (p:=fun w=>af F w (.slice pt x.types.length ct) x.types) G9
 exact vl B F m locals sv x lp pt pl lc ct cl w h0 h hl ht hp hT
theorem zh {g g':Prop} (h:g') (hw:ek g'→g:=by(intro hk_;(first|refine GD ?_|refine Gw ?_|refine Gv ?_);exact hk_.out)):g:=hw ⟨h⟩
theorem qn (B:Nat) (F:Nat→Prop) (cp:Nat) (c:dq) (v:fU) (m:ae) (locals:List Int) (sv:Value) (x:bP) (lp pt pl:Option Addr) (lc ct cl:Nat) (w:World) (hw:Ok (aw cp c v) (mj B F m sv locals (.slice lp locals.length lc) x (.slice pt x.types.length ct) (.slice pl x.labels.length cl)) w) (hp:db x=false):Calls G.P 35 #[.pointer (some ⟨cp,0,none⟩),sv,.slice lp locals.length lc,.agg #[Value.int .i64 x.op,Value.int .i64 x.a,Value.int .i64 x.b,Value.int .u64 x.n,Value.int .i64 x.kind,Value.int .i64 x.val,Value.int .i64 x.index,Value.slice pt x.types.length ct,Value.slice pl x.labels.length cl]] w (ar (aw cp c v) cp (c,10) w):=by
 refine aj (l:=[_,_,_,_]) Tryz.func35 rfl Tryz.ntmps35 rfl (Ok.bW hw) ?_
 generalize hS:Mb (aw cp c v)=S0
 unfold mj
 obtain⟨sp,tv,pv,bv,rv,fv,D,L⟩:=v
 dsimp only[aw,ay,List.cons_append,List.nil_append]
 have hno:=fun w' M (hw':Ok M _ w')=>jc (B:=B) (F:=F) (m:=m) (locals:=locals) (sv:=sv) (lv:=.slice lp locals.length lc) (x:=x) (pt:=pt) (pl:=pl) (ct:=ct) (cl:=cl) hw'
 rw[hp]at hno
 repeat'(first|refine ax ?_|(refine bz fun b_=>?_)|refine zh ?_|fail)
 all_goals exact ai.aA rfl rfl fun w' hw'=>ar.err 10 rfl Ha hS hw' ao
def rB (c:dq) (r:aE×Int):dq×Int:=if r.2≠0 then(c,r.2)else zA c r.1
set_option maxHeartbeats 8000000 in
theorem nr (B:Nat) (F:Nat→Prop) (cp:Nat) (c:dq) (v:fU) (m:ae) (locals:List Int) (sv:Value) (x:bP) (lp pt pl:Option Addr) (lc ct cl:Nat) (w:World) (hw:Ok (aw cp c v) (mj B F m sv locals (.slice lp locals.length lc) x (.slice pt x.types.length ct) (.slice pl x.labels.length cl)) w) (hg:v.Good c) (hwf:c.Wf) (hp:db x=true) (ha:ry x.op=false) (hT:xR m) (hb:(aT c.aG (dY m locals x).1.params).2=0→((aT c.aG (dY m locals x).1.params).1.ts.length+(dY m locals x).1.results.length)*8≤140737488355328):Calls G.P 35 #[.pointer (some ⟨cp,0,none⟩),sv,.slice lp locals.length lc,.agg #[Value.int .i64 x.op,Value.int .i64 x.a,Value.int .i64 x.b,Value.int .u64 x.n,Value.int .i64 x.kind,Value.int .i64 x.val,Value.int .i64 x.index,Value.slice pt x.types.length ct,Value.slice pl x.labels.length cl]] w (ar (aw cp c v) cp (rB c (dY m locals x)) w):=by
 have hop:x.op≠2∧x.op≠3∧x.op≠4∧x.op≠5∧x.op≠11∧x.op≠0∧x.op≠12∧x.op≠13∧x.op≠14∧x.op≠15∧x.op≠26∧x.op≠27∧x.op≠209:=by simpa[ry,and_assoc]using ha
 refine aj (l:=[_,_,_,_]) Tryz.func35 rfl Tryz.ntmps35 rfl (Ok.bW hw) ?_
 generalize hS:Mb (aw cp c v)=S0
 unfold mj
 obtain⟨sp,tv,pv,bv,rv,fv,D,L⟩:=v
 dsimp only[aw,ay,List.cons_append,List.nil_append]
 have hno:=fun w' M (hw':Ok M _ w')=>jc (B:=B) (F:=F) (m:=m) (locals:=locals) (sv:=sv) (lv:=.slice lp locals.length lc) (x:=x) (pt:=pt) (pl:=pl) (ct:=ct) (cl:=cl) hw'
 rw[hp]at hno
 have hty:=fun w' M (hw':Ok M _ w')=>zB (B:=B) (F:=F) (m:=m) (locals:=locals) (sv:=sv) (x:=x) (lp:=lp) (lc:=lc) (pt:=pt) (pl:=pl) (ct:=ct) (cl:=cl) hw' hp hT
 generalize dY m locals x=r at hty hb ⊢
 obtain⟨f,e0⟩:=r
 dsimp only at hb
 by_cases he:e0=0
 ·subst he
  repeat'(first|refine ax ?_|(refine Gn fun b_=>?_)|refine zh ?_|(refine aa.ak (f:=59) ?_;refine aa.he (HE.CT (r:=(f,0)) rfl rfl (fun w' hw'=>hty w' _ (hw'.sub (List.Sublist.refl _) aY))) rfl ?_;rintro⟨D_,p_,c_,q_,d_⟩ _;dsimp only)|fail)
  refine aQ.de [.aJ b_ [.slice p_ f.params.length c_,.slice q_ f.results.length d_] qC] [uw f ⟨D_,p_,c_,q_,d_⟩] bN aY ?_
  repeat'(first|refine uo ?_|(refine aI.eU 29 ?_;refine aI.he rfl rfl (HE.kp rfl rfl (fun w' hw'=>cW cp ⟨sp,0,none⟩ w' (hw'.c1 bJ Hd))) (fun _=>bN) (fun _=>aY) ?_;rintro⟨⟩ _)|(refine aI.eU 60 ?_;refine aI.he rfl rfl (HE.aW (M0:=ay sp c.aG (tv,pv)) cE rfl rfl (fun w' hw'=>q9 sp c.aG (tv,pv) f ⟨D_,p_,c_,q_,d_⟩ w' (hw'.bV cT aY) hwf.aG hb)) (fun _=>by dsimp only[ay,List.cons_append,List.nil_append];exact bN) (fun _=>aY) ?_;rintro⟨tvb,pvb⟩ _;dsimp only[ay,List.cons_append,List.nil_append])|refine aK.nil G6 ?_|refine aK.any G6 ?_|exact aC.fin rfl|refine aC.skip G6 ?_|refine aC.go ?_ ?_)
  all_goals
   repeat'(first|refine ax ?_|fail)
   exact ai.aA rfl rfl fun w' hw'=>by
    by_cases h2:(fQ c.aG f).2=0
    ·have:=ar.ok (cp:=cp) (r:=({c with aG:=(fQ c.aG f).1},(fQ c.aG f).2)) (⟨sp,tvb,pvb,bv,rv,fv,D,L⟩:fU) h2 ⟨hg.len,hg.fr,hg.rs⟩ hS hw' GP ao
     rw[h2];exact this
    ·exact ar.err _ rfl h2 hS hw' ao
 ·unfold rB
  rw[if_pos he]
  repeat'(first|refine ax ?_|(refine Gn fun b_=>?_)|refine zh ?_|(refine aa.ak (f:=59) ?_;refine aa.he (HE.CT (r:=(f,e0)) rfl rfl (fun w' hw'=>hty w' _ (hw'.sub (List.Sublist.refl _) aY))) rfl ?_;rintro⟨D_,p_,c_,q_,d_⟩ _;dsimp only)|fail)
  all_goals first|omega|exact ai.aA rfl rfl fun w' hw'=>ar.err e0 rfl he hS hw' ao
section
variable {n:Nat} {E:Env} {M:List aV} {R:List (World→Prop)} {f:Nat} {args:List Operand} {tys:Array TypeId} {vs:List Value}
theorem HE.nh {m:ae} (hf:G.fb[f]?=some true) (ha:ju E args=some vs) (hc:∀w,Ok M R w→Calls G.P f vs.toArray w (qA m w)):
  HE n (.call ⟨.value (.func f),args.toArray,tys⟩) E M R (fun _:Nat×Value=>True) (fun x=>x.2) (fun _=>M) (fun x=>(fun w=>aR x.1 m w x.2)::R):=
 ⟨fun w hw=>(bB.call hf ha (hc w hw) (fun e w' h=>by obtain⟨⟨x,e1,_⟩,_⟩:=h;exact⟨_,e1⟩)).mono fun v w' ⟨⟨x,e1,hv⟩,hx⟩=>by
  cases e1
  refine⟨(w.heap.size,v),trivial,rfl,(hw.ext hx).add fun w2 h2=>hv.aD h2 fun k hk hm=>?_⟩
  obtain⟨q,hq,hk'⟩:=hm
  have:=(hw.m q hq).2 k hk';omega⟩
end
theorem ar.wS {M0:List aV} {cp:Nat} {r:dq×Int} {w w':World} {e:Ending} (h:ar M0 cp r w e w') (hr:r.2=0):aq M0 w (fun _:fU=>.int .i64 0) (fun v'=>v'.Good r.1) (aw cp r.1) e w':=by
 obtain⟨x,e1,h2,h3,h4,h5⟩:=h
 dsimp only at h3 h5
 rw[if_pos hr]at h3
 simp only[if_pos hr]at h5
 rw[hr]at e1
 exact⟨x,e1,h2 hr,h3,h4,h5⟩
theorem ar.bad {M0:List aV} {cp:Nat} {r:dq×Int} {w w':World} {e:Ending} (h:ar M0 cp r w e w') {q:Int} (hr:r.2=q) (hq:q≠0):aq M0 w (fun _:fU=>.int .i64 q) (fun _=>True) (fun _=>[]) e w':=by
 obtain⟨x,e1,h2,h3,h4,h5⟩:=h
 dsimp only at h3 h5
 rw[if_neg Hb]at h3
 simp only[if_neg (show¬r.2=0 by omega)]at h5
 rw[hr]at e1
 exact⟨x,e1,trivial,h3,h4,h5⟩
theorem Ok.oX {M:List aV} {R:List (World→Prop)} {w0 w:World} {b T:Nat} {cs:List Value} (h:Ok M R w) (hR:Ext w0∈R) (hm:aV.aJ b cs T∈M):dZ w b cs T∧w0.heap.size≤b:=by
 refine⟨(h.m _ hm).1,?_⟩
 rcases Nat.lt_or_ge b w0.heap.size with hlt|hge
 ·exact(h.origin (S:=fun _=>False) hR b ⟨_,hm,rfl⟩ hlt).elim
 ·exact hge
theorem tl {w:World} {b T:Nat} {cs:List Value} (h:dZ w b cs T) {s:Nat} (hs:cs.length=s):∀j,j<s→w.cell? ⟨b,0+0*s+j,none⟩=cs[j]?:=fun j hj=>by
 rw[Nat.zero_mul,Nat.zero_add,List.getElem?_eq_getElem Hb]
 exact h.cell (List.getElem?_eq_getElem Hb)
structure Bj (w:World) (x:bP) (tv bv:Value):Prop where
 t:af (fun _=>True) w tv x.types
 l:af (fun _=>True) w bv x.labels
 op:gJ x.op
 a:gJ x.a
theorem Bj.ext {w w':World} {x:bP} {tv bv:Value} (h:Bj w x tv bv) (hx:Ext w w'):Bj w' x tv bv:=⟨h.t.aD hx (fun _ _ _ h=>h),h.l.aD hx (fun _ _ _ h=>h),h.op,h.a⟩
end Go.Proofs.YtceedealggognaaGreatDoor
