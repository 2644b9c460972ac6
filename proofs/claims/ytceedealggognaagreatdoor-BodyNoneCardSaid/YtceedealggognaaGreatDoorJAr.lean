/- Layer 23: rule.Apply of an instruction that has a signature, and of one that isn't plain. -/
import Derived.Test.YtceedealggognaaGreatDoorJUq
import Derived.Test.YtceedealggognaaGreatDoorJM4
namespace Go.Proofs.YtceedealggognaaGreatDoor
open Go.RowKit
set_option maxRecDepth 100000
theorem HE.BG {n:Nat} {E:Env} {M:List aU} {R:List (World→Prop)} {f:Nat} {args:List Operand} {tys:Array TypeId} {vs:List Value} {r:aC×Int} (hf:G.fb[f]?=some true) (ha:ji E args=some vs) (hc:∀w,Ok M R w→Calls G.P f vs.toArray w (fU r (fun _=>False) w)):
  HE n (.call ⟨.value (.func f),args.toArray,tys⟩) E M R (fun _:yw=>True) (fun x=>.tuple #[.agg #[.slice x.p r.1.params.length x.c,.slice x.q r.1.results.length x.d],.int .i64 r.2]) (fun _=>M) (fun x=>tt r.1 x::R):=
 ⟨fun w hw=>(bC.call hf ha (hc w hw) (fun e w' h=>by obtain⟨⟨x,e1,_⟩,_⟩:=h;exact⟨_,e1⟩)).mono fun v w' ⟨⟨⟨x1,x2⟩,e1,hv⟩,hx⟩=>by
  cases e1
  obtain⟨⟨p,c,rfl⟩,⟨q,d,rfl⟩⟩:=hv.shape
  refine⟨⟨fun k=>False∨w.heap.size≤k,p,c,q,d⟩,trivial,rfl,(hw.ext hx).add fun w2 h2=>eO.fr r.1 hv h2 fun k _ hk hm=>?_⟩
  rcases hk with hk|hk
  ·exact hk
  ·obtain⟨q,hq,hk'⟩:=hm
   have:=(hw.m q hq).2 k hk';omega⟩
def lF (B:Nat) (F:Nat→Prop) (m:ae) (sv:Value) (locals:List Int) (lv:Value) (x:bZ) (tv bv:Value):List (World→Prop):=[dG,fun w=>aV B m w sv,fun w=>af F w lv locals,fun w=>af F w tv x.types,fun w=>af F w bv x.labels]
theorem iO {B:Nat} {F:Nat→Prop} {m:ae} {locals:List Int} {sv lv:Value} {x:bZ} {pt pl:Option Addr} {ct cl:Nat} {M:List aU} {w:World} (hw:Ok M (lF B F m sv locals lv x (.slice pt x.types.length ct) (.slice pl x.labels.length cl)) w):Calls G.P 51 #[sv,.agg #[Value.int .i64 x.op,Value.int .i64 x.a,Value.int .i64 x.b,Value.int .u64 x.n,Value.int .i64 x.kind,Value.int .i64 x.val,Value.int .i64 x.index,Value.slice pt x.types.length ct,Value.slice pl x.labels.length cl]] w fun e w'=>e=.returned (.int .i64 (if cW x=false then 10 else 0))∧Ext w w':=by
 have h0:dG w:=hw.get FV
 have h:aV B m w sv:=hw.get (p:=fun w=>aV B m w sv) FV
 have ht:=hw.get (p:=fun w=>af F w (.slice pt x.types.length ct) x.types) FV
 have hl:=hw.get (p:=fun w=>af F w (.slice pl x.labels.length cl) x.labels) FV
 exact wu B m sv x pt pl ct cl w h fun w2 hx2=>q8 F x pt pl ct cl w2 (h0.ext hx2) (ht.aB hx2 (fun _ _ _ h=>h)) (hl.aB hx2 (fun _ _ _ h=>h))
theorem yr {B:Nat} {F:Nat→Prop} {m:ae} {locals:List Int} {sv:Value} {x:bZ} {lp pt pl:Option Addr} {lc ct cl:Nat} {M:List aU} {w:World} (hw:Ok M (lF B F m sv locals (.slice lp locals.length lc) x (.slice pt x.types.length ct) (.slice pl x.labels.length cl)) w) (hp:cW x=true) (hT:wS m):Calls G.P 59 #[sv,.slice lp locals.length lc,.agg #[Value.int .i64 x.op,Value.int .i64 x.a,Value.int .i64 x.b,Value.int .u64 x.n,Value.int .i64 x.kind,Value.int .i64 x.val,Value.int .i64 x.index,Value.slice pt x.types.length ct,Value.slice pl x.labels.length cl]] w (fU (eD m locals x) (fun _=>False) w):=by
 have h0:dG w:=hw.get FV
 have h:aV B m w sv:=hw.get (p:=fun w=>aV B m w sv) FV
 have hl:=hw.get (p:=fun w=>af F w (.slice lp locals.length lc) locals) FV
 have ht:=hw.get (p:=fun w=>af F w (.slice pt x.types.length ct) x.types) FV
 exact ui B F m locals sv x lp pt pl lc ct cl w h0 h hl ht hp hT
theorem uY {g g':Prop} (h:g') (hw:dP g'→g:=by(intro hk_;(first|refine Fq ?_|refine Fj ?_|refine Fi ?_);exact hk_.out)):g:=hw ⟨h⟩
theorem pD (B:Nat) (F:Nat→Prop) (cp:Nat) (c:dq) (v:fJ) (m:ae) (locals:List Int) (sv:Value) (x:bZ) (lp pt pl:Option Addr) (lc ct cl:Nat) (w:World) (hw:Ok (aw cp c v) (lF B F m sv locals (.slice lp locals.length lc) x (.slice pt x.types.length ct) (.slice pl x.labels.length cl)) w) (hp:cW x=false):Calls G.P 35 #[.pointer (some ⟨cp,0,none⟩),sv,.slice lp locals.length lc,.agg #[Value.int .i64 x.op,Value.int .i64 x.a,Value.int .i64 x.b,Value.int .u64 x.n,Value.int .i64 x.kind,Value.int .i64 x.val,Value.int .i64 x.index,Value.slice pt x.types.length ct,Value.slice pl x.labels.length cl]] w (ar (aw cp c v) cp (c,10) w):=by
 refine aj (l:=[_,_,_,_]) Tryz.func35 rfl Tryz.ntmps35 rfl (Ok.bV hw) ?_
 generalize hS:Mb (aw cp c v)=S0
 unfold lF
 obtain⟨sp,tv,pv,bv,rv,fv,D,L⟩:=v
 dsimp only[aw,ax,List.cons_append,List.nil_append]
 have hno:=fun w' M (hw':Ok M _ w')=>iO (B:=B) (F:=F) (m:=m) (locals:=locals) (sv:=sv) (lv:=.slice lp locals.length lc) (x:=x) (pt:=pt) (pl:=pl) (ct:=ct) (cl:=cl) hw'
 rw[hp]at hno
 repeat'(first|refine ay ?_|(refine br fun b_=>?_)|refine uY ?_|fail)
 all_goals exact ai.aA rfl rfl fun w' hw'=>ar.err 10 rfl FX hS hw' ao
def qE (c:dq) (r:aC×Int):dq×Int:=if r.2≠0 then(c,r.2)else yq c r.1
set_option maxHeartbeats 8000000 in
theorem mM (B:Nat) (F:Nat→Prop) (cp:Nat) (c:dq) (v:fJ) (m:ae) (locals:List Int) (sv:Value) (x:bZ) (lp pt pl:Option Addr) (lc ct cl:Nat) (w:World) (hw:Ok (aw cp c v) (lF B F m sv locals (.slice lp locals.length lc) x (.slice pt x.types.length ct) (.slice pl x.labels.length cl)) w) (hg:v.Good c) (hwf:c.Wf) (hp:cW x=true) (ha:qC x.op=false) (hT:wS m) (hb:(aO c.aF (eD m locals x).1.params).2=0→((aO c.aF (eD m locals x).1.params).1.ts.length+(eD m locals x).1.results.length)*8≤140737488355328):Calls G.P 35 #[.pointer (some ⟨cp,0,none⟩),sv,.slice lp locals.length lc,.agg #[Value.int .i64 x.op,Value.int .i64 x.a,Value.int .i64 x.b,Value.int .u64 x.n,Value.int .i64 x.kind,Value.int .i64 x.val,Value.int .i64 x.index,Value.slice pt x.types.length ct,Value.slice pl x.labels.length cl]] w (ar (aw cp c v) cp (qE c (eD m locals x)) w):=by
 have hop:x.op≠2∧x.op≠3∧x.op≠4∧x.op≠5∧x.op≠11∧x.op≠0∧x.op≠12∧x.op≠13∧x.op≠14∧x.op≠15∧x.op≠26∧x.op≠27∧x.op≠209:=by simpa[qC,and_assoc]using ha
 refine aj (l:=[_,_,_,_]) Tryz.func35 rfl Tryz.ntmps35 rfl (Ok.bV hw) ?_
 generalize hS:Mb (aw cp c v)=S0
 unfold lF
 obtain⟨sp,tv,pv,bv,rv,fv,D,L⟩:=v
 dsimp only[aw,ax,List.cons_append,List.nil_append]
 have hno:=fun w' M (hw':Ok M _ w')=>iO (B:=B) (F:=F) (m:=m) (locals:=locals) (sv:=sv) (lv:=.slice lp locals.length lc) (x:=x) (pt:=pt) (pl:=pl) (ct:=ct) (cl:=cl) hw'
 rw[hp]at hno
 have hty:=fun w' M (hw':Ok M _ w')=>yr (B:=B) (F:=F) (m:=m) (locals:=locals) (sv:=sv) (x:=x) (lp:=lp) (lc:=lc) (pt:=pt) (pl:=pl) (ct:=ct) (cl:=cl) hw' hp hT
 generalize eD m locals x=r at hty hb ⊢
 obtain⟨f,e0⟩:=r
 dsimp only at hb
 by_cases he:e0=0
 ·subst he
  repeat'(first|refine ay ?_|(refine Fb fun b_=>?_)|refine uY ?_|(refine aa.ak (f:=59) ?_;refine aa.he (HE.BG (r:=(f,0)) rfl rfl (fun w' hw'=>hty w' _ (hw'.sub (List.Sublist.refl _) aX))) rfl ?_;rintro⟨D_,p_,c_,q_,d_⟩ _;dsimp only)|fail)
  refine aP.du [.aH b_ [.slice p_ f.params.length c_,.slice q_ f.results.length d_] pR] [tt f ⟨D_,p_,c_,q_,d_⟩] bN aX ?_
  repeat'(first|refine tx ?_|(refine aK.fe 29 ?_;refine aK.he rfl rfl (HE.kl rfl rfl (fun w' hw'=>da cp ⟨sp,0,none⟩ w' (hw'.c1 bM F0))) (fun _=>bN) (fun _=>aX) ?_;rintro⟨⟩ _)|(refine aK.fe 60 ?_;refine aK.he rfl rfl (HE.aS (M0:=ax sp c.aF (tv,pv)) cv rfl rfl (fun w' hw'=>qn sp c.aF (tv,pv) f ⟨D_,p_,c_,q_,d_⟩ w' (hw'.bT cM aX) hwf.aF hb)) (fun _=>by dsimp only[ax,List.cons_append,List.nil_append];exact bN) (fun _=>aX) ?_;rintro⟨tvb,pvb⟩ _;dsimp only[ax,List.cons_append,List.nil_append])|refine aN.nil FR ?_|refine aN.any FR ?_|exact aE.fin rfl|refine aE.skip FR ?_|refine aE.go ?_ ?_)
  all_goals
   repeat'(first|refine ay ?_|fail)
   exact ai.aA rfl rfl fun w' hw'=>by
    by_cases h2:(fF c.aF f).2=0
    ·have:=ar.ok (cp:=cp) (r:=({c with aF:=(fF c.aF f).1},(fF c.aF f).2)) (⟨sp,tvb,pvb,bv,rv,fv,D,L⟩:fJ) h2 ⟨hg.len,hg.fr,hg.rs⟩ hS hw' FC ao
     rw[h2];exact this
    ·exact ar.err _ rfl h2 hS hw' ao
 ·unfold qE
  rw[if_pos he]
  repeat'(first|refine ay ?_|(refine Fb fun b_=>?_)|refine uY ?_|(refine aa.ak (f:=59) ?_;refine aa.he (HE.BG (r:=(f,e0)) rfl rfl (fun w' hw'=>hty w' _ (hw'.sub (List.Sublist.refl _) aX))) rfl ?_;rintro⟨D_,p_,c_,q_,d_⟩ _;dsimp only)|fail)
  all_goals first|omega|exact ai.aA rfl rfl fun w' hw'=>ar.err e0 rfl he hS hw' ao
section
variable {n:Nat} {E:Env} {M:List aU} {R:List (World→Prop)} {f:Nat} {args:List Operand} {tys:Array TypeId} {vs:List Value}
theorem HE.qK {m:ae} (hf:G.fb[f]?=some true) (ha:ji E args=some vs) (hc:∀w,Ok M R w→Calls G.P f vs.toArray w (pP m w)):
  HE n (.call ⟨.value (.func f),args.toArray,tys⟩) E M R (fun _:Nat×Value=>True) (fun x=>x.2) (fun _=>M) (fun x=>(fun w=>aV x.1 m w x.2)::R):=
 ⟨fun w hw=>(bC.call hf ha (hc w hw) (fun e w' h=>by obtain⟨⟨x,e1,_⟩,_⟩:=h;exact⟨_,e1⟩)).mono fun v w' ⟨⟨x,e1,hv⟩,hx⟩=>by
  cases e1
  refine⟨(w.heap.size,v),trivial,rfl,(hw.ext hx).add fun w2 h2=>hv.aB h2 fun k hk hm=>?_⟩
  obtain⟨q,hq,hk'⟩:=hm
  have:=(hw.m q hq).2 k hk';omega⟩
end
theorem ar.vH {M0:List aU} {cp:Nat} {r:dq×Int} {w w':World} {e:Ending} (h:ar M0 cp r w e w') (hr:r.2=0):aq M0 w (fun _:fJ=>.int .i64 0) (fun v'=>v'.Good r.1) (aw cp r.1) e w':=by
 obtain⟨x,e1,h2,h3,h4,h5⟩:=h
 dsimp only at h3 h5
 rw[if_pos hr]at h3
 simp only[if_pos hr]at h5
 rw[hr]at e1
 exact⟨x,e1,h2 hr,h3,h4,h5⟩
theorem ar.bad {M0:List aU} {cp:Nat} {r:dq×Int} {w w':World} {e:Ending} (h:ar M0 cp r w e w') {q:Int} (hr:r.2=q) (hq:q≠0):aq M0 w (fun _:fJ=>.int .i64 q) (fun _=>True) (fun _=>[]) e w':=by
 obtain⟨x,e1,h2,h3,h4,h5⟩:=h
 dsimp only at h3 h5
 rw[if_neg FY]at h3
 simp only[if_neg (show¬r.2=0 by omega)]at h5
 rw[hr]at e1
 exact⟨x,e1,trivial,h3,h4,h5⟩
theorem Ok.ow {M:List aU} {R:List (World→Prop)} {w0 w:World} {b T:Nat} {cs:List Value} (h:Ok M R w) (hR:Ext w0∈R) (hm:aU.aH b cs T∈M):eA w b cs T∧w0.heap.size≤b:=by
 refine⟨(h.m _ hm).1,?_⟩
 rcases Nat.lt_or_ge b w0.heap.size with hlt|hge
 ·exact(h.origin (S:=fun _=>False) hR b ⟨_,hm,rfl⟩ hlt).elim
 ·exact hge
theorem sj {w:World} {b T:Nat} {cs:List Value} (h:eA w b cs T) {s:Nat} (hs:cs.length=s):∀j,j<s→w.cell? ⟨b,0+0*s+j,none⟩=cs[j]?:=fun j hj=>by
 rw[Nat.zero_mul,Nat.zero_add,List.getElem?_eq_getElem FY]
 exact h.cell (List.getElem?_eq_getElem FY)
section
variable {n:Nat} {E:Env} {C:World→Prop} {x y:Operand} {t t2:TypeId}
theorem Yl.Bn {ti:TypeId} (ht:G.P.underlying t=some (.pointer ti)) (hx:ev E x=some (.pointer none)) (hy:ev E y=some (.pointer none)):Yl G n (.binOp .eql t x y t2) E C (.bool true):=
 ⟨fun w _ a ha d ty pos aft gd=>by
  have h2:∀m,(Op.equalIn (m+1) t (.pointer none) (.pointer none)).run G.P w=.ok true w:=by
   intro m;simp[Op.equalIn,run_underlying ht]
  have h3:(Op.equal t (.pointer none) (.pointer none)).run G.P w=.ok true w:=h2 9999
  simp[execOp,ha.eval hx,ha.eval hy,eqGuard,binOp,h3]⟩
end
abbrev Ba:Nat:=49
abbrev CK:Nat:=63
def ld (D:Nat→Prop) (w:World) (L:List (List Int×Value)):Prop:=∀y∈L,af D w y.2 y.1
theorem ld.fr:Aj ld:=fun h hc hd y hy=>(h y hy).aB hc hd
theorem ld.snoc {D H:Nat→Prop} {w:World} {L:List (List Int×Value)} {l:List Int} {u:Value} (h:ld D w L) (hu:af H w u l):ld (fun k=>D k∨H k) w (L++[(l,u)]):=fun y hy=>by
 rcases List.mem_append.1 hy with hy|hy
 ·exact(h y hy).mono fun _ _ h=>.inl h
 ·rw[List.mem_singleton]at hy;subst hy;exact hu.mono fun _ _ h=>.inr h
theorem ld.nil (D:Nat→Prop) (w:World):ld D w []:=fun _ h=>by cases h
theorem Ok.xO {M:List aU} {R:List (World→Prop)} {w:World} (h:Ok M R w):Ok (.iy ld ld.fr (fun _=>False) []::M) R w:=
 h.push (bz.refl _ w) (ld.nil _ _) (fun _k hk=>hk.elim)
theorem aP.xO {Q:Exit→Act→World→Prop} {n:Nat} {c:Code} {E:Env} {M:List aU} {R:List (World→Prop)} (h:aP Q n c E (.iy ld ld.fr (fun _=>False) []::M) R):aP Q n c E M R:=⟨fun w hw=>h.h w hw.xO⟩
theorem aa.kp {ops:Array Oper} {Q:Exit→Act→World→Prop} {n:Nat} {l:List Oper} {E:Env} {q1 q2 q:aU} {M M1 M2:List aU} {R:List (World→Prop)} (h1:Rm q1 M M1) (h2:Rm q2 M1 M2) (hF:∀k,q.F k→q1.F k∨q2.F k) (hP:∀w,q1.P w→q2.P w→q.P w) (h:aa ops Q n l E (q::M2) R):aa ops Q n l E M R:=
 ⟨fun w hw=>h.h w (((hw.front h1).front (Rm.tail h2)).merge (fun k hk=>(hF k hk).symm) (fun a b=>hP w b a))⟩
theorem zt (j:Nat) (a:Int) (o:List Int):(aR (List.replicate (j+1) 0++o)).set j (.int .i64 a)=aR (List.replicate j 0++(a::o)):=by
 unfold aR
 rw[List.replicate_succ',List.append_assoc,List.map_append,List.map_append,List.set_append_right _ _ FZ]
 simp
structure gY (jd:Int→List Int×Int) (ls:List Int) (i:Nat) (L:List (List Int×Value)):Prop where
 len:L.length=i
 ok:∀j,j<i→(jd (ix ls j)).2=0
 row:L.map Prod.fst=(ls.take i).map fun n=>(jd n).1
theorem gY.nil (jd:Int→List Int×Int) (ls:List Int):gY jd ls 0 []:=⟨rfl,fun _ h=>absurd h FY,rfl⟩
theorem gY.snoc {jd:Int→List Int×Int} {ls:List Int} {i:Nat} {L:List (List Int×Value)} (h:gY jd ls i L) (hi:i<ls.length) {l:List Int} (e:jd (ix ls i)=(l,0)) (u:Value):gY jd ls (i+1) (L++[(l,u)]):=by
 refine⟨by rw[List.length_append,h.len];rfl,fun j hj=>?_,?_⟩
 ·rcases Nat.lt_or_ge j i with hlt|hge
  ·exact h.ok j hlt
  ·obtain rfl:j=i:=by omega
   rw[e]
 ·rw[List.map_append,h.row,bu hi,List.map_append]
  simp[e]
theorem gY.types {jd:Int→List Int×Int} {ls:List Int} {L:List (List Int×Value)} (h:gY jd ls ls.length L):fC jd ls=(L.map Prod.fst,0):=by
 rw[qu (fun j hj=>h.ok j hj),h.row,List.take_length]
theorem gY.err {jd:Int→List Int×Int} {ls:List Int} {i:Nat} {L:List (List Int×Value)} (h:gY jd ls i L) (hi:i<ls.length) {l:List Int} {e:Int} (he:jd (ix ls i)=(l,e)) (h0:e≠0):fC jd ls=([],e):=by
 have:=o9 (jd:=jd) hi h.ok (by rw[he];exact h0)
 rw[he]at this;exact this
theorem xE {L:List (List Int×Value)} {i:Nat} (h:i<L.length):ix (L.map Prod.fst) i=(ix L i).1:=by
 rw[cI FS,cI h];simp
theorem all_true {L:List (List Int×Value)} {p:List Int→Bool} (h:∀i,i<L.length→p (ix L i).1=true):((L.map Prod.fst).all p)=true:=by
 rw[List.all_eq_true]
 intro l hl
 obtain⟨y,hy,rfl⟩:=List.mem_map.1 hl
 obtain⟨i,hi,rfl⟩:=List.getElem_of_mem hy
 have:=h i hi
 rwa[cI hi]at this
theorem all_false {L:List (List Int×Value)} {p:List Int→Bool} {i:Nat} (hi:i<L.length) (h:p (ix L i).1=false):((L.map Prod.fst).all p)=false:=by
 rw[List.all_eq_false]
 refine⟨(ix L i).1,List.mem_map.2 ⟨ix L i,?_,rfl⟩,by rw[h];decide⟩
 rw[cI hi];exact List.getElem_mem hi
theorem xr (s:cU) (n:Nat):si (dx s n) []=dx s n:=by
 unfold si
 by_cases he:(dx s n).2.2≠0
 ·rw[if_pos he]
  cases n with
  |zero=>exact absurd rfl he
  |succ n=>
   rw[dx]at he ⊢
   by_cases h1:(aZ s).2.2≠0
   ·rw[if_pos h1]
   ·rw[if_neg h1]at he ⊢
    by_cases h2:(dx (aZ s).1 n).2.2≠0
    ·rw[if_pos h2]
    ·rw[if_neg h2]at he;exact absurd rfl he
 ·rw[if_neg he,List.append_nil]
  have:(dx s n).2.2=0:=Classical.byContradiction he
  rw[←this]
section
variable {Q:Exit→Act→World→Prop} {n:Nat} {E:Env} {M:List aU} {R:List (World→Prop)}
theorem aP.zV {σ:Type} {c:Code} (Ei:σ→Env) (Mi:σ→List aU) (Ri:σ→List (World→Prop)) (I:σ→Prop) (μ:σ→Nat) (s0:σ) (hE:Sub E (Ei s0)) (hM:gz (Mi s0) M) (hR:∀p,p∈Ri s0→p∈R) (hI:I s0)
  (round:∀s,I s→aP (Exit.then (uE n Ei Mi Ri I μ s) Q) n c (Ei s) (Mi s) (Ri s)):aP Q n (.loop c) E M R:=
 ⟨fun _w hw=>Cd.loop Ei (fun s w=>I s∧Ok (Mi s) (Ri s) w) μ s0 hE ⟨hI,hw.bT hM hR⟩ fun s w ⟨h1,h2⟩=>(round s h1).h w h2⟩
theorem ai.zX {σ:Type} {Ei:σ→Env} {Mi:σ→List aU} {Ri:σ→List (World→Prop)} {I:σ→Prop} {μ:σ→Nat} {s:σ} (s':σ) (hE:Sub E (Ei s')) (hM:gz (Mi s') M) (hR:∀p,p∈Ri s'→p∈R) (hI:I s') (hμ:μ s'<μ s):
  ai (Exit.then (uE n Ei Mi Ri I μ s) Q) n .normal E M R:=⟨fun _w hw=>Fin.next s' hE ⟨hI,hw.bT hM hR⟩ hμ⟩
end
theorem uy (l:List Int) (a:Int):aR (l++[a])=aR l++[.int .i64 a]:=by unfold aR;rw[List.map_append];rfl
theorem HE.DI {n:Nat} {E:Env} {M:List aU} {R:List (World→Prop)} {x:Operand} {len:Nat} (hx:ev E x=some (.int .i64 (len:Int))) (hml:len≤100000000000):HE n (.makeSlice 49 x x) E M R (fun _:Nat=>True) (fun g=>.slice (some ⟨g,0,none⟩) len len) (fun g=>.own 0 eV 1 (.slice (some ⟨g,0,none⟩) len len) len (aR (List.replicate len 0))::M) (fun _=>R):=by
 have h:=HE.CU (n:=n) (E:=E) (M:=M) (R:=R) (B:=0) (t:=49) (x:=x) (len:=len) rfl rfl rfl rfl hx F0 hml (fun _ _=>Nat.zero_le _)
 have hz:aR (List.replicate len 0)=(madeCells (#[.int .i64 0]:Array Value) (len*1)).toList:=by rw[Nat.mul_one,toList_madeCells_one];unfold aR;rw[List.map_replicate]
 rw[hz]
 exact h
set_option maxHeartbeats 16000000 in
theorem uh (F:Nat→Prop) (cp:Nat) (c:dq) (v:fJ) (x:bZ) (pt pl:Option Addr) (ct cl:Nat) (w:World) (hw:Ok (aw cp c v) [fun w=>af F w (.slice pl x.labels.length cl) x.labels] w) (hg:v.Good c) (hb:c.broken=0) (hwf:c.Wf) (hlb:∀n,(bR c n).1.length≤100000000000) (hll:x.labels.length≤10000000):Calls G.P 95 #[.pointer (some ⟨cp,0,none⟩),.agg #[Value.int .i64 x.op,Value.int .i64 x.a,Value.int .i64 x.b,Value.int .u64 x.n,Value.int .i64 x.kind,Value.int .i64 x.val,Value.int .i64 x.index,Value.slice pt x.types.length ct,Value.slice pl x.labels.length cl]] w (ar (aw cp c v) cp ({c with aF:=(cr c x).1},(cr c x).2) w):=by
 have hI:af F w (.slice pl x.labels.length cl) x.labels:=hw.get (p:=fun w=>af F w (.slice pl x.labels.length cl) x.labels) FZ
 refine aj (l:=[_,_]) Tryz.func95 rfl Tryz.ntmps95 rfl (Ok.bV hw) ?_
 generalize hS:Mb (aw cp c v)=S0
 obtain⟨sp,tv,pv,bv,rv,fv,D,L⟩:=v
 obtain⟨ls,hls⟩:∃l,x.labels++[x.a]=l:=⟨_,rfl⟩
 have hln:ls.length=x.labels.length+1:=by rw[←hls];simp
 obtain⟨N,hN⟩:∃N,x.labels.length=N:=⟨_,rfl⟩
 dsimp only[aw,ax,List.cons_append,List.nil_append]
 repeat'(first|refine ay ?_|(refine br fun b_=>?_)|fail)
 obtain⟨b3,rfl⟩:∃y:Nat,y=b_:=⟨_,rfl⟩
 refine aP.ia 0 3 1 ?_
 refine aP.du [.aH b3 [Value.int .i64 x.op,Value.int .i64 x.a,Value.int .i64 x.b,Value.int .u64 x.n,Value.int .i64 x.kind,Value.int .i64 x.val,Value.int .i64 x.index,Value.slice pt x.types.length ct,Value.slice pl x.labels.length cl] CK] [] bN aX ?_
 refine aN.zS (α:=Option Addr×Nat) (fun y=>[(0,.pointer (some ⟨cp,0,none⟩)),(4,.int .i64 0),(5,.slice none 0 0),(28,.slice y.1 (x.labels.length+1) y.2),(29,.int .i64 ((x.labels.length+1:Nat):Int)),(30,.int .i64 0)]) (fun y=>.own 0 3 1 (.slice y.1 (x.labels.length+1) y.2) (x.labels.length+1) (aR x.labels++[.int .i64 x.a])::aw cp c ⟨sp,tv,pv,bv,rv,fv,D,L⟩) (fun _=>[bz S0 w]) ?_ fun hrest=>?_
 rotate_left
 ·repeat'(first|refine tx ?_|(refine aK.vL ?_;refine aK.he rfl rfl (HE.mq rfl rfl rfl rfl rfl fS F0 F0) (fun _=>bN) (fun _=>aX) ?_;rintro bl _)|(refine aK.vK ?_;refine aK.he rfl rfl (HE.app rfl rfl (fun _=>bM) bM rfl rfl rfl F0 F0 F0 F0 F0 F0 FY (fun _ _=>Nat.zero_le _)) (fun _=>bN) (fun _=>aX) ?_;rintro vb _;refine aN.pure (φ:=∃p cc,vb=.slice p (x.labels.length+1) cc) (fun w' hw'=>by obtain⟨p,cc,e,_⟩:=au (hw'.own (v:=vb));exact⟨p,cc,e⟩) ?_;rintro⟨pb,cb,rfl⟩)|(refine aK.vK ?_;refine aK.he rfl rfl (HE.lL (aR x.labels) rfl rfl (fun _=>bM) (sA hI ao) (by simp[aR]) rfl rfl rfl F0 F0 F0 (gB _) (by show(0+x.labels.length)*8≤_;omega) FY (fun _ _=>Nat.zero_le _)) (fun _=>bN) (fun _=>aX) ?_;rintro va _;simp only[Nat.zero_add,List.nil_append];refine aN.pure (φ:=∃p cc,va=.slice p x.labels.length cc) (fun w' hw'=>by obtain⟨p,cc,e,_⟩:=au (hw'.own (v:=va));exact⟨p,cc,e⟩) ?_;rintro⟨pa,ca,rfl⟩)|refine aN.nil FR ?_|refine aN.any FR ?_|exact aE.fin rfl|refine aE.skip FR ?_|refine aE.go ?_ ?_)
  all_goals exact ai.bT (hrest (pb,cb)) bP FC aX
 ·rintro⟨pa,ca⟩
  dsimp only
  repeat'(first|refine ay ?_|fail)
  refine aP.pure (φ:=∃g,pa=some ⟨g,0,none⟩) (fun w' hw'=>by
   obtain⟨p,cc,e,_,_,hg⟩:=au (hw'.own (B:=0) (T:=3) (v:=.slice pa (x.labels.length+1) ca))
   cases e
   obtain⟨g,hg,_⟩:=hg FY
   exact⟨g,hg⟩) ?_
  rintro⟨ga,rfl⟩
  refine aP.freeze (q:=.own 0 3 1 (.slice (some ⟨ga,0,none⟩) (x.labels.length+1) ca) (x.labels.length+1) (aR x.labels++[.int .i64 x.a])) (fun w=>∀i,i<ls.length→w.cell? ⟨ga,0+i,none⟩=some (.int .i64 (ix ls i))) gV (fun w' h _ i hi=>by rw[Nat.zero_add];exact dJ h (by have:=mj hi;rw[Nat.zero_add,←hls,uy]at this;rw[←hls];exact this)) ?_
  refine aP.ia 0 Ba 1 ?_
  refine aP.xO ?_
  refine aP.loop (σ:=Nat×List (List Int×Value)×(Nat→Prop)×Option Addr×Nat) (fun z=>[(0,.pointer (some ⟨cp,0,none⟩)),(4,.int .i64 0),(5,.slice z.2.2.2.1 z.1 z.2.2.2.2),(28,.slice (some ⟨ga,0,none⟩) (x.labels.length+1) ca),(29,.int .i64 ((x.labels.length+1:Nat):Int)),(30,.int .i64 z.1)]) (fun z=>.iy ld ld.fr z.2.2.1 z.2.1::.own 0 Ba 1 (.slice z.2.2.2.1 z.1 z.2.2.2.2) z.1 (z.2.1.map Prod.snd)::aw cp c ⟨sp,tv,pv,bv,rv,fv,D,L⟩) (fun _=>[bz S0 w,fun w=>∀i,i<ls.length→w.cell? ⟨ga,0+i,none⟩=some (.int .i64 (ix ls i))]) (fun z=>z.1≤ls.length∧gY (bR c) ls z.1 z.2.1) (fun z=>ls.length - z.1) (0,[],fun _=>False,none,0) bP (by dsimp only[aw,ax,List.cons_append,List.nil_append,List.map];exact bN) aX ⟨Nat.zero_le _,gY.nil _ _⟩ ?_
  rintro⟨i,L2,DD,rp,rc⟩ ⟨hi,hrw⟩
  dsimp only[aw,ax,List.cons_append,List.nil_append]at hi hrw ⊢
  by_cases hin:i<ls.length
  ·refine aP.kJ (Go.Proofs.YtceedealggognaaGreatDoor.cl ga (0+i) (.int .i64 (ix ls i))) (fun w' h=>h (fun w=>∀i,i<ls.length→w.cell? ⟨ga,0+i,none⟩=some (.int .i64 (ix ls i))) ao i hin) ?_
   repeat'(first|refine ay ?_|fail)
   refine aa.he (HE.aS (M0:=[]) k9.nil rfl rfl (fun w' hw'=>ly cp c ⟨sp,tv,pv,bv,rv,fv,D,L⟩ (ix ls i) w' ((hw'.bT (M':=aw cp c ⟨sp,tv,pv,bv,rv,fv,D,L⟩) cM (fun _ h=>h)).uM (List.Sublist.refl _)) hg hb)) rfl ?_
   intro u _
   dsimp only[List.cons_append,List.nil_append]
   obtain⟨q,hq⟩:∃q,bR c (ix ls i)=q:=⟨_,rfl⟩
   have hql:=hlb (ix ls i)
   rw[hq]at hql ⊢
   obtain⟨l,e⟩:=q
   dsimp only at hql ⊢
   by_cases he:e=0
   ·subst he
    refine aa.pure (φ:=∃p cc,u=.slice p l.length cc) (fun w' hw'=>by obtain⟨p,cc,e,_⟩:=au (hw'.own (B:=0) (T:=eV) (v:=u));exact⟨p,cc,e⟩) ?_
    rintro⟨pu,cu,rfl⟩
    repeat'(first|refine ay ?_|(refine fP fun b_ _=>?_)|fail)
    refine aa.he (HE.app rfl rfl (fun _=>bM) bM rfl rfl rfl F0 F0 F0 F0 F0 F0 FY (fun _ _=>Nat.zero_le _)) rfl ?_
    intro v5 _
    refine aa.pure (φ:=∃p cc,v5=.slice p (i+1) cc) (fun w' hw'=>by obtain⟨p,cc,e,_⟩:=au (hw'.own (B:=0) (T:=Ba) (v:=v5));exact⟨p,cc,e⟩) ?_
    rintro⟨p5,c5,rfl⟩
    refine aa.kp (q1:=.iy ld ld.fr DD L2) (q2:=.own 0 eV 1 (.slice pu l.length cu) l.length (aR l)) (q:=.iy ld ld.fr (fun k=>DD k∨(Value.slice pu l.length cu).ownBlock=some k) (L2++[(l,.slice pu l.length cu)])) gV gV (fun k hk=>hk) (fun w' h1 h2=>ld.snoc h1 (dC h2 FY)) ?_
    simp only[List.getElem_toArray,List.getElem_cons_zero,List.getElem_cons_succ]
    rw[show L2.map Prod.snd++[Value.slice pu l.length cu]=(L2++[(l,Value.slice pu l.length cu)]).map Prod.snd by simp]
    repeat'(first|refine ay ?_|fail)
    exact ai.next (i+1,L2++[(l,.slice pu l.length cu)],_,p5,c5) bP Fz aX ⟨by dsimp only;omega,hrw.snoc hin hq _⟩ FP
   ·have htk:cr c x=(c.aF,e):=by unfold cr;rw[hls,hrw.err hin hq he];exact if_pos he
    repeat'(first|refine ay ?_|fail)
    all_goals first|(exfalso;omega)|exact ai.aA rfl rfl fun w' hw'=>ar.err e (by show(cr c x).2=e;rw[htk]) he hS hw' ao
  ·obtain rfl:i=ls.length:=by omega
   have hlen:=hrw.len
   have htk:=hrw.types
   have hmem:∀{j:Nat},j<ls.length→ix L2 j∈L2:=fun{j} hj=>by rw[cI FY];exact List.getElem_mem _
   refine aP.pure (φ:=∃g,rp=some ⟨g,0,none⟩) (fun w' hw'=>by
    obtain⟨p,cc,e,_,_,hg⟩:=au (hw'.own (B:=0) (T:=Ba) (v:=.slice rp ls.length rc))
    cases e
    obtain⟨g,hg,_⟩:=hg FY
    exact⟨g,hg⟩) ?_
   rintro⟨gr,rfl⟩
   refine aP.pure (φ:=∀y∈L2,∃p cc,y.2=.slice p y.1.length cc) (fun w' hw' y hy=>by
    have hm:=(hw'.m (.iy ld ld.fr DD L2) gG).1
    obtain⟨p,cc,e,_⟩:=(hm y hy).slice
    exact⟨p,cc,e⟩) ?_
   intro hsl
   refine aP.freeze (q:=.own 0 Ba 1 (.slice (some ⟨gr,0,none⟩) ls.length rc) ls.length (L2.map Prod.snd)) (fun w=>∀i,i<ls.length→w.cell? ⟨gr,0+i,none⟩=some (ix L2 i).2) gV (fun w' h _ i hi=>by
    rw[Nat.zero_add]
    refine dJ h ?_
    rw[List.getElem?_map,List.getElem?_eq_getElem (show i<L2.length by omega),cI (show i<L2.length by omega)]
    rfl) ?_
   refine aP.freeze (q:=.iy ld ld.fr DD L2) (fun w=>ld DD w L2) gV (fun _ h _=>h) ?_
   obtain⟨n0,hn0⟩:∃n0,ls.length=n0+1:=⟨x.labels.length,hln⟩
   obtain⟨pL,cL,eL⟩:=hsl (ix L2 n0) (hmem FY)
   obtain⟨lst,hlst⟩:∃l,(ix L2 n0).1=l:=⟨_,rfl⟩
   rw[hlst]at eL
   have hlast:ix (L2.map Prod.fst) ((L2.map Prod.fst).length - 1)=lst:=by rw[List.length_map,hlen,hn0];show ix (L2.map Prod.fst) n0=_;rw[xE FY,hlst]
   have hlstl:lst.length≤100000000000:=by
    have h1:ix (L2.map Prod.fst) n0=(bR c (ix ls n0)).1:=by
     rw[hrw.row,List.take_length,cI (show n0<(ls.map fun n=>(bR c n).1).length by rw[List.length_map];omega),List.getElem_map,cI (show n0<ls.length by omega)]
    rw[xE FY,hlst]at h1
    rw[h1];exact hlb _
   have htab:cr c x=iZ (L2.map Prod.fst) c.aF:=by unfold cr;rw[hls,htk];exact if_neg (fun h=>h rfl)
   refine aP.kJ (Go.Proofs.YtceedealggognaaGreatDoor.cl gr (0+n0) (.slice pL lst.length cL)) (fun w' h=>by rw[←eL];exact h (fun w=>∀i,i<ls.length→w.cell? ⟨gr,0+i,none⟩=some (ix L2 i).2) ao n0 FY) ?_
   repeat'(first|refine ay ?_|(refine aa.dX ?_;refine aa.y_ (Yl.fL (i:=n0) rfl rfl rfl rfl rfl FY FY) rfl ?_)|fail)
   refine aP.loop (σ:=Nat) (fun j=>[(0,.pointer (some ⟨cp,0,none⟩)),(4,.int .i64 0),(5,.slice (some ⟨gr,0,none⟩) ls.length rc),(10,.slice pL lst.length cL),(54,.slice (some ⟨gr,0,none⟩) ls.length rc),(55,.int .i64 ls.length),(56,.int .i64 j)]) (fun _=>aw cp c ⟨sp,tv,pv,bv,rv,fv,D,L⟩) (fun _=>[bz S0 w,fun w=>∀i,i<ls.length→w.cell? ⟨gr,0+i,none⟩=some (ix L2 i).2,fun w=>ld DD w L2]) (fun j=>j≤ls.length∧∀q,q<j→(ix L2 q).1.length=lst.length) (fun j=>ls.length - j) 0 bP Fz aX ⟨Nat.zero_le _,fun q hq=>absurd hq FY⟩ ?_
   rintro j ⟨hj,hok⟩
   dsimp only[aw,ax,List.cons_append,List.nil_append]
   by_cases hjn:j<ls.length
   ·obtain⟨pj,cj,ej⟩:=hsl (ix L2 j) (hmem hjn)
    refine aP.kJ (Go.Proofs.YtceedealggognaaGreatDoor.cl gr (0+j) (.slice pj (ix L2 j).1.length cj)) (fun w' h=>by rw[←ej];exact h (fun w=>∀i,i<ls.length→w.cell? ⟨gr,0+i,none⟩=some (ix L2 i).2) ao j hjn) ?_
    by_cases hle:(ix L2 j).1.length=lst.length
    ·repeat'(first|refine ay ?_|fail)
     all_goals first|(exfalso;omega)|exact ai.next (j+1) bP Fz aX ⟨by omega,fun q hq=>by rcases Nat.lt_or_ge q j with h|h;exact hok q h;rw[show q=j by omega];exact hle⟩ FY
    ·have hbr:cr c x=(c.aF,12):=by
      rw[htab];unfold iZ
      rw[hlast,if_pos (all_false (i:=j) FY (decide_eq_false hle))]
     repeat'(first|refine ay ?_|fail)
     all_goals exact ex
   ·obtain rfl:j=ls.length:=by omega
    have hall:((L2.map Prod.fst).all fun l=>decide (l.length=lst.length))=true:=all_true fun i hi=>decide_eq_true (hok i FY)
    obtain⟨r0,hr0⟩:∃r,aO c.aF [1]=r:=⟨_,rfl⟩
    have hw0:=dp hwf.aF [1]
    have ht0:=dn c.aF [1]
    rw[hr0]at hw0 ht0
    obtain⟨s0,e0⟩:=r0
    dsimp only at hw0 ht0
    have htb2:cr c x=if e0≠0 then(c.aF,e0)else if(dx s0 lst.length).2.2≠0 then(c.aF,(dx s0 lst.length).2.2)else if((L2.map Prod.fst).all fun l=>nX (dx s0 lst.length).2.1 l)=false then(c.aF,12)else((dx s0 lst.length).1,0):=by
     rw[htab];unfold iZ
     rw[hlast,hall,hr0,if_neg FX]
    repeat'(first|refine ay ?_|refine Fj ?_|(refine fP fun b_ _=>?_)|fail)
    obtain⟨b0,rfl⟩:∃y:Nat,y=b_:=⟨_,rfl⟩
    refine aa.freeze (q:=.aH b0 [.int .i64 1] eV) (fun w=>af (fun k=>k=b0) w (.slice (some ⟨b0,0,none⟩) 1 1) [1]) gV (fun w' h _=>eQ h) ?_
    refine aa.he (HE.aS (M0:=ax sp c.aF (tv,pv)) cv rfl rfl (fun w' hw'=>by have:=dN (fun k=>k=b0) sp c.aF (tv,pv) (.slice (some ⟨b0,0,none⟩) 1 1) [1] w' (hw'.bT cM aX) hwf.aF.some hwf.aF.at_.1 hwf.aF.at_.2;rw[hr0]at this;exact this)) rfl ?_
    rintro⟨tv0,pv0⟩ _
    dsimp only[ax,List.cons_append,List.nil_append]
    by_cases nc:e0=0
    ·subst nc
     rw[if_neg (fun h=>h rfl)]at htb2
     repeat'(first|refine ay ?_|fail)
     refine aa.he (HE.DI (len:=lst.length) rfl hlstl) rfl ?_
     intro gp _
     repeat'(first|refine ay ?_|fail)
     refine aP.zV (σ:=Nat×cU×List Int×Value×Value) (fun z=>[(0,.pointer (some ⟨cp,0,none⟩)),(4,.int .i64 0),(5,.slice (some ⟨gr,0,none⟩) ls.length rc),(14,.slice (some ⟨gp,0,none⟩) lst.length lst.length),(15,.int .i64 ((z.1:Int) - 1))]) (fun z=>.own 0 eV 1 (.slice (some ⟨gp,0,none⟩) lst.length lst.length) lst.length (aR (List.replicate z.1 0++z.2.2.1))::aw cp {c with aF:=z.2.1} ⟨sp,z.2.2.2.1,z.2.2.2.2,bv,rv,fv,D,L⟩) (fun _=>[bz S0 w,fun w=>∀i,i<ls.length→w.cell? ⟨gr,0+i,none⟩=some (ix L2 i).2,fun w=>ld DD w L2]) (fun z=>z.1+z.2.2.1.length=lst.length∧z.2.1.Wf∧dx s0 lst.length=si (dx z.2.1 z.1) z.2.2.1) (fun z=>z.1) (lst.length,s0,[],tv0,pv0) bP ?_ aX ⟨by dsimp only;rw[List.length_nil,Nat.add_zero],hw0,(xr _ _).symm⟩ ?_
     ·dsimp only[aw,ax,List.cons_append,List.nil_append]
      rw[List.append_nil]
      exact cM
     rintro⟨j,s1,o,tv1,pv1⟩ ⟨hjo,wf1,hpk⟩
     dsimp only[aw,ax,List.cons_append,List.nil_append]at hjo wf1 hpk ⊢
     rcases Nat.eq_zero_or_pos j with rfl|hj0
     ·have hf:dx s0 lst.length=(s1,o,0):=by rw[hpk];rfl
      rw[hf,if_neg (fun h=>h rfl)]at htb2
      dsimp only at htb2
      rw[show((0:Nat):Int) - 1=-1 from rfl,show List.replicate 0 (0:Int)=[]from rfl,List.nil_append]
      refine aP.freeze (q:=.own 0 eV 1 (.slice (some ⟨gp,0,none⟩) lst.length lst.length) lst.length (aR o)) (fun w=>∀q,q<lst.length→w.cell? ⟨gp,0+q,none⟩=some (.int .i64 (ix o q))) gV (fun w' h _ q hq=>by rw[Nat.zero_add];exact dJ h (by have:=mj (l:=o) (i:=q) FY;rwa[Nat.zero_add]at this)) ?_
      repeat'(first|refine ay ?_|fail)
      refine aP.loop (σ:=Nat) (fun j=>[(4,.int .i64 0),(14,.slice (some ⟨gp,0,none⟩) lst.length lst.length),(96,.slice (some ⟨gr,0,none⟩) ls.length rc),(97,.int .i64 ls.length),(98,.int .i64 j)]) (fun _=>aw cp {c with aF:=s1} ⟨sp,tv1,pv1,bv,rv,fv,D,L⟩) (fun _=>[bz S0 w,fun w=>∀i,i<ls.length→w.cell? ⟨gr,0+i,none⟩=some (ix L2 i).2,fun w=>ld DD w L2,fun w=>∀q,q<lst.length→w.cell? ⟨gp,0+q,none⟩=some (.int .i64 (ix o q))]) (fun j=>j≤ls.length∧∀q,q<j→nX o (ix L2 q).1=true) (fun j=>ls.length - j) 0 bP Fz aX ⟨Nat.zero_le _,fun q hq=>absurd hq FY⟩ ?_
      rintro j ⟨hj,hfit⟩
      dsimp only[aw,ax,List.cons_append,List.nil_append]
      by_cases hjn:j<ls.length
      ·obtain⟨pj,cj,ej⟩:=hsl (ix L2 j) (hmem hjn)
       have hle:=hok j hjn
       obtain⟨l,hlj⟩:∃l,(ix L2 j).1=l:=⟨_,rfl⟩
       rw[hlj]at ej hle
       have hin2:∀w',ld DD w' L2→af DD w' (.slice pj l.length cj) l:=fun w' h=>by have:=h _ (hmem hjn);rw[ej,hlj]at this;exact this
       refine aP.kJ (Go.Proofs.YtceedealggognaaGreatDoor.cl gr (0+j) (.slice pj l.length cj)) (fun w' h=>by rw[←ej];exact h (fun w=>∀i,i<ls.length→w.cell? ⟨gr,0+i,none⟩=some (ix L2 i).2) ao j hjn) ?_
       repeat'(first|refine ay ?_|fail)
       refine aP.loop (σ:=Nat) (fun q=>[(4,.int .i64 0),(14,.slice (some ⟨gp,0,none⟩) lst.length lst.length),(96,.slice (some ⟨gr,0,none⟩) ls.length rc),(97,.int .i64 ls.length),(98,.int .i64 j),(102,.slice pj l.length cj),(103,.int .i64 l.length),(104,.int .i64 q)]) (fun _=>aw cp {c with aF:=s1} ⟨sp,tv1,pv1,bv,rv,fv,D,L⟩) (fun _=>[bz S0 w,fun w=>∀i,i<ls.length→w.cell? ⟨gr,0+i,none⟩=some (ix L2 i).2,fun w=>ld DD w L2,fun w=>∀q,q<lst.length→w.cell? ⟨gp,0+q,none⟩=some (.int .i64 (ix o q))]) (fun q=>q≤l.length∧∀r,r<q→ix o r=0∨ix o r=ix l r) (fun q=>l.length - q) 0 bP Fz aX ⟨Nat.zero_le _,fun q hq=>absurd hq FY⟩ ?_
       rintro q ⟨hq,hqs⟩
       dsimp only[aw,ax,List.cons_append,List.nil_append]
       by_cases hql:q<l.length
       ·refine aP.pure (φ:=∃b oo,pj=some ⟨b,oo,none⟩) (fun w' hw'=>by obtain⟨b,oo,e,_⟩:=(hin2 w' (hw'.get (p:=fun w=>ld DD w L2) ao)).at hql;exact⟨b,oo,e⟩) ?_
        rintro⟨bj,oj,rfl⟩
        refine aP.kJ (Go.Proofs.YtceedealggognaaGreatDoor.cl bj (oj+q) (.int .i64 (ix l q))) (fun w' h=>by obtain⟨b,oo,e,_,hc⟩:=(hin2 w' (h (fun w=>ld DD w L2) ao)).at hql;cases e;exact hc q hql) ?_
        refine aP.kJ (Go.Proofs.YtceedealggognaaGreatDoor.cl gp (0+q) (.int .i64 (ix o q))) (fun w' h=>h (fun w=>∀q,q<lst.length→w.cell? ⟨gp,0+q,none⟩=some (.int .i64 (ix o q))) ao q FY) ?_
        have hstep:(ix o q=0∨ix o q=ix l q)→∀r,r<q+1→ix o r=0∨ix o r=ix l r:=fun hs r hr=>by
         rcases Nat.lt_or_ge r q with hlt|hge
         ·exact hqs r hlt
         ·rw[show r=q by omega];exact hs
        by_cases h0:ix o q=0
        ·repeat'(first|refine ay ?_|fail)
         all_goals first|(exfalso;omega)|exact ai.next (q+1) bP Fz aX ⟨by omega,hstep (.inl h0)⟩ FY
        ·by_cases he:ix o q=ix l q
         ·repeat'(first|refine ay ?_|fail)
          all_goals first|(exfalso;omega)|exact ai.next (q+1) bP Fz aX ⟨by omega,hstep (.inr he)⟩ FY
         ·have hbr:cr c x=(c.aF,12):=by
           rw[htb2,if_pos (all_false (i:=j) FY (by rw[hlj];exact su FY hql (fun h=>h.elim h0 he)))]
          repeat'(first|refine ay ?_|fail)
          all_goals exact ex
       ·repeat'(first|refine ay ?_|fail)
        all_goals first|(exfalso;omega)|exact ai.next (j+1) bP Fz aX ⟨by omega,fun r hr=>by rcases Nat.lt_or_ge r j with h|h;exact hfit r h;rw[show r=j by omega,hlj];exact tK (fun i h1 h2=>hqs i FY)⟩ FY
      ·have hbr:cr c x=(s1,0):=by
        rw[htb2,if_neg (by rw[all_true (fun i hi=>hfit i FY)];decide)]
       repeat'(first|refine ay ?_|fail)
       all_goals first|(exfalso;omega)|exact ai.aA rfl rfl fun w' hw'=>by rw[hbr];exact ar.ok (r:=({c with aF:=s1},0)) (⟨sp,tv1,pv1,bv,rv,fv,D,L⟩:fJ) rfl ⟨hg.len,hg.fr,hg.rs⟩ hS hw' FC ao
     ·obtain⟨i,rfl⟩:∃i,j=i+1:=⟨j - 1,by omega⟩
      rw[wk]at hpk
      rw[show((i+1:Nat):Int) - 1=(i:Int)by omega]
      repeat'(first|refine ay ?_|refine Fj ?_|fail)
      refine rt ?_
      rintro⟨tv2,pv2⟩ _
      obtain⟨pr,hpr⟩:∃r,aZ s1=r:=⟨_,rfl⟩
      have zB:(aZ s1).1.Wf:=jP wf1
      rw[hpr]at hpk zB ⊢
      obtain⟨s2,a,e⟩:=pr
      dsimp only[ax,List.cons_append,List.nil_append]at hpk zB ⊢
      by_cases he:e=0
      ·subst he
       rw[if_neg (fun h=>h rfl)]at hpk
       repeat'(first|refine ay ?_|(refine aa.dX ?_;refine aa.y_ (Yl.fL (i:=i) rfl rfl rfl rfl rfl FY FY) rfl ?_)|fail)
       refine aa.nc (gI.Ac (i:=i) rfl rfl rfl FY rfl rfl bM (by simp[aR];omega)) ?_
       rintro⟨⟩ _
       simp only[List.getElem_toArray,List.getElem_cons_zero,List.getElem_cons_succ]
       rw[zt]
       repeat'(first|refine ay ?_|fail)
       exact ai.zX (i,s2,a::o,tv2,pv2) bP (by first|(dsimp only[aw,ax,List.cons_append,List.nil_append];exact cM)|exact cM) aX ⟨by dsimp only;rw[List.length_cons];omega,zB,hpk⟩ FP
      ·rw[if_pos he]at hpk
       have hbr:cr c x=(c.aF,e):=by rw[htb2,hpk];exact if_pos he
       repeat'(first|refine ay ?_|fail)
       all_goals first|(exfalso;omega)|exact ai.aA rfl rfl fun w' hw'=>ar.err e (by show(cr c x).2=e;rw[hbr]) he hS hw' ao
    ·have hbr:cr c x=(c.aF,e0):=by rw[htb2];exact if_pos nc
     repeat'(first|refine ay ?_|fail)
     all_goals first|(exfalso;omega)|exact ai.aA rfl rfl fun w' hw'=>ar.err e0 (by show(cr c x).2=e0;rw[hbr]) nc hS hw' ao
set_option maxHeartbeats 4000000 in
theorem oL (B:Nat) (F:Nat→Prop) (cp:Nat) (c:dq) (v:fJ) (m:ae) (locals:List Int) (sv:Value) (x:bZ) (lp pt pl:Option Addr) (lc ct cl:Nat) (w:World) (hw:Ok (aw cp c v) (lF B F m sv locals (.slice lp locals.length lc) x (.slice pt x.types.length ct) (.slice pl x.labels.length cl)) w) (hg:v.Good c) (hwf:c.Wf) (hb:c.broken=0) (hp:cW x=true) (hop:x.op=0):Calls G.P 35 #[.pointer (some ⟨cp,0,none⟩),sv,.slice lp locals.length lc,.agg #[Value.int .i64 x.op,Value.int .i64 x.a,Value.int .i64 x.b,Value.int .u64 x.n,Value.int .i64 x.kind,Value.int .i64 x.val,Value.int .i64 x.index,Value.slice pt x.types.length ct,Value.slice pl x.labels.length cl]] w (ar (aw cp c v) cp (fq c,0) w):=by
 refine aj (l:=[_,_,_,_]) Tryz.func35 rfl Tryz.ntmps35 rfl (Ok.bV hw) ?_
 generalize hS:Mb (aw cp c v)=S0
 unfold lF
 obtain⟨sp,tv,pv,bv,rv,fv,D,L⟩:=v
 dsimp only[aw,ax,List.cons_append,List.nil_append]
 have hno:=fun w' M (hw':Ok M _ w')=>iO (B:=B) (F:=F) (m:=m) (locals:=locals) (sv:=sv) (lv:=.slice lp locals.length lc) (x:=x) (pt:=pt) (pl:=pl) (ct:=ct) (cl:=cl) hw'
 rw[hp]at hno
 repeat'(first|refine ay ?_|(refine br fun b_=>?_)|refine uY ?_|fail)
 refine aa.he (HE.aS (M0:=aw cp c ⟨sp,tv,pv,bv,rv,fv,D,L⟩) cv rfl rfl (fun w' hw'=>kF cp c ⟨sp,tv,pv,bv,rv,fv,D,L⟩ w' (hw'.bT cM (fun p hp=>absurd hp FZ)) hg hb hwf)) rfl ?_
 rintro⟨sp2,tv2,pv2,bv2,rv2,fv2,D2,L2⟩ hg2
 dsimp only[aw,ax,List.cons_append,List.nil_append]at hg2 ⊢
 repeat'(first|refine ay ?_|fail)
 exact ai.aA rfl rfl fun w' hw'=>ar.ok (r:=(fq c,0)) (⟨sp2,tv2,pv2,bv2,rv2,fv2,D2,L2⟩:fJ) rfl hg2 hS hw' FC ao
end Go.Proofs.YtceedealggognaaGreatDoor
