import Derived.Test.YtdkcljdfbemnbaaGreatDoorJUg
import Derived.Test.YtdkcljdfbemnbaaGreatDoorJAa
import Derived.Test.YtdkcljdfbemnbaaGreatDoorJVi4
namespace Go.Proofs.YtdkcljdfbemnbaaGreatDoor
open Go.RowKit
set_option maxHeartbeats 16000000
open List renaming append_nil→PS,cons_append→Pq,getElem_cons_succ→P6,getElem_cons_zero→P5,getElem_toArray→P4,length_map→PV,map_append→P1,nil_append→Pp,replicate→PL,take_length→PA
open Nat renaming lt_or_ge→PG,zero_add→Ps,zero_le→Pu
open Value renaming int→Pm,slice→Pn
set_option maxRecDepth 100000
abbrev Gh:Nat:=49
abbrev JN:Nat:=69
def nR (D:Nat→Prop) (w:World) (L:List (List Int×Value)):Prop:=∀y∈L,ai D w y.2 y.1
theorem nR.fr:vJ nR:=fun h hc hd y hy=>(h y hy).aN hc hd
theorem nR.snoc {D H:Nat→Prop} {w:World} {L:List (List Int×Value)} {l:List Int} {u:Value} (h:nR D w L) (hu:ai H w u l):nR (fun k=>D k∨H k) w (L++[(l,u)]):=fun y hy=>by
 rcases List.mem_append.1 hy with hy|hy
 ·exact(h y hy).mono fun _ _ h=>.inl h
 ·rw[List.mem_singleton]at hy;subst hy;exact hu.mono fun _ _ h=>.inr h
theorem nR.nil (D:Nat→Prop) (w:World):nR D w []:=fun _ h=>by cases h
theorem Ok.FA {M:List bu} {R:List (World→Prop)} {w:World} (h:Ok M R w):Ok (.kq nR nR.fr (fun _=>False) []::M) R w:=
 h.push (bX.refl _ w) (nR.nil _ _) (fun _k hk=>hk.elim)
theorem bh.FA {Q:Exit→Act→World→Prop} {n:Nat} {c:Code} {E:Env} {M:List bu} {R:List (World→Prop)} (h:bh Q n c E (.kq nR nR.fr (fun _=>False) []::M) R):bh Q n c E M R:=⟨fun w hw=>h.h w hw.FA⟩
theorem aa.nk {ops:Array Oper} {Q:Exit→Act→World→Prop} {n:Nat} {l:List Oper} {E:Env} {q1 q2 q:bu} {M M1 M2:List bu} {R:List (World→Prop)} (h1:Rm q1 M M1) (h2:Rm q2 M1 M2) (hF:∀k,q.F k→q1.F k∨q2.F k) (hP:∀w,q1.P w→q2.P w→q.P w) (h:aa ops Q n l E (q::M2) R):aa ops Q n l E M R:=
 ⟨fun w hw=>h.h w (((hw.front h1).front (Rm.tail h2)).merge (fun k hk=>(hF k hk).symm) (fun a b=>hP w b a))⟩
theorem Hg (j:Nat) (a:Int) (o:List Int):(aY (PL (j+1) 0++o)).set j (.int .i64 a)=aY (PL j 0++(a::o)):=by
 unfold aY
 rw[List.replicate_succ',List.append_assoc,P1,P1,List.set_append_right _ _ Pj]
 simp
structure jS (kU:Int→List Int×Int) (ls:List Int) (i:Nat) (L:List (List Int×Value)):Prop where
 len:L.length=i
 ok:∀j,j<i→(kU (ix ls j)).2=0
 row:L.map Prod.fst=(ls.take i).map fun n=>(kU n).1
theorem jS.nil (kU:Int→List Int×Int) (ls:List Int):jS kU ls 0 []:=⟨rfl,fun _ h=>absurd h Pi,rfl⟩
variable {kU:Int→List Int×Int} {ls:List Int} {i:Nat} {L:List (List Int×Value)} {p:List Int→Bool}
theorem jS.snoc (h:jS kU ls i L) (hi:i<ls.length) {l:List Int} (e:kU (ix ls i)=(l,0)) (u:Value):jS kU ls (i+1) (L++[(l,u)]):=by
 refine⟨by rw[List.length_append,h.len];rfl,fun j hj=>?_,?_⟩
 ·rcases PG j i with hlt|hge
  ·exact h.ok j hlt
  ·obtain rfl:j=i:=by omega
   rw[e]
 ·rw[P1,h.row,bN hi,P1]
  simp[e]
theorem jS.types (h:jS kU ls ls.length L):fP kU ls=(L.map Prod.fst,0):=by
 rw[xL (fun j hj=>h.ok j hj),h.row,PA]
theorem jS.err (h:jS kU ls i L) (hi:i<ls.length) {l:List Int} {e:Int} (he:kU (ix ls i)=(l,e)) (h0:e≠0):fP kU ls=([],e):=by
 have:=vD (kU:=kU) hi h.ok (by rw[he];exact h0)
 rw[he]at this;exact this
theorem yi {i:Nat} (h:i<L.length):ix (L.map Prod.fst) i=(ix L i).1:=by
 rw[cz Pa,cz h];simp
theorem all_true (h:∀i,i<L.length→p (ix L i).1=true):((L.map Prod.fst).all p)=true:=by
 rw[List.all_eq_true]
 intro l hl
 obtain⟨y,hy,rfl⟩:=List.mem_map.1 hl
 obtain⟨i,hi,rfl⟩:=List.getElem_of_mem hy
 have:=h i hi
 rwa[cz hi]at this
theorem all_false {i:Nat} (hi:i<L.length) (h:p (ix L i).1=false):((L.map Prod.fst).all p)=false:=by
 rw[List.all_eq_false]
 refine⟨(ix L i).1,List.mem_map.2 ⟨ix L i,?_,rfl⟩,by rw[h];decide⟩
 rw[cz hi];exact List.getElem_mem hi
theorem EZ (s:ck) (n:Nat):vP (dp s n) []=dp s n:=by
 unfold vP
 by_cases he:(dp s n).2.2≠0
 ·rw[if_pos he]
  cases n with
  |zero=>exact absurd rfl he
  |succ n=>
   rw[dp]at he ⊢
   by_cases h1:(aZ s).2.2≠0
   ·rw[if_pos h1]
   ·rw[if_neg h1]at he ⊢
    by_cases h2:(dp (aZ s).1 n).2.2≠0
    ·rw[if_pos h2]
    ·rw[if_neg h2]at he;exact absurd rfl he
 ·rw[if_neg he,PS]
  have:(dp s n).2.2=0:=Classical.byContradiction he
  rw[←this]
section
variable {Q:Exit→Act→World→Prop} {n:Nat} {E:Env} {M:List bu} {R:List (World→Prop)}
theorem bh.Fw {σ:Type} {c:Code} (Ei:σ→Env) (Mi:σ→List bu) (Ri:σ→List (World→Prop)) (I:σ→Prop) (μ:σ→Nat) (s0:σ) (hE:Sub E (Ei s0)) (hM:kn (Mi s0) M) (hR:∀p,p∈Ri s0→p∈R) (hI:I s0)
  (round:∀s,I s→bh (Exit.then (Cr n Ei Mi Ri I μ s) Q) n c (Ei s) (Mi s) (Ri s)):bh Q n (.loop c) E M R:=
 ⟨fun _w hw=>Cd.loop Ei (fun s w=>I s∧Ok (Mi s) (Ri s) w) μ s0 hE ⟨hI,hw.dc hM hR⟩ fun s w ⟨h1,h2⟩=>(round s h1).h w h2⟩
theorem ah.Fz {σ:Type} {Ei:σ→Env} {Mi:σ→List bu} {Ri:σ→List (World→Prop)} {I:σ→Prop} {μ:σ→Nat} {s:σ} (s':σ) (hE:Sub E (Ei s')) (hM:kn (Mi s') M) (hR:∀p,p∈Ri s'→p∈R) (hI:I s') (hμ:μ s'<μ s):
  ah (Exit.then (Cr n Ei Mi Ri I μ s) Q) n .normal E M R:=⟨fun _w hw=>Fin.next s' hE ⟨hI,hw.dc hM hR⟩ hμ⟩
end
theorem qk (l:List Int) (a:Int):aY (l++[a])=aY l++[.int .i64 a]:=by unfold aY;rw[List.map_append];rfl
theorem HE.Lh {n:Nat} {E:Env} {M:List bu} {R:List (World→Prop)} {x:Operand} {len:Nat} (hx:ev E x=some (.int .i64 (len:Int))) (hml:len≤100000000000):HE n (.makeSlice 49 x x) E M R (fun _:Nat=>True) (fun g=>.slice (some ⟨g,0,none⟩) len len) (fun g=>.own 0 fR 1 (.slice (some ⟨g,0,none⟩) len len) len (aY (PL len 0))::M) (fun _=>R):=by
 have h:=HE.KC (n:=n) (E:=E) (M:=M) (R:=R) (B:=0) (t:=49) (x:=x) (len:=len) rfl rfl rfl rfl hx Pk hml (fun _ _=>Pu _)
 have hz:aY (PL len 0)=(madeCells (#[.int .i64 0]:Array Value) (len*1)).toList:=by rw[Nat.mul_one,toList_madeCells_one];unfold aY;rw[List.map_replicate]
 rw[hz]
 exact h
theorem BY (F:Nat→Prop) (cp:Nat) (c:dv) (v:jF) (x:cv) (pt pl:Option Addr) (ct cl:Nat) (w:World) (hw:Ok (aT cp c v) [fun w=>ai F w (.slice pl x.labels.length cl) x.labels] w) (hg:v.Good c) (hb:c.broken=0) (hwf:c.Wf) (hlb:∀n,(cT c n).1.length≤100000000000) (_hll:x.labels.length≤10000000):Calls G.P 92 #[.pointer (some ⟨cp,0,none⟩),.agg #[Pm .i64 x.op,Pm .i64 x.a,Pm .i64 x.b,Pm .u64 x.n,Pm .i64 x.kind,Pm .i64 x.val,Pm .i64 x.index,Pn pt x.types.length ct,Pn pl x.labels.length cl]] w (aK (aT cp c v) cp ({c with ao:=(dN c x).1},(dN c x).2) w):=by
 have hI:ai F w (.slice pl x.labels.length cl) x.labels:=hw.get (p:=fun w=>ai F w (.slice pl x.labels.length cl) x.labels) Pj
 refine ae (l:=[_,_]) Tryz.func92 rfl Tryz.ntmps92 rfl (Ok.dk hw) ?_
 generalize hS:Mb (aT cp c v)=S0
 obtain⟨sp,tv,pv,bv,rv,fv,D,L⟩:=v
 obtain⟨ls,hls⟩:∃l,x.labels++[x.a]=l:=⟨_,rfl⟩
 have hln:ls.length=x.labels.length+1:=by rw[←hls];simp
 obtain⟨N,hN⟩:∃N,x.labels.length=N:=⟨_,rfl⟩
 dsimp only[aT,aX,Pq,Pp]
 repeat'(first|refine ar ?_|(refine aF fun b_=>?_)|fail)
 obtain⟨b3,rfl⟩:∃y:Nat,y=b_:=⟨_,rfl⟩
 refine bh.iP 0 3 1 ?_
 refine MJ ?_
 refine aP.zR (α:=Option Addr×Nat) (fun y=>[(0,.pointer (some ⟨cp,0,none⟩)),(4,.int .i64 0),(5,.slice none 0 0),(28,.slice y.1 (x.labels.length+1) y.2),(29,.int .i64 ((x.labels.length+1:Nat):Int)),(30,.int .i64 0)]) (fun y=>.own 0 3 1 (.slice y.1 (x.labels.length+1) y.2) (x.labels.length+1) (aY x.labels++[.int .i64 x.a])::aT cp c ⟨sp,tv,pv,bv,rv,fv,D,L⟩) (fun _=>[bX S0 w]) ?_ fun hrest=>?_
 rotate_left
 ·repeat'(first|refine pN ?_|(refine ax.lD ?_;refine ax.he rfl rfl (HE.jG rfl rfl rfl rfl rfl er Pk Pk) (fun _=>bz) (fun _=>aU) ?_;rintro bl _)|(refine ax.rr ?_;refine ax.he rfl rfl (HE.app rfl rfl (fun _=>aH) aH rfl rfl rfl Pk Pk Pk Pk Pk Pk Pi (fun _ _=>Pu _)) (fun _=>bz) (fun _=>aU) ?_;rintro vb _;refine aP.pure (φ:=∃p cc,vb=.slice p (x.labels.length+1) cc) (fun w' hw'=>by obtain⟨p,cc,e,_⟩:=aw (hw'.own (v:=vb));exact⟨p,cc,e⟩) ?_;rintro⟨pb,cb,rfl⟩)|(refine ax.rr ?_;refine ax.he rfl rfl (HE.gR (aY x.labels) rfl rfl (fun _=>aH) (zO hI ak) Pg rfl rfl rfl Pk Pk Pk (fj _) (by show(0+x.labels.length)*8≤_;omega) Pi (fun _ _=>Pu _)) (fun _=>bz) (fun _=>aU) ?_;rintro va _;simp only[Ps,Pp];refine aP.pure (φ:=∃p cc,va=.slice p x.labels.length cc) (fun w' hw'=>by obtain⟨p,cc,e,_⟩:=aw (hw'.own (v:=va));exact⟨p,cc,e⟩) ?_;rintro⟨pa,ca,rfl⟩)|refine aP.nil O9 ?_|refine aP.any O9 ?_|exact aB.fin rfl|refine aB.skip O9 ?_|refine aB.go ?_ ?_)
  all_goals exact ah.dc (hrest (pb,cb)) bH ON aU
 ·rintro⟨pa,ca⟩
  dsimp only
  repeat'(first|refine ar ?_|fail)
  refine bh.pure (φ:=∃g,pa=some ⟨g,0,none⟩) (fun w' hw'=>by
   obtain⟨p,cc,e,_,_,hg⟩:=aw (hw'.own (B:=0) (T:=3) (v:=.slice pa (x.labels.length+1) ca))
   cases e
   obtain⟨g,hg,_⟩:=hg Pi
   exact⟨g,hg⟩) ?_
  rintro⟨ga,rfl⟩
  refine bh.freeze (q:=.own 0 3 1 (.slice (some ⟨ga,0,none⟩) (x.labels.length+1) ca) (x.labels.length+1) (aY x.labels++[.int .i64 x.a])) (fun w=>∀i,i<ls.length→w.cell? ⟨ga,0+i,none⟩=some (.int .i64 (ix ls i))) jH (fun w' h _ i hi=>by rw[Ps];exact dP h (by have:=o0 hi;rw[Ps,←hls,qk]at this;rw[←hls];exact this)) ?_
  refine bh.iP 0 Gh 1 ?_
  refine bh.FA ?_
  refine bh.loop (σ:=Nat×List (List Int×Value)×(Nat→Prop)×Option Addr×Nat) (fun z=>[(0,.pointer (some ⟨cp,0,none⟩)),(4,.int .i64 0),(5,.slice z.2.2.2.1 z.1 z.2.2.2.2),(28,.slice (some ⟨ga,0,none⟩) (x.labels.length+1) ca),(29,.int .i64 ((x.labels.length+1:Nat):Int)),(30,.int .i64 z.1)]) (fun z=>.kq nR nR.fr z.2.2.1 z.2.1::.own 0 Gh 1 (.slice z.2.2.2.1 z.1 z.2.2.2.2) z.1 (z.2.1.map Prod.snd)::aT cp c ⟨sp,tv,pv,bv,rv,fv,D,L⟩) (fun _=>[bX S0 w,fun w=>∀i,i<ls.length→w.cell? ⟨ga,0+i,none⟩=some (.int .i64 (ix ls i))]) (fun z=>z.1≤ls.length∧jS (cT c) ls z.1 z.2.1) (fun z=>ls.length - z.1) (0,[],fun _=>False,none,0) bH (by dsimp only[aT,aX,Pq,Pp,List.map];exact bz) aU ⟨Nat.zero_le _,jS.nil _ _⟩ ?_
  rintro⟨i,L2,DD,rp,rc⟩ ⟨hi,hrw⟩
  dsimp only[aT,aX,Pq,Pp]at hi hrw ⊢
  by_cases hin:i<ls.length
  ·refine MK ?_
   repeat'(first|refine ar ?_|fail)
   refine aa.he (HE.bJ (M0:=[]) nK.nil rfl rfl (fun w' hw'=>pW cp c ⟨sp,tv,pv,bv,rv,fv,D,L⟩ (ix ls i) w' ((hw'.dc (M':=aT cp c ⟨sp,tv,pv,bv,rv,fv,D,L⟩) dV (fun _ h=>h)).Cy (List.Sublist.refl _)) hg hb)) rfl ?_
   intro u _
   dsimp only[Pq,Pp]
   obtain⟨q,hq⟩:∃q,cT c (ix ls i)=q:=⟨_,rfl⟩
   have hql:=hlb (ix ls i)
   rw[hq]at hql ⊢
   obtain⟨l,e⟩:=q
   dsimp only at hql ⊢
   by_cases he:e=0
   ·subst he
    refine aa.pure (φ:=∃p cc,u=.slice p l.length cc) (fun w' hw'=>by obtain⟨p,cc,e,_⟩:=aw (hw'.own (B:=0) (T:=fR) (v:=u));exact⟨p,cc,e⟩) ?_
    rintro⟨pu,cu,rfl⟩
    repeat'(first|refine ar ?_|(refine fC fun b_ _=>?_)|fail)
    refine MM ?_
    intro v5 _
    refine aa.pure (φ:=∃p cc,v5=.slice p (i+1) cc) (fun w' hw'=>by obtain⟨p,cc,e,_⟩:=aw (hw'.own (B:=0) (T:=Gh) (v:=v5));exact⟨p,cc,e⟩) ?_
    rintro⟨p5,c5,rfl⟩
    refine aa.nk (q1:=.kq nR nR.fr DD L2) (q2:=.own 0 fR 1 (.slice pu l.length cu) l.length (aY l)) (q:=.kq nR nR.fr (fun k=>DD k∨(Pn pu l.length cu).ownBlock=some k) (L2++[(l,.slice pu l.length cu)])) jH jH (fun k hk=>hk) (fun w' h1 h2=>nR.snoc h1 (dK h2 Pi)) ?_
    simp only[P4,P5,P6]
    rw[show L2.map Prod.snd++[Pn pu l.length cu]=(L2++[(l,Pn pu l.length cu)]).map Prod.snd by simp]
    repeat'(first|refine ar ?_|fail)
    exact ah.next (i+1,L2++[(l,.slice pu l.length cu)],_,p5,c5) bH OK aU ⟨by dsimp only;omega,hrw.snoc hin hq _⟩ O6
   ·have htk:dN c x=(c.ao,e):=by unfold dN;rw[hls,hrw.err hin hq he];exact if_pos he
    repeat'(first|refine ar ?_|fail)
    all_goals first|(exfalso;omega)|exact ah.aG rfl rfl fun w' hw'=>aK.err e (by show(dN c x).2=e;rw[htk]) he hS hw' ak
  ·obtain rfl:i=ls.length:=by omega
   have hlen:=hrw.len
   have htk:=hrw.types
   have hmem:∀{j:Nat},j<ls.length→ix L2 j∈L2:=fun{j} hj=>by rw[cz Pi];exact List.getElem_mem _
   refine bh.pure (φ:=∃g,rp=some ⟨g,0,none⟩) (fun w' hw'=>by
    obtain⟨p,cc,e,_,_,hg⟩:=aw (hw'.own (B:=0) (T:=Gh) (v:=.slice rp ls.length rc))
    cases e
    obtain⟨g,hg,_⟩:=hg Pi
    exact⟨g,hg⟩) ?_
   rintro⟨gr,rfl⟩
   refine bh.pure (φ:=∀y∈L2,∃p cc,y.2=.slice p y.1.length cc) (fun w' hw' y hy=>by
    have hm:=(hw'.m (.kq nR nR.fr DD L2) bO).1
    obtain⟨p,cc,e,_⟩:=(hm y hy).slice
    exact⟨p,cc,e⟩) ?_
   intro hsl
   refine bh.freeze (q:=.own 0 Gh 1 (.slice (some ⟨gr,0,none⟩) ls.length rc) ls.length (L2.map Prod.snd)) (fun w=>∀i,i<ls.length→w.cell? ⟨gr,0+i,none⟩=some (ix L2 i).2) jH (fun w' h _ i hi=>by
    rw[Ps]
    refine dP h ?_
    rw[List.getElem?_map,List.getElem?_eq_getElem (show i<L2.length by omega),cz (show i<L2.length by omega)]
    rfl) ?_
   refine bh.freeze (q:=.kq nR nR.fr DD L2) (fun w=>nR DD w L2) jH (fun _ h _=>h) ?_
   obtain⟨n0,hn0⟩:∃n0,ls.length=n0+1:=⟨x.labels.length,hln⟩
   obtain⟨pL,cL,eL⟩:=hsl (ix L2 n0) (hmem Pi)
   obtain⟨lst,hlst⟩:∃l,(ix L2 n0).1=l:=⟨_,rfl⟩
   rw[hlst]at eL
   have hlast:ix (L2.map Prod.fst) ((L2.map Prod.fst).length - 1)=lst:=by rw[PV,hlen,hn0];show ix (L2.map Prod.fst) n0=_;rw[yi Pi,hlst]
   have hlstl:lst.length≤100000000000:=by
    have h1:ix (L2.map Prod.fst) n0=(cT c (ix ls n0)).1:=by
     rw[hrw.row,PA,cz (show n0<(ls.map fun n=>(cT c n).1).length by rw[PV];omega),List.getElem_map,cz (show n0<ls.length by omega)]
    rw[yi Pi,hlst]at h1
    rw[h1];exact hlb _
   have htab:dN c x=fM (L2.map Prod.fst) c.ao:=by unfold dN;rw[hls,htk];exact if_neg (fun h=>h rfl)
   refine bh.lj (Go.Proofs.YtdkcljdfbemnbaaGreatDoor.cl gr (0+n0) (.slice pL lst.length cL)) (fun w' h=>by rw[←eL];exact h (fun w=>∀i,i<ls.length→w.cell? ⟨gr,0+i,none⟩=some (ix L2 i).2) ak n0 Pi) ?_
   repeat'(first|refine ar ?_|(refine aa.eN ?_;refine aa.y_ (Yl.gn (i:=n0) rfl rfl rfl rfl rfl Pi Pi) rfl ?_)|fail)
   refine bh.loop (σ:=Nat) (fun j=>[(0,.pointer (some ⟨cp,0,none⟩)),(4,.int .i64 0),(5,.slice (some ⟨gr,0,none⟩) ls.length rc),(10,.slice pL lst.length cL),(54,.slice (some ⟨gr,0,none⟩) ls.length rc),(55,.int .i64 ls.length),(56,.int .i64 j)]) (fun _=>aT cp c ⟨sp,tv,pv,bv,rv,fv,D,L⟩) (fun _=>[bX S0 w,fun w=>∀i,i<ls.length→w.cell? ⟨gr,0+i,none⟩=some (ix L2 i).2,fun w=>nR DD w L2]) (fun j=>j≤ls.length∧∀q,q<j→(ix L2 q).1.length=lst.length) (fun j=>ls.length - j) 0 bH OK aU ⟨Nat.zero_le _,fun q hq=>absurd hq Pi⟩ ?_
   rintro j ⟨hj,hok⟩
   dsimp only[aT,aX,Pq,Pp]
   by_cases hjn:j<ls.length
   ·obtain⟨pj,cj,ej⟩:=hsl (ix L2 j) (hmem hjn)
    refine bh.lj (Go.Proofs.YtdkcljdfbemnbaaGreatDoor.cl gr (0+j) (.slice pj (ix L2 j).1.length cj)) (fun w' h=>by rw[←ej];exact h (fun w=>∀i,i<ls.length→w.cell? ⟨gr,0+i,none⟩=some (ix L2 i).2) ak j hjn) ?_
    by_cases hle:(ix L2 j).1.length=lst.length
    ·repeat'(first|refine ar ?_|fail)
     all_goals first|(exfalso;omega)|exact ah.next (j+1) bH OK aU ⟨by omega,fun q hq=>by rcases PG q j with h|h;exact hok q h;rw[show q=j by omega];exact hle⟩ Pi
    ·have hbr:dN c x=(c.ao,12):=by
      rw[htab];unfold fM
      rw[hlast,if_pos (all_false (i:=j) Pi (decide_eq_false hle))]
     repeat'(first|refine ar ?_|fail)
     all_goals exact rd
   ·obtain rfl:j=ls.length:=by omega
    have hall:((L2.map Prod.fst).all fun l=>decide (l.length=lst.length))=true:=all_true fun i hi=>decide_eq_true (hok i Pi)
    obtain⟨r0,hr0⟩:∃r,aL c.ao [1]=r:=⟨_,rfl⟩
    have hw0:=dE hwf.ao [1]
    have ht0:=dD c.ao [1]
    rw[hr0]at hw0 ht0
    obtain⟨s0,e0⟩:=r0
    dsimp only at hw0 ht0
    have htb2:dN c x=if e0≠0 then(c.ao,e0)else if(dp s0 lst.length).2.2≠0 then(c.ao,(dp s0 lst.length).2.2)else if((L2.map Prod.fst).all fun l=>oh (dp s0 lst.length).2.1 l)=false then(c.ao,12)else((dp s0 lst.length).1,0):=by
     rw[htab];unfold fM
     rw[hlast,hall,hr0,if_neg Ph]
    repeat'(first|refine ar ?_|refine Oc ?_|(refine fC fun b_ _=>?_)|fail)
    obtain⟨b0,rfl⟩:∃y:Nat,y=b_:=⟨_,rfl⟩
    refine aa.freeze (q:=.aW b0 [.int .i64 1] fR) (fun w=>ai (fun k=>k=b0) w (.slice (some ⟨b0,0,none⟩) 1 1) [1]) jH (fun w' h _=>dJ h) ?_
    refine aa.he (HE.bJ (M0:=aX sp c.ao (tv,pv)) dU rfl rfl (fun w' hw'=>by have:=gy (fun k=>k=b0) sp c.ao (tv,pv) (.slice (some ⟨b0,0,none⟩) 1 1) [1] w' (hw'.dc dV aU) hwf.ao.some hwf.ao.at_.1 hwf.ao.at_.2;rw[hr0]at this;exact this)) rfl ?_
    rintro⟨tv0,pv0⟩ _
    dsimp only[aX,Pq,Pp]
    by_cases jO:e0=0
    ·subst jO
     rw[if_neg (fun h=>h rfl)]at htb2
     repeat'(first|refine ar ?_|fail)
     refine aa.he (HE.Lh (len:=lst.length) rfl hlstl) rfl ?_
     intro gp _
     repeat'(first|refine ar ?_|fail)
     refine bh.Fw (σ:=Nat×ck×List Int×Value×Value) (fun z=>[(0,.pointer (some ⟨cp,0,none⟩)),(4,.int .i64 0),(5,.slice (some ⟨gr,0,none⟩) ls.length rc),(14,.slice (some ⟨gp,0,none⟩) lst.length lst.length),(15,.int .i64 ((z.1:Int) - 1))]) (fun z=>.own 0 fR 1 (.slice (some ⟨gp,0,none⟩) lst.length lst.length) lst.length (aY (PL z.1 0++z.2.2.1))::aT cp {c with ao:=z.2.1} ⟨sp,z.2.2.2.1,z.2.2.2.2,bv,rv,fv,D,L⟩) (fun _=>[bX S0 w,fun w=>∀i,i<ls.length→w.cell? ⟨gr,0+i,none⟩=some (ix L2 i).2,fun w=>nR DD w L2]) (fun z=>z.1+z.2.2.1.length=lst.length∧z.2.1.Wf∧dp s0 lst.length=vP (dp z.2.1 z.1) z.2.2.1) (fun z=>z.1) (lst.length,s0,[],tv0,pv0) bH ?_ aU ⟨by dsimp only;rw[List.length_nil,Nat.add_zero],hw0,(EZ _ _).symm⟩ ?_
     ·dsimp only[aT,aX,Pq,Pp]
      rw[PS]
      exact dV
     rintro⟨j,s1,o,tv1,pv1⟩ ⟨hjo,wf1,hpk⟩
     dsimp only[aT,aX,Pq,Pp]at hjo wf1 hpk ⊢
     rcases Nat.eq_zero_or_pos j with rfl|hj0
     ·have hf:dp s0 lst.length=(s1,o,0):=by rw[hpk];rfl
      rw[hf,if_neg (fun h=>h rfl)]at htb2
      dsimp only at htb2
      rw[show((0:Nat):Int) - 1=-1 from rfl,show PL 0 (0:Int)=[]from rfl,Pp]
      refine bh.freeze (q:=.own 0 fR 1 (.slice (some ⟨gp,0,none⟩) lst.length lst.length) lst.length (aY o)) (fun w=>∀q,q<lst.length→w.cell? ⟨gp,0+q,none⟩=some (.int .i64 (ix o q))) jH (fun w' h _ q hq=>by rw[Ps];exact dP h (by have:=o0 (l:=o) (i:=q) Pi;rwa[Ps]at this)) ?_
      repeat'(first|refine ar ?_|fail)
      refine bh.loop (σ:=Nat) (fun j=>[(4,.int .i64 0),(14,.slice (some ⟨gp,0,none⟩) lst.length lst.length),(96,.slice (some ⟨gr,0,none⟩) ls.length rc),(97,.int .i64 ls.length),(98,.int .i64 j)]) (fun _=>aT cp {c with ao:=s1} ⟨sp,tv1,pv1,bv,rv,fv,D,L⟩) (fun _=>[bX S0 w,fun w=>∀i,i<ls.length→w.cell? ⟨gr,0+i,none⟩=some (ix L2 i).2,fun w=>nR DD w L2,fun w=>∀q,q<lst.length→w.cell? ⟨gp,0+q,none⟩=some (.int .i64 (ix o q))]) (fun j=>j≤ls.length∧∀q,q<j→oh o (ix L2 q).1=true) (fun j=>ls.length - j) 0 bH OK aU ⟨Nat.zero_le _,fun q hq=>absurd hq Pi⟩ ?_
      rintro j ⟨hj,hfit⟩
      dsimp only[aT,aX,Pq,Pp]
      by_cases hjn:j<ls.length
      ·obtain⟨pj,cj,ej⟩:=hsl (ix L2 j) (hmem hjn)
       have hle:=hok j hjn
       obtain⟨l,hlj⟩:∃l,(ix L2 j).1=l:=⟨_,rfl⟩
       rw[hlj]at ej hle
       have hin2:∀w',nR DD w' L2→ai DD w' (.slice pj l.length cj) l:=fun w' h=>by have:=h _ (hmem hjn);rw[ej,hlj]at this;exact this
       refine bh.lj (Go.Proofs.YtdkcljdfbemnbaaGreatDoor.cl gr (0+j) (.slice pj l.length cj)) (fun w' h=>by rw[←ej];exact h (fun w=>∀i,i<ls.length→w.cell? ⟨gr,0+i,none⟩=some (ix L2 i).2) ak j hjn) ?_
       repeat'(first|refine ar ?_|fail)
       refine bh.loop (σ:=Nat) (fun q=>[(4,.int .i64 0),(14,.slice (some ⟨gp,0,none⟩) lst.length lst.length),(96,.slice (some ⟨gr,0,none⟩) ls.length rc),(97,.int .i64 ls.length),(98,.int .i64 j),(102,.slice pj l.length cj),(103,.int .i64 l.length),(104,.int .i64 q)]) (fun _=>aT cp {c with ao:=s1} ⟨sp,tv1,pv1,bv,rv,fv,D,L⟩) (fun _=>[bX S0 w,fun w=>∀i,i<ls.length→w.cell? ⟨gr,0+i,none⟩=some (ix L2 i).2,fun w=>nR DD w L2,fun w=>∀q,q<lst.length→w.cell? ⟨gp,0+q,none⟩=some (.int .i64 (ix o q))]) (fun q=>q≤l.length∧∀r,r<q→ix o r=0∨ix o r=ix l r) (fun q=>l.length - q) 0 bH OK aU ⟨Nat.zero_le _,fun q hq=>absurd hq Pi⟩ ?_
       rintro q ⟨hq,hqs⟩
       dsimp only[aT,aX,Pq,Pp]
       by_cases hql:q<l.length
       ·refine bh.pure (φ:=∃b oo,pj=some ⟨b,oo,none⟩) (fun w' hw'=>by obtain⟨b,oo,e,_⟩:=(hin2 w' (hw'.get (p:=fun w=>nR DD w L2) ak)).at hql;exact⟨b,oo,e⟩) ?_
        rintro⟨bj,oj,rfl⟩
        refine bh.lj (Go.Proofs.YtdkcljdfbemnbaaGreatDoor.cl bj (oj+q) (.int .i64 (ix l q))) (fun w' h=>by obtain⟨b,oo,e,_,hc⟩:=(hin2 w' (h (fun w=>nR DD w L2) ak)).at hql;cases e;exact hc q hql) ?_
        refine bh.lj (Go.Proofs.YtdkcljdfbemnbaaGreatDoor.cl gp (0+q) (.int .i64 (ix o q))) (fun w' h=>h (fun w=>∀q,q<lst.length→w.cell? ⟨gp,0+q,none⟩=some (.int .i64 (ix o q))) ak q Pi) ?_
        have hstep:(ix o q=0∨ix o q=ix l q)→∀r,r<q+1→ix o r=0∨ix o r=ix l r:=fun hs r hr=>by
         rcases PG r q with hlt|hge
         ·exact hqs r hlt
         ·rw[show r=q by omega];exact hs
        by_cases h0:ix o q=0
        ·repeat'(first|refine ar ?_|fail)
         all_goals first|(exfalso;omega)|exact ah.next (q+1) bH OK aU ⟨by omega,hstep (.inl h0)⟩ Pi
        ·by_cases he:ix o q=ix l q
         ·repeat'(first|refine ar ?_|fail)
          all_goals first|(exfalso;omega)|exact ah.next (q+1) bH OK aU ⟨by omega,hstep (.inr he)⟩ Pi
         ·have hbr:dN c x=(c.ao,12):=by
           rw[htb2,if_pos (all_false (i:=j) Pi (by rw[hlj];exact rW Pi hql (fun h=>h.elim h0 he)))]
          repeat'(first|refine ar ?_|fail)
          all_goals exact rd
       ·repeat'(first|refine ar ?_|fail)
        all_goals first|(exfalso;omega)|exact ah.next (j+1) bH OK aU ⟨by omega,fun r hr=>by rcases PG r j with h|h;exact hfit r h;rw[show r=j by omega,hlj];exact pX (fun i h1 h2=>hqs i Pi)⟩ Pi
      ·have hbr:dN c x=(s1,0):=by
        rw[htb2,if_neg (by rw[all_true (fun i hi=>hfit i Pi)];decide)]
       repeat'(first|refine ar ?_|fail)
       all_goals first|(exfalso;omega)|exact ah.aG rfl rfl fun w' hw'=>by rw[hbr];exact aK.ok (r:=({c with ao:=s1},0)) (⟨sp,tv1,pv1,bv,rv,fv,D,L⟩:jF) rfl ⟨hg.len,hg.fr,hg.rs⟩ hS hw' ON ak
     ·obtain⟨i,rfl⟩:∃i,j=i+1:=⟨j - 1,by omega⟩
      rw[xB]at hpk
      rw[show((i+1:Nat):Int) - 1=(i:Int)by omega]
      repeat'(first|refine ar ?_|refine Oc ?_|fail)
      refine MN ?_
      rintro⟨tv2,pv2⟩ _
      obtain⟨pr,hpr⟩:∃r,aZ s1=r:=⟨_,rfl⟩
      have zf:(aZ s1).1.Wf:=jm wf1
      rw[hpr]at hpk zf ⊢
      obtain⟨s2,a,e⟩:=pr
      dsimp only[aX,Pq,Pp]at hpk zf ⊢
      by_cases he:e=0
      ·subst he
       rw[if_neg (fun h=>h rfl)]at hpk
       repeat'(first|refine ar ?_|refine Oe ?_|fail)
       refine aa.jO (gj.HO (i:=i) rfl rfl rfl Pi rfl rfl aH (by simp[aY];omega)) ?_
       rintro⟨⟩ _
       simp only[P4,P5,P6]
       rw[Hg]
       repeat'(first|refine ar ?_|fail)
       exact ah.Fz (i,s2,a::o,tv2,pv2) bH (by first|(dsimp only[aT,aX,Pq,Pp];exact dV)|exact dV) aU ⟨by dsimp only;rw[List.length_cons];omega,zf,hpk⟩ O6
      ·rw[if_pos he]at hpk
       have hbr:dN c x=(c.ao,e):=by rw[htb2,hpk];exact if_pos he
       repeat'(first|refine ar ?_|fail)
       all_goals first|(exfalso;omega)|exact ah.aG rfl rfl fun w' hw'=>aK.err e (by show(dN c x).2=e;rw[hbr]) he hS hw' ak
    ·have hbr:dN c x=(c.ao,e0):=by rw[htb2];exact if_pos jO
     repeat'(first|refine ar ?_|fail)
     all_goals first|(exfalso;omega)|exact ah.aG rfl rfl fun w' hw'=>aK.err e0 (by show(dN c x).2=e0;rw[hbr]) jO hS hw' ak
end Go.Proofs.YtdkcljdfbemnbaaGreatDoor
