/- br_table, plain: what its labels take, and what its operands come to (both sides). -/
import Derived.Test.YtdkcljdfbemnbaaGreatDoorJWn
import Derived.Test.YtdkcljdfbemnbaaGreatDoorJLz
import Derived.Test.YtdkcljdfbemnbaaGreatDoorJGd
import Derived.Test.YtdkcljdfbemnbaaGreatDoorJVh
namespace Go.Proofs.YtdkcljdfbemnbaaGreatDoor
open Go.RowKit
set_option maxHeartbeats 16000000
open List renaming append_nil→PM,cons_append→Pj,getElem_cons_succ→P1,getElem_cons_zero→P0,getElem_toArray→PZ,length_append→Pt,length_map→PS,map_append→PT,nil_append→Pi,replicate→PG,take_length→Pu
open Nat renaming lt_or_ge→PA,zero_add→Pm,zero_le→Po
open Value renaming int→Pf,slice→Pg
set_option maxRecDepth 100000
def eX (c:gA) (n:Int):List Int×Int:=if n<0∨c.fs.length≤n then([],15)else(if(ix c.fs (c.fs.length - 1 - n.toNat)).op=3 then(ix c.fs (c.fs.length - 1 - n.toNat)).par else(ix c.fs (c.fs.length - 1 - n.toNat)).res,0)
variable (c:dv) {s:ck} {kT:Int→List Int×Int} {ls:List Int} {i:Nat} {L:List (List Int×Value)} {p:List Int→Bool}
theorem rq (n:Int) (hb:c.broken=0) (hk:c.Ok):cT c n=eX (bP c) n:=Fk c n hb hk
def fO (kT:Int→List Int×Int):List Int→List (List Int)×Int
 |[]=>([],0)
 |n::r=>if(kT n).2≠0 then([],(kT n).2)else if(fO kT r).2≠0 then([],(fO kT r).2)else((kT n).1::(fO kT r).1,0)
theorem vx {kT:Int→List Int×Int}:∀{ls:List Int} {i:Nat},i<ls.length→(∀j,j<i→(kT (ix ls j)).2=0)→(kT (ix ls i)).2≠0→fO kT ls=([],(kT (ix ls i)).2)
 |[],i,h,_,_=>by simp at h
 |n::r,0,_,_,h2=>by
  have e:ix (n::r) 0=n:=rfl
  rw[e]at h2 ⊢
  unfold fO;rw[if_pos h2]
 |n::r,i+1,h,h1,h2=>by
  have e:ix (n::r) (i+1)=ix r i:=by simp[ix]
  have e0:(kT n).2=0:=h1 0 Pc
  rw[e]at h2 ⊢
  have:=vx (kT:=kT) (ls:=r) (i:=i) O4 (fun j hj=>by have:=h1 (j+1) Pc;simpa[ix]using this) h2
  unfold fO;rw[if_neg (by simp[e0]),this,if_pos h2]
theorem xH {kT:Int→List Int×Int}:∀{ls:List Int},(∀j,j<ls.length→(kT (ix ls j)).2=0)→fO kT ls=(ls.map fun n=>(kT n).1,0)
 |[],_=>rfl
 |n::r,h=>by
  have e0:(kT n).2=0:=h 0 Pd
  have:=xH (kT:=kT) (ls:=r) (fun j hj=>by have:=h (j+1) (by simpa using hj);simpa[ix]using this)
  unfold fO;rw[if_neg (by simp[e0]),this];simp
theorem yV {a b:Int→List Int×Int} (h:∀n,a n=b n) (ls:List Int):fO a ls=fO b ls:=by rw[show a=b from funext h]
def fL (rows:List (List Int)) (s:ck):ck×Int:=
 if(rows.all fun l=>decide (l.length=(ix rows (rows.length - 1)).length))=false then(s,12)
 else if(aK s [1]).2≠0 then(s,(aK s [1]).2)
 else if(dp (aK s [1]).1 (ix rows (rows.length - 1)).length).2.2≠0 then(s,(dp (aK s [1]).1 (ix rows (rows.length - 1)).length).2.2)
 else if(rows.all fun l=>n7 (dp (aK s [1]).1 (ix rows (rows.length - 1)).length).2.1 l)=false then(s,12)
 else((dp (aK s [1]).1 (ix rows (rows.length - 1)).length).1,0)
def fu (c:gA) (x:cv):gA×Int:=
 if(fO (eX c) (x.labels++[x.a])).2≠0 then(c,(fO (eX c) (x.labels++[x.a])).2)
 else if(fL (fO (eX c) (x.labels++[x.a])).1 c.ao).2≠0 then(c,(fL (fO (eX c) (x.labels++[x.a])).1 c.ao).2)
 else(gk {c with ao:=(fL (fO (eX c) (x.labels++[x.a])).1 c.ao).1},0)
def dM (c:dv) (x:cv):ck×Int:=
 if(fO (cT c) (x.labels++[x.a])).2≠0 then(c.ao,(fO (cT c) (x.labels++[x.a])).2)
 else fL (fO (cT c) (x.labels++[x.a])).1 c.ao
def jy (c:dv) (x:cv):dv×Int:=if(dM c x).2≠0 then(c,(dM c x).2)else(iE {c with ao:=(dM c x).1},0)
theorem zw (x:cv) (hb:c.broken=0) (hk:c.Ok):(jy c x).2=(fu (bP c) x).2∧((jy c x).2=0→bP (jy c x).1=(fu (bP c) x).1):=by
 have ht:=yV (fun n=>rq c n hb hk) (x.labels++[x.a])
 unfold jy dM fu
 rw[ht]
 obtain⟨t,hT⟩:∃t,fO (eX (bP c)) (x.labels++[x.a])=t:=⟨_,rfl⟩
 rw[hT]
 have hs:(bP c).ao=c.ao:=rfl
 rw[hs]
 by_cases h1:t.2≠0
 ·simp only[if_pos h1];exact⟨trivial,fun h=>absurd h h1⟩
 ·simp only[if_neg h1]
  by_cases h2:(fL t.1 c.ao).2≠0
  ·simp only[if_pos h2];exact⟨trivial,fun h=>absurd h h2⟩
  ·simp only[if_neg h2]
   exact⟨trivial,fun _=>by rw[xV {c with ao:=(fL t.1 c.ao).1} hb,Av]⟩
abbrev Gc:Nat:=49
abbrev JH:Nat:=69
def nL (D:Nat→Prop) (w:World) (L:List (List Int×Value)):Prop:=∀y∈L,ai D w y.2 y.1
theorem nL.fr:vE nL:=fun h hc hd y hy=>(h y hy).aP hc hd
theorem nL.snoc {D H:Nat→Prop} {w:World} {L:List (List Int×Value)} {l:List Int} {u:Value} (h:nL D w L) (hu:ai H w u l):nL (fun k=>D k∨H k) w (L++[(l,u)]):=fun y hy=>by
 rcases List.mem_append.1 hy with hy|hy
 ·exact(h y hy).mono fun _ _ h=>.inl h
 ·rw[List.mem_singleton]at hy;subst hy;exact hu.mono fun _ _ h=>.inr h
theorem nL.nil (D:Nat→Prop) (w:World):nL D w []:=fun _ h=>by cases h
theorem Ok.Fx {M:List bu} {R:List (World→Prop)} {w:World} (h:Ok M R w):Ok (.kr nL nL.fr (fun _=>False) []::M) R w:=
 h.push (bX.refl _ w) (nL.nil _ _) (fun _k hk=>hk.elim)
theorem bh.Fx {Q:Exit→Act→World→Prop} {n:Nat} {c:Code} {E:Env} {M:List bu} {R:List (World→Prop)} (h:bh Q n c E (.kr nL nL.fr (fun _=>False) []::M) R):bh Q n c E M R:=⟨fun w hw=>h.h w hw.Fx⟩
theorem aa.ng {ops:Array Oper} {Q:Exit→Act→World→Prop} {n:Nat} {l:List Oper} {E:Env} {q1 q2 q:bu} {M M1 M2:List bu} {R:List (World→Prop)} (h1:Rm q1 M M1) (h2:Rm q2 M1 M2) (hF:∀k,q.F k→q1.F k∨q2.F k) (hP:∀w,q1.P w→q2.P w→q.P w) (h:aa ops Q n l E (q::M2) R):aa ops Q n l E M R:=
 ⟨fun w hw=>h.h w (((hw.front h1).front (Rm.tail h2)).merge (fun k hk=>(hF k hk).symm) (fun a b=>hP w b a))⟩
theorem G9 (j:Nat) (a:Int) (o:List Int):(aZ (PG (j+1) 0++o)).set j (.int .i64 a)=aZ (PG j 0++(a::o)):=by
 unfold aZ
 rw[List.replicate_succ',List.append_assoc,PT,PT,List.set_append_right _ _ Pd]
 simp
structure jU (kT:Int→List Int×Int) (ls:List Int) (i:Nat) (L:List (List Int×Value)):Prop where
 len:L.length=i
 ok:∀j,j<i→(kT (ix ls j)).2=0
 row:L.map Prod.fst=(ls.take i).map fun n=>(kT n).1
theorem jU.nil (kT:Int→List Int×Int) (ls:List Int):jU kT ls 0 []:=⟨rfl,fun _ h=>absurd h Pc,rfl⟩
theorem jU.snoc (h:jU kT ls i L) (hi:i<ls.length) {l:List Int} (e:kT (ix ls i)=(l,0)) (u:Value):jU kT ls (i+1) (L++[(l,u)]):=by
 refine⟨by rw[Pt,h.len];rfl,fun j hj=>?_,?_⟩
 ·rcases PA j i with hlt|hge
  ·exact h.ok j hlt
  ·obtain rfl:j=i:=by omega
   rw[e]
 ·rw[PT,h.row,bM hi,PT]
  simp[e]
theorem jU.types (h:jU kT ls ls.length L):fO kT ls=(L.map Prod.fst,0):=by
 rw[xH (fun j hj=>h.ok j hj),h.row,Pu]
theorem jU.err (h:jU kT ls i L) (hi:i<ls.length) {l:List Int} {e:Int} (he:kT (ix ls i)=(l,e)) (h0:e≠0):fO kT ls=([],e):=by
 have:=vx (kT:=kT) hi h.ok (by rw[he];exact h0)
 rw[he]at this;exact this
theorem yd {i:Nat} (h:i<L.length):ix (L.map Prod.fst) i=(ix L i).1:=by
 rw[cz O4,cz h];simp
theorem all_true (h:∀i,i<L.length→p (ix L i).1=true):((L.map Prod.fst).all p)=true:=by
 rw[List.all_eq_true]
 intro l hl
 obtain⟨y,hy,rfl⟩:=List.mem_map.1 hl
 obtain⟨i,hi,rfl⟩:=List.getElem_of_mem hy
 have:=h i hi
 rwa[cz hi]at this
theorem all_false {i:Nat} (hi:i<L.length) (h:p (ix L i).1=false):((L.map Prod.fst).all p)=false:=by
 rw[List.all_eq_false]
 refine⟨(ix L i).1,List.mem_map.2 ⟨ix L i,?_,rfl⟩,by rw[h];decide⟩
 rw[cz hi];exact List.getElem_mem hi
theorem EW (s:ck) (n:Nat):vL (dp s n) []=dp s n:=by
 unfold vL
 by_cases he:(dp s n).2.2≠0
 ·rw[if_pos he]
  cases n with
  |zero=>exact absurd rfl he
  |succ n=>
   rw[dp]at he ⊢
   by_cases h1:(aY s).2.2≠0
   ·rw[if_pos h1]
   ·rw[if_neg h1]at he ⊢
    by_cases h2:(dp (aY s).1 n).2.2≠0
    ·rw[if_pos h2]
    ·rw[if_neg h2]at he;exact absurd rfl he
 ·rw[if_neg he,PM]
  have:(dp s n).2.2=0:=Classical.byContradiction he
  rw[←this]
section
variable {Q:Exit→Act→World→Prop} {n:Nat} {E:Env} {M:List bu} {R:List (World→Prop)}
theorem bh.Ft {σ:Type} {c:Code} (Ei:σ→Env) (Mi:σ→List bu) (Ri:σ→List (World→Prop)) (I:σ→Prop) (μ:σ→Nat) (s0:σ) (hE:Sub E (Ei s0)) (hM:ko (Mi s0) M) (hR:∀p,p∈Ri s0→p∈R) (hI:I s0)
  (round:∀s,I s→bh (Exit.then (Cn n Ei Mi Ri I μ s) Q) n c (Ei s) (Mi s) (Ri s)):bh Q n (.loop c) E M R:=
 ⟨fun _w hw=>Cd.loop Ei (fun s w=>I s∧Ok (Mi s) (Ri s) w) μ s0 hE ⟨hI,hw.dc hM hR⟩ fun s w ⟨h1,h2⟩=>(round s h1).h w h2⟩
theorem ah.Fw {σ:Type} {Ei:σ→Env} {Mi:σ→List bu} {Ri:σ→List (World→Prop)} {I:σ→Prop} {μ:σ→Nat} {s:σ} (s':σ) (hE:Sub E (Ei s')) (hM:ko (Mi s') M) (hR:∀p,p∈Ri s'→p∈R) (hI:I s') (hμ:μ s'<μ s):
  ah (Exit.then (Cn n Ei Mi Ri I μ s) Q) n .normal E M R:=⟨fun _w hw=>Fin.next s' hE ⟨hI,hw.dc hM hR⟩ hμ⟩
end
theorem qe (l:List Int) (a:Int):aZ (l++[a])=aZ l++[.int .i64 a]:=by unfold aZ;rw[List.map_append];rfl
theorem HE.K9 {n:Nat} {E:Env} {M:List bu} {R:List (World→Prop)} {x:Operand} {len:Nat} (hx:ev E x=some (.int .i64 (len:Int))) (hml:len≤100000000000):HE n (.makeSlice 49 x x) E M R (fun _:Nat=>True) (fun g=>.slice (some ⟨g,0,none⟩) len len) (fun g=>.own 0 fT 1 (.slice (some ⟨g,0,none⟩) len len) len (aZ (PG len 0))::M) (fun _=>R):=by
 have h:=HE.Ku (n:=n) (E:=E) (M:=M) (R:=R) (B:=0) (t:=49) (x:=x) (len:=len) rfl rfl rfl rfl hx Pe hml (fun _ _=>Po _)
 have hz:aZ (PG len 0)=(madeCells (#[.int .i64 0]:Array Value) (len*1)).toList:=by rw[Nat.mul_one,toList_madeCells_one];unfold aZ;rw[List.map_replicate]
 rw[hz]
 exact h
theorem BU (F:Nat→Prop) (cp:Nat) (c:dv) (v:jI) (x:cv) (pt pl:Option Addr) (ct cl:Nat) (w:World) (hw:Ok (aT cp c v) [fun w=>ai F w (.slice pl x.labels.length cl) x.labels] w) (hg:v.Good c) (hb:c.broken=0) (hwf:c.Wf) (hlb:∀n,(cT c n).1.length≤100000000000) (_hll:x.labels.length≤10000000):Calls G.P 92 #[.pointer (some ⟨cp,0,none⟩),.agg #[Pf .i64 x.op,Pf .i64 x.a,Pf .i64 x.b,Pf .u64 x.n,Pf .i64 x.kind,Pf .i64 x.val,Pf .i64 x.index,Pg pt x.types.length ct,Pg pl x.labels.length cl]] w (aJ (aT cp c v) cp ({c with ao:=(dM c x).1},(dM c x).2) w):=by
 have hI:ai F w (.slice pl x.labels.length cl) x.labels:=hw.get (p:=fun w=>ai F w (.slice pl x.labels.length cl) x.labels) Pd
 refine ae (l:=[_,_]) Tryz.func92 rfl Tryz.ntmps92 rfl (Ok.dk hw) ?_
 generalize hS:Mb (aT cp c v)=S0
 obtain⟨sp,tv,pv,bv,rv,fv,D,L⟩:=v
 obtain⟨ls,hls⟩:∃l,x.labels++[x.a]=l:=⟨_,rfl⟩
 have hln:ls.length=x.labels.length+1:=by rw[←hls];simp
 obtain⟨N,hN⟩:∃N,x.labels.length=N:=⟨_,rfl⟩
 dsimp only[aT,aX,Pj,Pi]
 repeat'(first|refine ar ?_|(refine aE fun b_=>?_)|fail)
 obtain⟨b3,rfl⟩:∃y:Nat,y=b_:=⟨_,rfl⟩
 refine bh.iN 0 3 1 ?_
 refine M4 ?_
 refine aN.zM (α:=Option Addr×Nat) (fun y=>[(0,.pointer (some ⟨cp,0,none⟩)),(4,.int .i64 0),(5,.slice none 0 0),(28,.slice y.1 (x.labels.length+1) y.2),(29,.int .i64 ((x.labels.length+1:Nat):Int)),(30,.int .i64 0)]) (fun y=>.own 0 3 1 (.slice y.1 (x.labels.length+1) y.2) (x.labels.length+1) (aZ x.labels++[.int .i64 x.a])::aT cp c ⟨sp,tv,pv,bv,rv,fv,D,L⟩) (fun _=>[bX S0 w]) ?_ fun hrest=>?_
 rotate_left
 ·repeat'(first|refine pG ?_|(refine ax.lD ?_;refine ax.he rfl rfl (HE.jJ rfl rfl rfl rfl rfl ep Pe Pe) (fun _=>bw) (fun _=>aU) ?_;rintro bl _)|(refine ax.rl ?_;refine ax.he rfl rfl (HE.app rfl rfl (fun _=>aH) aH rfl rfl rfl Pe Pe Pe Pe Pe Pe Pc (fun _ _=>Po _)) (fun _=>bw) (fun _=>aU) ?_;rintro vb _;refine aN.pure (φ:=∃p cc,vb=.slice p (x.labels.length+1) cc) (fun w' hw'=>by obtain⟨p,cc,e,_⟩:=aw (hw'.own (v:=vb));exact⟨p,cc,e⟩) ?_;rintro⟨pb,cb,rfl⟩)|(refine ax.rl ?_;refine ax.he rfl rfl (HE.gP (aZ x.labels) rfl rfl (fun _=>aH) (zJ hI ak) O9 rfl rfl rfl Pe Pe Pe (fj _) (by show(0+x.labels.length)*8≤_;omega) Pc (fun _ _=>Po _)) (fun _=>bw) (fun _=>aU) ?_;rintro va _;simp only[Pm,Pi];refine aN.pure (φ:=∃p cc,va=.slice p x.labels.length cc) (fun w' hw'=>by obtain⟨p,cc,e,_⟩:=aw (hw'.own (v:=va));exact⟨p,cc,e⟩) ?_;rintro⟨pa,ca,rfl⟩)|refine aN.nil O3 ?_|refine aN.any O3 ?_|exact aB.fin rfl|refine aB.skip O3 ?_|refine aB.go ?_ ?_)
  all_goals exact ah.dc (hrest (pb,cb)) bH OH aU
 ·rintro⟨pa,ca⟩
  dsimp only
  repeat'(first|refine ar ?_|fail)
  refine bh.pure (φ:=∃g,pa=some ⟨g,0,none⟩) (fun w' hw'=>by
   obtain⟨p,cc,e,_,_,hg⟩:=aw (hw'.own (B:=0) (T:=3) (v:=.slice pa (x.labels.length+1) ca))
   cases e
   obtain⟨g,hg,_⟩:=hg Pc
   exact⟨g,hg⟩) ?_
  rintro⟨ga,rfl⟩
  refine bh.freeze (q:=.own 0 3 1 (.slice (some ⟨ga,0,none⟩) (x.labels.length+1) ca) (x.labels.length+1) (aZ x.labels++[.int .i64 x.a])) (fun w=>∀i,i<ls.length→w.cell? ⟨ga,0+i,none⟩=some (.int .i64 (ix ls i))) jK (fun w' h _ i hi=>by rw[Pm];exact dO h (by have:=oR hi;rw[Pm,←hls,qe]at this;rw[←hls];exact this)) ?_
  refine bh.iN 0 Gc 1 ?_
  refine bh.Fx ?_
  refine bh.loop (σ:=Nat×List (List Int×Value)×(Nat→Prop)×Option Addr×Nat) (fun z=>[(0,.pointer (some ⟨cp,0,none⟩)),(4,.int .i64 0),(5,.slice z.2.2.2.1 z.1 z.2.2.2.2),(28,.slice (some ⟨ga,0,none⟩) (x.labels.length+1) ca),(29,.int .i64 ((x.labels.length+1:Nat):Int)),(30,.int .i64 z.1)]) (fun z=>.kr nL nL.fr z.2.2.1 z.2.1::.own 0 Gc 1 (.slice z.2.2.2.1 z.1 z.2.2.2.2) z.1 (z.2.1.map Prod.snd)::aT cp c ⟨sp,tv,pv,bv,rv,fv,D,L⟩) (fun _=>[bX S0 w,fun w=>∀i,i<ls.length→w.cell? ⟨ga,0+i,none⟩=some (.int .i64 (ix ls i))]) (fun z=>z.1≤ls.length∧jU (cT c) ls z.1 z.2.1) (fun z=>ls.length - z.1) (0,[],fun _=>False,none,0) bH (by dsimp only[aT,aX,Pj,Pi,List.map];exact bw) aU ⟨Nat.zero_le _,jU.nil _ _⟩ ?_
  rintro⟨i,L2,DD,rp,rc⟩ ⟨hi,hrw⟩
  dsimp only[aT,aX,Pj,Pi]at hi hrw ⊢
  by_cases hin:i<ls.length
  ·refine M5 ?_
   repeat'(first|refine ar ?_|fail)
   refine aa.he (HE.bJ (M0:=[]) oJ.nil rfl rfl (fun w' hw'=>pQ cp c ⟨sp,tv,pv,bv,rv,fv,D,L⟩ (ix ls i) w' ((hw'.dc (M':=aT cp c ⟨sp,tv,pv,bv,rv,fv,D,L⟩) dU (fun _ h=>h)).Cv (List.Sublist.refl _)) hg hb)) rfl ?_
   intro u _
   dsimp only[Pj,Pi]
   obtain⟨q,hq⟩:∃q,cT c (ix ls i)=q:=⟨_,rfl⟩
   have hql:=hlb (ix ls i)
   rw[hq]at hql ⊢
   obtain⟨l,e⟩:=q
   dsimp only at hql ⊢
   by_cases he:e=0
   ·subst he
    refine aa.pure (φ:=∃p cc,u=.slice p l.length cc) (fun w' hw'=>by obtain⟨p,cc,e,_⟩:=aw (hw'.own (B:=0) (T:=fT) (v:=u));exact⟨p,cc,e⟩) ?_
    rintro⟨pu,cu,rfl⟩
    repeat'(first|refine ar ?_|(refine fB fun b_ _=>?_)|fail)
    refine MX ?_
    intro v5 _
    refine aa.pure (φ:=∃p cc,v5=.slice p (i+1) cc) (fun w' hw'=>by obtain⟨p,cc,e,_⟩:=aw (hw'.own (B:=0) (T:=Gc) (v:=v5));exact⟨p,cc,e⟩) ?_
    rintro⟨p5,c5,rfl⟩
    refine aa.ng (q1:=.kr nL nL.fr DD L2) (q2:=.own 0 fT 1 (.slice pu l.length cu) l.length (aZ l)) (q:=.kr nL nL.fr (fun k=>DD k∨(Pg pu l.length cu).ownBlock=some k) (L2++[(l,.slice pu l.length cu)])) jK jK (fun k hk=>hk) (fun w' h1 h2=>nL.snoc h1 (eH h2 Pc)) ?_
    simp only[PZ,P0,P1]
    rw[show L2.map Prod.snd++[Pg pu l.length cu]=(L2++[(l,Pg pu l.length cu)]).map Prod.snd by simp]
    repeat'(first|refine ar ?_|fail)
    exact ah.next (i+1,L2++[(l,.slice pu l.length cu)],_,p5,c5) bH OE aU ⟨by dsimp only;omega,hrw.snoc hin hq _⟩ O0
   ·have htk:dM c x=(c.ao,e):=by unfold dM;rw[hls,hrw.err hin hq he];exact if_pos he
    repeat'(first|refine ar ?_|fail)
    all_goals first|(exfalso;omega)|exact ah.aF rfl rfl fun w' hw'=>aJ.err e (by show(dM c x).2=e;rw[htk]) he hS hw' ak
  ·obtain rfl:i=ls.length:=by omega
   have hlen:=hrw.len
   have htk:=hrw.types
   have hmem:∀{j:Nat},j<ls.length→ix L2 j∈L2:=fun{j} hj=>by rw[cz Pc];exact List.getElem_mem _
   refine bh.pure (φ:=∃g,rp=some ⟨g,0,none⟩) (fun w' hw'=>by
    obtain⟨p,cc,e,_,_,hg⟩:=aw (hw'.own (B:=0) (T:=Gc) (v:=.slice rp ls.length rc))
    cases e
    obtain⟨g,hg,_⟩:=hg Pc
    exact⟨g,hg⟩) ?_
   rintro⟨gr,rfl⟩
   refine bh.pure (φ:=∀y∈L2,∃p cc,y.2=.slice p y.1.length cc) (fun w' hw' y hy=>by
    have hm:=(hw'.m (.kr nL nL.fr DD L2) bO).1
    obtain⟨p,cc,e,_⟩:=(hm y hy).slice
    exact⟨p,cc,e⟩) ?_
   intro hsl
   refine bh.freeze (q:=.own 0 Gc 1 (.slice (some ⟨gr,0,none⟩) ls.length rc) ls.length (L2.map Prod.snd)) (fun w=>∀i,i<ls.length→w.cell? ⟨gr,0+i,none⟩=some (ix L2 i).2) jK (fun w' h _ i hi=>by
    rw[Pm]
    refine dO h ?_
    rw[List.getElem?_map,List.getElem?_eq_getElem (show i<L2.length by omega),cz (show i<L2.length by omega)]
    rfl) ?_
   refine bh.freeze (q:=.kr nL nL.fr DD L2) (fun w=>nL DD w L2) jK (fun _ h _=>h) ?_
   obtain⟨n0,hn0⟩:∃n0,ls.length=n0+1:=⟨x.labels.length,hln⟩
   obtain⟨pL,cL,eL⟩:=hsl (ix L2 n0) (hmem Pc)
   obtain⟨lst,hlst⟩:∃l,(ix L2 n0).1=l:=⟨_,rfl⟩
   rw[hlst]at eL
   have hlast:ix (L2.map Prod.fst) ((L2.map Prod.fst).length - 1)=lst:=by rw[PS,hlen,hn0];show ix (L2.map Prod.fst) n0=_;rw[yd Pc,hlst]
   have hlstl:lst.length≤100000000000:=by
    have h1:ix (L2.map Prod.fst) n0=(cT c (ix ls n0)).1:=by
     rw[hrw.row,Pu,cz (show n0<(ls.map fun n=>(cT c n).1).length by rw[PS];omega),List.getElem_map,cz (show n0<ls.length by omega)]
    rw[yd Pc,hlst]at h1
    rw[h1];exact hlb _
   have htab:dM c x=fL (L2.map Prod.fst) c.ao:=by unfold dM;rw[hls,htk];exact if_neg (fun h=>h rfl)
   refine bh.lj (Go.Proofs.YtdkcljdfbemnbaaGreatDoor.cl gr (0+n0) (.slice pL lst.length cL)) (fun w' h=>by rw[←eL];exact h (fun w=>∀i,i<ls.length→w.cell? ⟨gr,0+i,none⟩=some (ix L2 i).2) ak n0 Pc) ?_
   repeat'(first|refine ar ?_|(refine aa.eM ?_;refine aa.y_ (Yl.gn (i:=n0) rfl rfl rfl rfl rfl Pc Pc) rfl ?_)|fail)
   refine bh.loop (σ:=Nat) (fun j=>[(0,.pointer (some ⟨cp,0,none⟩)),(4,.int .i64 0),(5,.slice (some ⟨gr,0,none⟩) ls.length rc),(10,.slice pL lst.length cL),(54,.slice (some ⟨gr,0,none⟩) ls.length rc),(55,.int .i64 ls.length),(56,.int .i64 j)]) (fun _=>aT cp c ⟨sp,tv,pv,bv,rv,fv,D,L⟩) (fun _=>[bX S0 w,fun w=>∀i,i<ls.length→w.cell? ⟨gr,0+i,none⟩=some (ix L2 i).2,fun w=>nL DD w L2]) (fun j=>j≤ls.length∧∀q,q<j→(ix L2 q).1.length=lst.length) (fun j=>ls.length - j) 0 bH OE aU ⟨Nat.zero_le _,fun q hq=>absurd hq Pc⟩ ?_
   rintro j ⟨hj,hok⟩
   dsimp only[aT,aX,Pj,Pi]
   by_cases hjn:j<ls.length
   ·obtain⟨pj,cj,ej⟩:=hsl (ix L2 j) (hmem hjn)
    refine bh.lj (Go.Proofs.YtdkcljdfbemnbaaGreatDoor.cl gr (0+j) (.slice pj (ix L2 j).1.length cj)) (fun w' h=>by rw[←ej];exact h (fun w=>∀i,i<ls.length→w.cell? ⟨gr,0+i,none⟩=some (ix L2 i).2) ak j hjn) ?_
    by_cases hle:(ix L2 j).1.length=lst.length
    ·repeat'(first|refine ar ?_|fail)
     all_goals first|(exfalso;omega)|exact ah.next (j+1) bH OE aU ⟨by omega,fun q hq=>by rcases PA q j with h|h;exact hok q h;rw[show q=j by omega];exact hle⟩ Pc
    ·have hbr:dM c x=(c.ao,12):=by
      rw[htab];unfold fL
      rw[hlast,if_pos (all_false (i:=j) Pc (decide_eq_false hle))]
     repeat'(first|refine ar ?_|fail)
     all_goals exact ww
   ·obtain rfl:j=ls.length:=by omega
    have hall:((L2.map Prod.fst).all fun l=>decide (l.length=lst.length))=true:=all_true fun i hi=>decide_eq_true (hok i Pc)
    obtain⟨r0,hr0⟩:∃r,aK c.ao [1]=r:=⟨_,rfl⟩
    have hw0:=dE hwf.ao [1]
    have ht0:=dD c.ao [1]
    rw[hr0]at hw0 ht0
    obtain⟨s0,e0⟩:=r0
    dsimp only at hw0 ht0
    have htb2:dM c x=if e0≠0 then(c.ao,e0)else if(dp s0 lst.length).2.2≠0 then(c.ao,(dp s0 lst.length).2.2)else if((L2.map Prod.fst).all fun l=>n7 (dp s0 lst.length).2.1 l)=false then(c.ao,12)else((dp s0 lst.length).1,0):=by
     rw[htab];unfold fL
     rw[hlast,hall,hr0,if_neg Pb]
    repeat'(first|refine ar ?_|refine N7 ?_|(refine fB fun b_ _=>?_)|fail)
    obtain⟨b0,rfl⟩:∃y:Nat,y=b_:=⟨_,rfl⟩
    refine aa.freeze (q:=.aV b0 [.int .i64 1] fT) (fun w=>ai (fun k=>k=b0) w (.slice (some ⟨b0,0,none⟩) 1 1) [1]) jK (fun w' h _=>dJ h) ?_
    refine aa.he (HE.bJ (M0:=aX sp c.ao (tv,pv)) dS rfl rfl (fun w' hw'=>by have:=gy (fun k=>k=b0) sp c.ao (tv,pv) (.slice (some ⟨b0,0,none⟩) 1 1) [1] w' (hw'.dc dU aU) hwf.ao.some hwf.ao.at_.1 hwf.ao.at_.2;rw[hr0]at this;exact this)) rfl ?_
    rintro⟨tv0,pv0⟩ _
    dsimp only[aX,Pj,Pi]
    by_cases jQ:e0=0
    ·subst jQ
     rw[if_neg (fun h=>h rfl)]at htb2
     repeat'(first|refine ar ?_|fail)
     refine aa.he (HE.K9 (len:=lst.length) rfl hlstl) rfl ?_
     intro gp _
     repeat'(first|refine ar ?_|fail)
     refine bh.Ft (σ:=Nat×ck×List Int×Value×Value) (fun z=>[(0,.pointer (some ⟨cp,0,none⟩)),(4,.int .i64 0),(5,.slice (some ⟨gr,0,none⟩) ls.length rc),(14,.slice (some ⟨gp,0,none⟩) lst.length lst.length),(15,.int .i64 ((z.1:Int) - 1))]) (fun z=>.own 0 fT 1 (.slice (some ⟨gp,0,none⟩) lst.length lst.length) lst.length (aZ (PG z.1 0++z.2.2.1))::aT cp {c with ao:=z.2.1} ⟨sp,z.2.2.2.1,z.2.2.2.2,bv,rv,fv,D,L⟩) (fun _=>[bX S0 w,fun w=>∀i,i<ls.length→w.cell? ⟨gr,0+i,none⟩=some (ix L2 i).2,fun w=>nL DD w L2]) (fun z=>z.1+z.2.2.1.length=lst.length∧z.2.1.Wf∧dp s0 lst.length=vL (dp z.2.1 z.1) z.2.2.1) (fun z=>z.1) (lst.length,s0,[],tv0,pv0) bH ?_ aU ⟨by dsimp only;rw[List.length_nil,Nat.add_zero],hw0,(EW _ _).symm⟩ ?_
     ·dsimp only[aT,aX,Pj,Pi]
      rw[PM]
      exact dU
     rintro⟨j,s1,o,tv1,pv1⟩ ⟨hjo,wf1,hpk⟩
     dsimp only[aT,aX,Pj,Pi]at hjo wf1 hpk ⊢
     rcases Nat.eq_zero_or_pos j with rfl|hj0
     ·have hf:dp s0 lst.length=(s1,o,0):=by rw[hpk];rfl
      rw[hf,if_neg (fun h=>h rfl)]at htb2
      dsimp only at htb2
      rw[show((0:Nat):Int) - 1=-1 from rfl,show PG 0 (0:Int)=[]from rfl,Pi]
      refine bh.freeze (q:=.own 0 fT 1 (.slice (some ⟨gp,0,none⟩) lst.length lst.length) lst.length (aZ o)) (fun w=>∀q,q<lst.length→w.cell? ⟨gp,0+q,none⟩=some (.int .i64 (ix o q))) jK (fun w' h _ q hq=>by rw[Pm];exact dO h (by have:=oR (l:=o) (i:=q) Pc;rwa[Pm]at this)) ?_
      repeat'(first|refine ar ?_|fail)
      refine bh.loop (σ:=Nat) (fun j=>[(4,.int .i64 0),(14,.slice (some ⟨gp,0,none⟩) lst.length lst.length),(96,.slice (some ⟨gr,0,none⟩) ls.length rc),(97,.int .i64 ls.length),(98,.int .i64 j)]) (fun _=>aT cp {c with ao:=s1} ⟨sp,tv1,pv1,bv,rv,fv,D,L⟩) (fun _=>[bX S0 w,fun w=>∀i,i<ls.length→w.cell? ⟨gr,0+i,none⟩=some (ix L2 i).2,fun w=>nL DD w L2,fun w=>∀q,q<lst.length→w.cell? ⟨gp,0+q,none⟩=some (.int .i64 (ix o q))]) (fun j=>j≤ls.length∧∀q,q<j→n7 o (ix L2 q).1=true) (fun j=>ls.length - j) 0 bH OE aU ⟨Nat.zero_le _,fun q hq=>absurd hq Pc⟩ ?_
      rintro j ⟨hj,hfit⟩
      dsimp only[aT,aX,Pj,Pi]
      by_cases hjn:j<ls.length
      ·obtain⟨pj,cj,ej⟩:=hsl (ix L2 j) (hmem hjn)
       have hle:=hok j hjn
       obtain⟨l,hlj⟩:∃l,(ix L2 j).1=l:=⟨_,rfl⟩
       rw[hlj]at ej hle
       have hin2:∀w',nL DD w' L2→ai DD w' (.slice pj l.length cj) l:=fun w' h=>by have:=h _ (hmem hjn);rw[ej,hlj]at this;exact this
       refine bh.lj (Go.Proofs.YtdkcljdfbemnbaaGreatDoor.cl gr (0+j) (.slice pj l.length cj)) (fun w' h=>by rw[←ej];exact h (fun w=>∀i,i<ls.length→w.cell? ⟨gr,0+i,none⟩=some (ix L2 i).2) ak j hjn) ?_
       repeat'(first|refine ar ?_|fail)
       refine bh.loop (σ:=Nat) (fun q=>[(4,.int .i64 0),(14,.slice (some ⟨gp,0,none⟩) lst.length lst.length),(96,.slice (some ⟨gr,0,none⟩) ls.length rc),(97,.int .i64 ls.length),(98,.int .i64 j),(102,.slice pj l.length cj),(103,.int .i64 l.length),(104,.int .i64 q)]) (fun _=>aT cp {c with ao:=s1} ⟨sp,tv1,pv1,bv,rv,fv,D,L⟩) (fun _=>[bX S0 w,fun w=>∀i,i<ls.length→w.cell? ⟨gr,0+i,none⟩=some (ix L2 i).2,fun w=>nL DD w L2,fun w=>∀q,q<lst.length→w.cell? ⟨gp,0+q,none⟩=some (.int .i64 (ix o q))]) (fun q=>q≤l.length∧∀r,r<q→ix o r=0∨ix o r=ix l r) (fun q=>l.length - q) 0 bH OE aU ⟨Nat.zero_le _,fun q hq=>absurd hq Pc⟩ ?_
       rintro q ⟨hq,hqs⟩
       dsimp only[aT,aX,Pj,Pi]
       by_cases hql:q<l.length
       ·refine bh.pure (φ:=∃b oo,pj=some ⟨b,oo,none⟩) (fun w' hw'=>by obtain⟨b,oo,e,_⟩:=(hin2 w' (hw'.get (p:=fun w=>nL DD w L2) ak)).at hql;exact⟨b,oo,e⟩) ?_
        rintro⟨bj,oj,rfl⟩
        refine bh.lj (Go.Proofs.YtdkcljdfbemnbaaGreatDoor.cl bj (oj+q) (.int .i64 (ix l q))) (fun w' h=>by obtain⟨b,oo,e,_,hc⟩:=(hin2 w' (h (fun w=>nL DD w L2) ak)).at hql;cases e;exact hc q hql) ?_
        refine bh.lj (Go.Proofs.YtdkcljdfbemnbaaGreatDoor.cl gp (0+q) (.int .i64 (ix o q))) (fun w' h=>h (fun w=>∀q,q<lst.length→w.cell? ⟨gp,0+q,none⟩=some (.int .i64 (ix o q))) ak q Pc) ?_
        have hstep:(ix o q=0∨ix o q=ix l q)→∀r,r<q+1→ix o r=0∨ix o r=ix l r:=fun hs r hr=>by
         rcases PA r q with hlt|hge
         ·exact hqs r hlt
         ·rw[show r=q by omega];exact hs
        by_cases h0:ix o q=0
        ·repeat'(first|refine ar ?_|fail)
         all_goals first|(exfalso;omega)|exact ah.next (q+1) bH OE aU ⟨by omega,hstep (.inl h0)⟩ Pc
        ·by_cases he:ix o q=ix l q
         ·repeat'(first|refine ar ?_|fail)
          all_goals first|(exfalso;omega)|exact ah.next (q+1) bH OE aU ⟨by omega,hstep (.inr he)⟩ Pc
         ·have hbr:dM c x=(c.ao,12):=by
           rw[htb2,if_pos (all_false (i:=j) Pc (by rw[hlj];exact rV Pc hql (fun h=>h.elim h0 he)))]
          repeat'(first|refine ar ?_|fail)
          all_goals exact ww
       ·repeat'(first|refine ar ?_|fail)
        all_goals first|(exfalso;omega)|exact ah.next (j+1) bH OE aU ⟨by omega,fun r hr=>by rcases PA r j with h|h;exact hfit r h;rw[show r=j by omega,hlj];exact pR (fun i h1 h2=>hqs i Pc)⟩ Pc
      ·have hbr:dM c x=(s1,0):=by
        rw[htb2,if_neg (by rw[all_true (fun i hi=>hfit i Pc)];decide)]
       repeat'(first|refine ar ?_|fail)
       all_goals first|(exfalso;omega)|exact ah.aF rfl rfl fun w' hw'=>by rw[hbr];exact aJ.ok (r:=({c with ao:=s1},0)) (⟨sp,tv1,pv1,bv,rv,fv,D,L⟩:jI) rfl ⟨hg.len,hg.fr,hg.rs⟩ hS hw' OH ak
     ·obtain⟨i,rfl⟩:∃i,j=i+1:=⟨j - 1,by omega⟩
      rw[xx]at hpk
      rw[show((i+1:Nat):Int) - 1=(i:Int)by omega]
      repeat'(first|refine ar ?_|refine N7 ?_|fail)
      refine MP ?_
      rintro⟨tv2,pv2⟩ _
      obtain⟨pr,hpr⟩:∃r,aY s1=r:=⟨_,rfl⟩
      have za:(aY s1).1.Wf:=jn wf1
      rw[hpr]at hpk za ⊢
      obtain⟨s2,a,e⟩:=pr
      dsimp only[aX,Pj,Pi]at hpk za ⊢
      by_cases he:e=0
      ·subst he
       rw[if_neg (fun h=>h rfl)]at hpk
       repeat'(first|refine ar ?_|refine N9 ?_|fail)
       refine aa.jQ (gj.HC (i:=i) rfl rfl rfl Pc rfl rfl aH (by simp[aZ];omega)) ?_
       rintro⟨⟩ _
       simp only[PZ,P0,P1]
       rw[G9]
       repeat'(first|refine ar ?_|fail)
       exact ah.Fw (i,s2,a::o,tv2,pv2) bH (by first|(dsimp only[aT,aX,Pj,Pi];exact dU)|exact dU) aU ⟨by dsimp only;rw[List.length_cons];omega,za,hpk⟩ O0
      ·rw[if_pos he]at hpk
       have hbr:dM c x=(c.ao,e):=by rw[htb2,hpk];exact if_pos he
       repeat'(first|refine ar ?_|fail)
       all_goals first|(exfalso;omega)|exact ah.aF rfl rfl fun w' hw'=>aJ.err e (by show(dM c x).2=e;rw[hbr]) he hS hw' ak
    ·have hbr:dM c x=(c.ao,e0):=by rw[htb2];exact if_pos jQ
     repeat'(first|refine ar ?_|fail)
     all_goals first|(exfalso;omega)|exact ah.aF rfl rfl fun w' hw'=>aJ.err e0 (by show(dM c x).2=e0;rw[hbr]) jQ hS hw' ak
theorem xn {s:ck}:∀(a b:List Int) (n:Nat),eU s (a++b) n=if(eU s a n).2=0 then eU s b (eU s a n).1 else(0,(eU s a n).2)
 |[],b,n=>by simp[eU]
 |x::r,b,n=>by
  have ih:=xn (s:=s) r b
  simp only[Pj,eU]
  split
  ·split
   ·exact ih n
   ·simp
  ·split
   ·simp
   ·exact ih (n - 1)
theorem pT {s:ck} {k:Nat} (h0:0≤s.at_):∀(l:List Int) (n:Nat),n≤k→k≤s.ts.length→s.at_≤n→eU {s with ts:=s.ts.take k} l n=eU s l n
 |[],n,_,_,_=>rfl
 |x::r,n,h,hk,ha=>by
  have e2:({s with ts:=s.ts.take k}:ck).at_=s.at_:=rfl
  have e3:({s with ts:=s.ts.take k}:ck).loose=s.loose:=rfl
  rw[eU,eU,e2,e3]
  by_cases hat:(n:Int)=s.at_
  ·rw[if_pos hat,if_pos hat,pT h0 r n h hk ha]
  ·have e4:ix (s.ts.take k) (n - 1)=ix s.ts (n - 1):=by
    rw[cz OT,cz Pc];simp
   rw[if_neg hat,if_neg hat]
   dsimp only
   rw[e4,pT h0 r (n - 1) Pc hk Pc]
theorem Cf (h:s.Wf) (l:List Int) (x:Int):aK s (l++[x])=if(aK s [x]).2≠0 then(s,(aK s [x]).2)else if(aK (aK s [x]).1 l).2≠0 then(s,(aK (aK s [x]).1 l).2)else aK (aK s [x]).1 l:=by
 have hat:=h.at_.2
 have h0:=h.at_.1
 unfold aK
 rw[List.reverse_append,show([x]:List Int).reverse=[x]from rfl,xn]
 obtain⟨r,hr⟩:∃r,eU s [x] s.ts.length=r:=⟨_,rfl⟩
 have hb:=jM (s:=s) [x] s.ts.length Pc
 rw[hr]at hb ⊢
 by_cases he:r.2=0
 ·obtain⟨h1,h2⟩:=hb he
  have e1:(s.ts.take r.1).length=r.1:=by rw[List.length_take];omega
  have e5:=pT (k:=r.1) h0 l.reverse r.1 (Nat.le_refl _) h2 h1
  simp only[if_pos he,e1,e5,ne_eq,not_true_eq_false,if_false]
  obtain⟨q,hq⟩:∃q,eU s l.reverse r.1=q:=⟨_,rfl⟩
  have hb2:=jM (s:=s) l.reverse r.1 h1
  rw[hq]at hb2 ⊢
  by_cases he2:q.2=0
  ·have:=hb2 he2
   simp only[if_pos he2,not_true_eq_false,if_false]
   rw[List.take_take,Nat.min_eq_left this.2]
  ·simp[he2]
 ·simp[he]
def ck.Fit (s:ck):Prop:=s.ts.length≤s.bQ
theorem BF (h:s.Fit):aS s []=s:=by
 unfold aS
 have:max s.bQ (s.ts.length+([]:List Int).length)=s.bQ:=Nat.max_eq_left (by unfold ck.Fit at h;simpa using h)
 rw[this,PM]
theorem mO (s:ck) (l:List Int):(aS s l).Fit:=by
 show(s.ts++l).length≤max s.bQ (s.ts.length+l.length)
 rw[Pt];exact Nat.le_max_right ..
theorem kL (h:s.Fit) (l:List Int):(aK s l).1.Fit:=by
 have:=h;clear this
 have h1:=dD s l
 have h2:(aK s l).1.bQ=s.bQ:=by unfold aK;dsimp only;split<;>rfl
 unfold ck.Fit at*;omega
theorem tY (h:s.Fit):(aY s).1.Fit:=by
 have:=h;clear this
 have h1:=jO s
 have h2:=mN s
 unfold ck.Fit at*;omega
theorem Gv (h:s.Wf) (l:List Int):(fS s ⟨l++[1],l⟩).2=(if(aK s [1]).2≠0 then(s,(aK s [1]).2)else fS (aK s [1]).1 ⟨l,l⟩).2∧((fS s ⟨l++[1],l⟩).2=0→(fS s ⟨l++[1],l⟩).1=(if(aK s [1]).2≠0 then(s,(aK s [1]).2)else fS (aK s [1]).1 ⟨l,l⟩).1):=by
 unfold fS
 dsimp only
 rw[Cf h]
 obtain⟨a,ha⟩:∃a,aK s [1]=a:=⟨_,rfl⟩
 rw[ha]
 by_cases h1:a.2≠0
 ·simp only[if_pos h1];exact⟨trivial,fun h=>absurd h h1⟩
 ·simp only[if_neg h1]
  obtain⟨b,hb⟩:∃b,aK a.1 l=b:=⟨_,rfl⟩
  rw[hb]
  by_cases h2:b.2≠0
  ·simp only[if_pos h2];exact⟨trivial,fun h=>absurd h h2⟩
  ·simp only[if_neg h2];exact⟨trivial,fun _=>trivial⟩
theorem DB {c:gA} (hf:c.ao.Fit) (l:List Int):lV c l 0=if(aK c.ao l).2≠0 then(c,(aK c.ao l).2)else(gk {c with ao:=(aK c.ao l).1},0):=by
 unfold lV ki fS
 dsimp only
 rw[if_neg Pb]
 by_cases h1:(aK c.ao l).2≠0
 ·simp only[if_pos h1]
 ·simp only[if_neg h1]
  rw[if_neg Pb,BF (kL hf l)]
end Go.Proofs.YtdkcljdfbemnbaaGreatDoor
