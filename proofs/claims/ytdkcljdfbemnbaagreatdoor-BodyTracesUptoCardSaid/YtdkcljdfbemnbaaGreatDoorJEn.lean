import Derived.Test.YtdkcljdfbemnbaaGreatDoorJRx
namespace Go.Proofs.YtdkcljdfbemnbaaGreatDoor
section
open Go.RowKit
set_option maxHeartbeats 32000000
open List renaming cons_append→Pq,length_take→Pz,nil_append→Pp
set_option maxRecDepth 100000
def aK (M0:List bu) (cp:Nat) (r:dv×Int) (w:World):Ending→World→Prop:=aC M0 w (fun _:jF=>.int .i64 r.2) (fun v'=>r.2=0→v'.Good r.1) (fun v'=>if r.2=0 then aT cp r.1 v' else[])
variable (s:ck) (l:List Int) {M0 M:List bu} {cp:Nat} {r:dv×Int} {w w':World} {S0:Nat→Prop} {R:List (World→Prop)}
theorem aK.err (e:Int) (hr:r.2=e) (he:e≠0) (hS:Mb M0=S0) (h:Ok M R w') (hR:bX S0 w∈R):aK M0 cp r w (.returned (.int .i64 e)) w':=by
 subst hr
 exact aC.qM (x:=(⟨0,undef,undef,undef,undef,[],fun _=>False,[]⟩:jF)) (fun h=>absurd h he) hS h (by rw[if_neg he];exact kn.nil) hR
theorem aK.ok (v':jF) (hr:r.2=0) (hg:v'.Good r.1) (hS:Mb M0=S0) (h:Ok M R w') (hM:kn (aT cp r.1 v') M) (hR:bX S0 w∈R):aK M0 cp r w (.returned (.int .i64 0)) w':=by
 have:=aC.qM (M0:=M0) (tf:=fun _:jF=>.int .i64 r.2) (φ:=fun v'=>r.2=0→v'.Good r.1) (M1:=fun v'=>if r.2=0 then aT cp r.1 v' else[]) v' (fun _=>hg) hS h (by rw[if_pos hr];exact hM) hR
 unfold aK
 rw[hr]at this ⊢
 exact this
theorem kn.app (M:List bu):∀M':List bu,kn M (M++M'):=by
 induction M with
 |nil=>exact fun M'=>kn.nil
 |cons q M ih=>exact fun M'=>kn.cons Rm.head (ih M')
theorem iZ.cons {D D0:Nat→Prop} {w:World} {L:List (aO×Value×Value)} {f:aO} {x:Value×Value} (h1:iZ D w L) (h2:dH f D0 w x):iZ (fun k=>D k∨D0 k) w ((f,x)::L):=fun y hy=>by
 rcases List.mem_cons.1 hy with rfl|hy
 ·exact dH.mono h2 (fun k h=>.inr h)
 ·exact dH.mono (h1 y hy) (fun k h=>.inl h)
theorem dD:(aL s l).1.ts.length≤s.ts.length:=by
 unfold aL;dsimp only;split
 ·rw[Pz];omega
 ·exact Nat.le_refl _
theorem dJ {w:World} {b T:Nat} {a:Int} (h:gQ w b [.int .i64 a] T):ai (fun k=>k=b) w (.slice (some ⟨b,0,none⟩) 1 1) [a]:=
 ⟨_,1,rfl,by simp,.inr ⟨b,0,rfl,rfl,fun i hi=>by
  have:i=0:=by simp at hi;exact hi
  subst this
  exact h.cell rfl⟩⟩
theorem bh.nk {Q:Exit→Act→World→Prop} {n:Nat} {cd:Code} {E:Env} {q1 q2 q:bu} {M M1 M2:List bu} {R:List (World→Prop)} (h1:Rm q1 M M1) (h2:Rm q2 M1 M2) (hF:∀k,q.F k→q1.F k∨q2.F k) (hP:∀w,q1.P w→q2.P w→q.P w) (h:bh Q n cd E (q::M2) R):bh Q n cd E M R:=
 ⟨fun w hw=>h.h w (((hw.front h1).front (Rm.tail h2)).merge (fun k hk=>(hF k hk).symm) (fun a b=>hP w b a))⟩
theorem E8 (c:dv) (_hb:c.broken=0):mF c=if c.fs.length=0∨c.top.kind≠4∨c.top.other=true then(c,16)else if(cQ c.ao c.top.res).2≠0 then({c with broken:=(cQ c.ao c.top.res).2},(cQ c.ao c.top.res).2)else(gX c (cQ c.ao c.top.res).1 (c.fs.take (c.fs.length - 1)) {c.top with other:=true},0):=by
 unfold mF;rw[if_neg Pi]
theorem mW:(cQ s l).1.ts.length≤s.ts.length:=by
 unfold cQ;dsimp only;split
 ·exact Nat.le_refl _
 ·split
  ·exact Nat.le_refl _
  ·dsimp only;rw[Pz];omega
theorem vp (h:2≤s.ps.length) (h0:(cQ s l).2=0):0<(cQ s l).1.ps.length∧(cQ s l).1.ps.length≤s.ps.length:=by
 have:=h;clear this
 rw[vq h0,if_neg Pi,Pz];omega
theorem jF.Good.pop {v:jF} {c:dv} (h:v.Good c) (s:ck) (tv pv bv:Value) (k:Nat):(jF.mk v.sp tv pv bv v.rv (v.fv.take k) v.D v.L).Good {c with ao:=s,fs:=c.fs.take k}:=by
 have hl:=h.len
 refine⟨by dsimp only;rw[Pz,Pz,hl],fun i hi=>?_,h.rs⟩
 dsimp only at hi ⊢
 have hi2:i<k∧i<c.fs.length:=by rw[Pz]at hi;omega
 rw[cz hi,cz OZ,List.getElem_take,List.getElem_take,←cz hi2.2,←cz (show i<v.fv.length by omega)]
 exact h.fr i hi2.2
theorem Dl (cp:Nat) (c:dv) (v:jF) (w:World) (hw:Ok (aT cp c v) [] w) (hg:v.Good c) (hb:c.broken=0) (hwf:c.Wf) (_hfl:c.fs.length≤1000) (_hts:(c.ao.ts.length+c.top.par.length)*8≤140737488355328):
  Calls G.P 51 #[.pointer (some ⟨cp,0,none⟩)] w (aK (aT cp c v) cp (mF c) w):=by
 obtain⟨sp,tv,pv,bv,rv,fv,D,L⟩:=v
 have hrd:=hw.Cy (List.Sublist.refl _)
 obtain⟨p,cc,e,hcp,hmx,hgg⟩:=aw hrd.o
 dsimp only at e
 subst e
 unfold maxLen at hmx
 have hat:=hwf.ao.at_
 have hps:=hwf.ao.some
 have hmany:=hwf.many
 rw[E8 c hb]
 refine ae (l:=[_]) Tryz.func51 rfl Tryz.ntmps51 rfl (Ok.dk hw) ?_
 by_cases h0:c.fs.length=0
 ·rw[if_pos (.inl h0)]
  generalize hS:Mb (aT cp c ⟨sp,tv,pv,.slice p c.fs.length cc,rv,fv,D,L⟩)=S0
  dsimp only[aT,aX,Pq,Pp]
  repeat'(first|refine ar ?_|refine N7 ?_|(refine bC ?_ ?_<;>intro hc_))
  all_goals exact ne
 ·obtain⟨g,rfl,-⟩:=hgg Pi
  have hi:c.fs.length - 1<c.fs.length:=by omega
  have hin:((ix c.fs (c.fs.length - 1)).fn,ix fv (c.fs.length - 1))∈L:=hg.fr _ hi
  obtain⟨q1,d1,q2,d2,hx⟩:=(hrd.l _ hin).gx
  have hc5:∀j,j<5→(eu c.fs fv)[0+(c.fs.length - 1)*5+j]?=(iD (ix c.fs (c.fs.length - 1)) (ix fv (c.fs.length - 1)))[j]?:=fun j hj=>by rw[Nat.zero_add];exact mI c.fs fv (c.fs.length - 1) j hg.len hi hj
  dsimp only at hx hin
  rw[hx]at hc5 hin
  have htop:c.top=ix c.fs (c.fs.length - 1):=rfl
  rw[←htop]at hc5 hin hx
  have hpe:(ix fv (c.fs.length - 1))=(.slice q1 c.top.par.length d1,.slice q2 c.top.res.length d2):=hx
  generalize hf:c.top=f at*
  dsimp only[iD]at hc5
  obtain⟨o5,hoff⟩:∃o5,0+(c.fs.length - 1)*5=o5:=⟨_,rfl⟩
  rw[hoff]at hc5
  have f0:(eu c.fs fv)[o5]?=some (.int .i64 f.kind):=hc5 0 Pi
  have f2:(eu c.fs fv)[o5+1+1]?=some (.slice q2 f.res.length d2):=hc5 2 Pi
  have f3:(eu c.fs fv)[o5+3]?=some (.bool f.other):=hc5 3 Pi
  generalize hS:Mb (aT cp c ⟨sp,tv,pv,.slice (some ⟨g,0,none⟩) c.fs.length cc,rv,fv,D,L⟩)=S0
  dsimp only[aT,aX,Pq,Pp]
  by_cases hk:f.kind≠4∨f.other=true
  ·rw[if_pos (.inr hk)]
   repeat'(first|refine ar ?_|refine N7 ?_|(refine aa.eN ?_;refine aa.yg OS (Yl.idx (i:=c.fs.length - 1) rfl rfl rfl rfl rfl Pi Pi) rfl ?_;rw[hoff])|(refine aa.dn ?_;refine aa.yg OS (Yl.jv rfl rfl rfl rfl f0 bO) rfl ?_)|(refine aa.dn ?_;refine aa.yg OS (Yl.jv rfl rfl rfl rfl f3 bO) rfl ?_)|(refine bC ?_ ?_<;>intro hc_))
   all_goals first|omega|skip
   all_goals first|(exfalso;simp_all;done)|skip
   all_goals exact ah.aG rfl rfl fun w' hw'=>aK.err 16 rfl Ph hS hw' ak
  ·rw[if_neg (by rintro(h|h);exact h0 h;exact hk h)]
   have hk4:f.kind=4:=by omega
   have hot:f.other=false:=by cases hb2:f.other<;>simp_all
   obtain⟨r,hr⟩:∃r,cQ c.ao f.res=r:=⟨_,rfl⟩
   obtain⟨s2,e2⟩:=r
   have hs2p:=vp c.ao f.res Pi
   have hs2t:=mW c.ao f.res
   rw[hr]at hs2p hs2t ⊢
   dsimp only at hs2p hs2t ⊢
   repeat'(first|refine ar ?_|refine N7 ?_|(refine aa.eN ?_;refine aa.yg OS (Yl.idx (i:=c.fs.length - 1) rfl rfl rfl rfl rfl Pi Pi) rfl ?_;rw[hoff])|(refine aa.dn ?_;refine aa.yg OS (Yl.jv rfl rfl rfl rfl f0 bO) rfl ?_)|(refine aa.dn ?_;refine aa.yg OS (Yl.jv rfl rfl rfl rfl f3 bO) rfl ?_)|(refine bC ?_ ?_<;>intro hc_))
   all_goals first|omega|skip
   refine MA ?_
   repeat'(first|refine pN ?_|(refine aP.qy 10 rfl (Yl.idx (i:=c.fs.length - 1) rfl rfl rfl rfl rfl Pi Pi) ?_;rw[hoff])|refine aP.qy 13 rfl (Yl.jv rfl rfl rfl rfl f2 bO) ?_|(refine ax.dA 85 ?_;refine ax.he rfl rfl (HE.bJ (M0:=[.aW sp [tv,pv,.bool (dB c.ao)] jE,.own 0 fR 1 tv c.ao.ts.length (aY c.ao.ts),.own 0 jD 2 pv c.ao.ps.length (cg c.ao.ps)]) dU rfl rfl (fun w' hw'=>by have:=vx D sp c.ao (tv,pv) (.slice q2 f.res.length d2) f.res w' ((hw'.ni (q:=.kq iZ iZ.fr D L) (p:=fun w=>ai D w (.slice q2 f.res.length d2) f.res) jH (fun w' h _=>(h _ hin).2)).dc dV aU) Pi hat.1 hat.2;rw[hr]at this;exact this)) (fun _=>by dsimp only[aX,Pq,Pp];exact bz) (fun _=>aU) ?_;rintro⟨tvb,pvb⟩ _;dsimp only[aX,Pq,Pp])|refine aP.nil O9 ?_|refine aP.any O9 ?_|exact aB.fin rfl|refine aB.skip O9 ?_|refine aB.go ?_ ?_)
   by_cases he2:e2=0
   ·subst he2
    obtain⟨hs2p,hs2q⟩:=hs2p rfl
    rw[if_neg Ph]
    repeat'(first|refine ar ?_|(refine bC ?_ ?_<;>intro hc_))
    refine aa.he (HE.bJ (M0:=[.aW cp [.pointer (some ⟨sp,0,none⟩),.slice (some ⟨g,0,none⟩) c.fs.length cc,rv,.bool c.live,.int .i64 c.broken] jd,.aW sp [tvb,pvb,.bool (dB s2)] jE,.own 0 fR 1 tvb s2.ts.length (aY s2.ts),.own 0 jD 2 pvb s2.ps.length (cg s2.ps),.own 0 sx 5 (.slice (some ⟨g,0,none⟩) c.fs.length cc) c.fs.length (eu c.fs fv),.kq iZ iZ.fr D L]) dU rfl rfl (fun w' hw'=>zF cp {c with ao:=s2} ⟨sp,tvb,pvb,.slice (some ⟨g,0,none⟩) c.fs.length cc,rv,fv,D,L⟩ w' (hw'.dc dV (fun p h=>by cases h)) (hg.mono rfl rfl rfl rfl (fun _ h=>h)) O6 O6)) rfl ?_
    intro bv2 _
    dsimp only[aT,aX,Pq,Pp]
    rw[show dv.top {c with ao:=s2}=f from hf,hpe]
    dsimp only[iD]
    rw[hk4,hot]
    repeat'(first|refine ar ?_|(refine aa.eh (t:=sx) ?_;refine aa.alloc (t:=sx) [.int .i64 0,.slice none 0 0,.slice none 0 0,.bool false,.bool false] rfl rfl rfl fun b_=>?_)|(refine bC ?_ ?_<;>intro hc_))
    refine aa.he (HE.bJ (M0:=[.aW cp [.pointer (some ⟨sp,0,none⟩),bv2,rv,.bool c.live,.int .i64 c.broken] jd,.aW sp [tvb,pvb,.bool (dB s2)] jE,.own 0 fR 1 tvb s2.ts.length (aY s2.ts),.own 0 jD 2 pvb s2.ps.length (cg s2.ps),.own 0 sx 5 bv2 (c.fs.take (c.fs.length - 1)).length (eu (c.fs.take (c.fs.length - 1)) (fv.take (c.fs.length - 1))),.kq iZ iZ.fr D L]) dU rfl rfl (fun w' hw'=>by
     have:=ng cp {c with ao:=s2,fs:=c.fs.take (c.fs.length - 1)} ⟨sp,tvb,pvb,bv2,rv,fv.take (c.fs.length - 1),D,L⟩ {f with other:=true} (.slice q1 f.par.length d1,.slice q2 f.res.length d2) w' (hw'.dc dV (fun p h=>by cases h)) (hg.pop s2 _ _ _ _) hin O6 O6 (by dsimp only;rw[Pz];omega) O6
     dsimp only[iD]at this
     rw[hk4]at this
     exact this)) rfl ?_
    intro y hy
    repeat'(first|refine ar ?_|(refine bC ?_ ?_<;>intro hc_))
    exact pi
   ·rw[if_pos he2]
    repeat'(first|refine ar ?_|(refine bC ?_ ?_<;>intro hc_))
    refine MB ?_
    rintro⟨⟩ _
    dsimp only[Pq,Pp]
    repeat'(first|refine ar ?_|(refine bC ?_ ?_<;>intro hc_))
    exact pm
end
section
open Go.RowKit _root_.Go.Proofs.Tryz
set_option maxHeartbeats 32000000
open List renaming cons_append→Pq,mem_cons_of_mem→PP,mem_cons_self→PT,nil_append→Pp
open Value renaming slice→Pn
set_option maxRecDepth 100000
theorem ui {g g':Prop} (h:g') (hw:eA g'→g:=by(intro hk_;(first|refine N7 ?_);exact hk_.out)):g:=hw ⟨h⟩
theorem Bd (Dt:Nat→Prop) (cp:Nat) (c:dv) (v:jF) (op:Int) (par res:List Int) (x:Value×Value) (w:World) (hw:Ok (aT cp c v) [fun w=>dH ⟨par,res⟩ Dt w x] w) (hg:v.Good c) (hb:c.broken=0) (hwf:c.Wf) (hop:op=2∨op=3∨op=4) (_hfl:c.fs.length≤1000) (_hts:(c.ao.ts.length+par.length)*8≤140737488355328):
  Calls G.P 50 #[.pointer (some ⟨cp,0,none⟩),.int .i64 op,.agg #[x.1,x.2]] w (aK (aT cp c v) cp (ju c op par res) w):=by
 have:=hb;clear this
 obtain⟨sp,tv,pv,bv,rv,fv,D,L⟩:=v
 have hrd:=hw.Cy (List.Sublist.refl _)
 have hfx:dH ⟨par,res⟩ Dt w x:=hw.get (p:=fun w=>dH ⟨par,res⟩ Dt w x) Pj
 obtain⟨q1,d1,q2,d2,rfl⟩:=hfx.gx
 dsimp only at hw hfx ⊢
 obtain⟨p,cc,e,hcp,hmx,-⟩:=aw hrd.o
 dsimp only at e
 subst e
 have hat:=hwf.ao.at_
 have hps:=hwf.ao.some
 have hmany:=hwf.many
 have hl1:par.length≤17592186044416:=by obtain⟨_,_,_,h⟩:=hfx.1.slice;exact h
 have hl2:res.length≤17592186044416:=by obtain⟨_,_,_,h⟩:=hfx.2.slice;exact h
 by_cases h0:c.fs.length=0
 ·have e:ju c op par res=(c,16):=by unfold ju;rw[if_neg Pi,if_neg Pi,if_pos h0]
  rw[e]
  refine ae (l:=[_,_,_]) func50 rfl ntmps50 rfl (Ok.dk hw) ?_
  generalize hS:Mb (aT cp c ⟨sp,tv,pv,.slice p c.fs.length cc,rv,fv,D,L⟩)=S0
  dsimp only[aT,aX,Pq,Pp]
  repeat'(first|refine ar ?_|refine ui ?_|(refine aF fun b_=>?_)|(refine bC ?_ ?_<;>intro hc_))
  all_goals exact ne
 ·obtain⟨a,ha⟩:∃a,(if op=4 then aL c.ao [1]else(c.ao,0))=a:=⟨_,rfl⟩
  obtain⟨s1,ea⟩:=a
  have e:ju c op par res=(if ea≠0 then({c with broken:=ea},ea)else
   let b:=aL s1 par
   if b.2≠0 then({c with ao:=s1,broken:=b.2},b.2)else(gX c b.1 c.fs ⟨op,par,res,false,c.live⟩,0)):=by unfold ju;rw[if_neg Pi,if_neg Pi,if_neg h0,ha]
  rw[e]
  refine ae (l:=[_,_,_]) func50 rfl ntmps50 rfl (Ok.dk hw) ?_
  generalize hS:Mb (aT cp c ⟨sp,tv,pv,.slice p c.fs.length cc,rv,fv,D,L⟩)=S0
  dsimp only[aT,aX,Pq,Pp]
  rcases hop with rfl|rfl|rfl
  ·rw[if_neg Ph]at ha
   cases ha
   have hwf1:=hwf.ao
   rw[if_neg Ph]
   repeat'(first|refine ar ?_|refine ui ?_|(refine bC ?_ ?_<;>intro hc_))
   all_goals first|omega|skip
   refine aa.box [.slice q1 par.length d1,.slice q2 res.length d2] rfl rfl rfl fun b5=>?_
   repeat'(first|refine ar ?_|refine ui ?_|(refine bC ?_ ?_<;>intro hc_))
   all_goals first|omega|skip
   obtain⟨r,hr⟩:∃r,aL c.ao par=r:=⟨_,rfl⟩
   obtain⟨s2,e2⟩:=r
   rw[hr]
   dsimp only
   have hs2w:=dE hwf1 par
   have hs2p:=ft c.ao par
   have hs2t:=dD c.ao par
   rw[hr]at hs2w hs2p hs2t
   dsimp only at hs2w hs2p hs2t
   have hs2l:s2.ps.length=(c.ao).ps.length:=by rw[hs2p]
   refine M7 ?_
   repeat'(first|refine pN ?_|(refine ax.dA 82 ?_;refine ax.he rfl rfl (HE.bJ (M0:=[.aW sp [tv,pv,.bool (dB c.ao)] jE,.own 0 fR 1 tv c.ao.ts.length (aY c.ao.ts),.own 0 jD 2 pv c.ao.ps.length (cg c.ao.ps)]) dU rfl rfl (fun w' hw'=>by have:=gy Dt sp c.ao (tv,pv) (.slice q1 par.length d1) par w' ((hw'.lj (p:=fun w=>ai Dt w (.slice q1 par.length d1) par) (fun w2 h=>(h (fun w=>dH ⟨par,res⟩ Dt w (.slice q1 par.length d1,.slice q2 res.length d2)) ak).1)).dc dV aU) hwf1.some hwf1.at_.1 hwf1.at_.2;rw[hr]at this;exact this)) (fun _=>by dsimp only[aX,Pq,Pp];exact bz) (fun _=>aU) ?_;rintro⟨tvb,pvb⟩ _;dsimp only[aX,Pq,Pp])|refine aP.nil O9 ?_|refine aP.any O9 ?_|exact aB.fin rfl|refine aB.skip O9 ?_|refine aB.go ?_ ?_)
   by_cases he2:e2=0
   ·subst he2
    rw[if_neg Ph]
    repeat'(first|refine ar ?_|(refine bC ?_ ?_<;>intro hc_))
    refine M8 ?_
    repeat'(first|refine CZ ?_|(refine bA.dA 42 ?_;refine bA.he rfl rfl (HE.bJ (M0:=[]) nK.nil rfl rfl (fun w' hw'=>eD par (.slice q1 par.length d1) w' (hw'.get (p:=fun w=>dH ⟨par,res⟩ Dt w (.slice q1 par.length d1,.slice q2 res.length d2)) ak).1)) (fun _=>by dsimp only[Pq,Pp];exact bz) (fun _=>aU) ?_;intro upar_ _;dsimp only[Pq,Pp];refine db.pure (φ:=∃p c,upar_=.slice p par.length c) (fun w' hw'=>?_) ?_;(·obtain⟨p,c,e,_⟩:=aw (hw'.own (v:=upar_));exact⟨p,c,e⟩);rintro⟨ppar_,cpar_,rfl⟩)|(refine bA.dA 42 ?_;refine bA.he rfl rfl (HE.bJ (M0:=[]) nK.nil rfl rfl (fun w' hw'=>eD res (.slice q2 res.length d2) w' (hw'.get (p:=fun w=>dH ⟨par,res⟩ Dt w (.slice q1 par.length d1,.slice q2 res.length d2)) ak).2)) (fun _=>by dsimp only[Pq,Pp];exact bz) (fun _=>aU) ?_;intro ures_ _;dsimp only[Pq,Pp];refine db.pure (φ:=∃p c,ures_=.slice p res.length c) (fun w' hw'=>?_) ?_;(·obtain⟨p,c,e,_⟩:=aw (hw'.own (v:=ures_));exact⟨p,c,e⟩);rintro⟨pres_,cres_,rfl⟩)|(refine bA.iO rfl (gj.bn _ rfl rfl rfl rfl rfl rfl aH rfl) ?_;rintro⟨⟩ _)|refine db.any O9 ?_|exact cw.fin rfl|refine cw.skip O9 ?_|refine cw.go ?_ ?_)
    all_goals
     repeat'(first|refine ar ?_|(refine bC ?_ ?_<;>intro hc_))
     refine M9 ?_
     generalize (fun k=>(Pn ppar_ par.length cpar_).ownBlock=some k∨(Pn pres_ res.length cres_).ownBlock=some k)=D0
     refine Na ?_
     refine Nb ?_
     refine m7 ?_
     refine bF.JG (HE.bJ (M0:=[.aW cp [.pointer (some ⟨sp,0,none⟩),.slice p c.fs.length cc,rv,.bool c.live,.int .i64 c.broken] jd,.aW sp [tvb,pvb,.bool (dB s2)] jE,.own 0 fR 1 tvb s2.ts.length (aY s2.ts),.own 0 jD 2 pvb s2.ps.length (cg s2.ps),.own 0 sx 5 (.slice p c.fs.length cc) c.fs.length (eu c.fs fv),.kq iZ iZ.fr (fun k=>D k∨D0 k) ((⟨par,res⟩,.slice ppar_ par.length cpar_,.slice pres_ res.length cres_)::L)]) dU rfl rfl (fun w' hw'=>ng cp {c with ao:=s2} ⟨sp,tvb,pvb,.slice p c.fs.length cc,rv,fv,fun k=>D k∨D0 k,(⟨par,res⟩,.slice ppar_ par.length cpar_,.slice pres_ res.length cres_)::L⟩ ⟨2,par,res,false,c.live⟩ (.slice ppar_ par.length cpar_,.slice pres_ res.length cres_) w' (hw'.dc dV (fun p h=>by cases h)) (hg.mono rfl rfl rfl rfl (fun _ h=>PP _ h)) PT O6 O6 O6 O6)) rfl ?_
     intro y hy
     repeat'(first|refine ar ?_|(refine bC ?_ ?_<;>intro hc_))
     exact pi
   ·rw[if_pos he2]
    repeat'(first|refine ar ?_|(refine bC ?_ ?_<;>intro hc_))
    refine Nc ?_
    rintro⟨⟩ _
    dsimp only[Pq,Pp]
    repeat'(first|refine ar ?_|(refine bC ?_ ?_<;>intro hc_))
    exact pm
  ·rw[if_neg Ph]at ha
   cases ha
   have hwf1:=hwf.ao
   rw[if_neg Ph]
   repeat'(first|refine ar ?_|refine ui ?_|(refine bC ?_ ?_<;>intro hc_))
   all_goals first|omega|skip
   refine aa.box [.slice q1 par.length d1,.slice q2 res.length d2] rfl rfl rfl fun b5=>?_
   repeat'(first|refine ar ?_|refine ui ?_|(refine bC ?_ ?_<;>intro hc_))
   all_goals first|omega|skip
   obtain⟨r,hr⟩:∃r,aL c.ao par=r:=⟨_,rfl⟩
   obtain⟨s2,e2⟩:=r
   rw[hr]
   dsimp only
   have hs2w:=dE hwf1 par
   have hs2p:=ft c.ao par
   have hs2t:=dD c.ao par
   rw[hr]at hs2w hs2p hs2t
   dsimp only at hs2w hs2p hs2t
   have hs2l:s2.ps.length=(c.ao).ps.length:=by rw[hs2p]
   refine M7 ?_
   repeat'(first|refine pN ?_|(refine ax.dA 82 ?_;refine ax.he rfl rfl (HE.bJ (M0:=[.aW sp [tv,pv,.bool (dB c.ao)] jE,.own 0 fR 1 tv c.ao.ts.length (aY c.ao.ts),.own 0 jD 2 pv c.ao.ps.length (cg c.ao.ps)]) dU rfl rfl (fun w' hw'=>by have:=gy Dt sp c.ao (tv,pv) (.slice q1 par.length d1) par w' ((hw'.lj (p:=fun w=>ai Dt w (.slice q1 par.length d1) par) (fun w2 h=>(h (fun w=>dH ⟨par,res⟩ Dt w (.slice q1 par.length d1,.slice q2 res.length d2)) ak).1)).dc dV aU) hwf1.some hwf1.at_.1 hwf1.at_.2;rw[hr]at this;exact this)) (fun _=>by dsimp only[aX,Pq,Pp];exact bz) (fun _=>aU) ?_;rintro⟨tvb,pvb⟩ _;dsimp only[aX,Pq,Pp])|refine aP.nil O9 ?_|refine aP.any O9 ?_|exact aB.fin rfl|refine aB.skip O9 ?_|refine aB.go ?_ ?_)
   by_cases he2:e2=0
   ·subst he2
    rw[if_neg Ph]
    repeat'(first|refine ar ?_|(refine bC ?_ ?_<;>intro hc_))
    refine M8 ?_
    repeat'(first|refine CZ ?_|(refine bA.dA 42 ?_;refine bA.he rfl rfl (HE.bJ (M0:=[]) nK.nil rfl rfl (fun w' hw'=>eD par (.slice q1 par.length d1) w' (hw'.get (p:=fun w=>dH ⟨par,res⟩ Dt w (.slice q1 par.length d1,.slice q2 res.length d2)) ak).1)) (fun _=>by dsimp only[Pq,Pp];exact bz) (fun _=>aU) ?_;intro upar_ _;dsimp only[Pq,Pp];refine db.pure (φ:=∃p c,upar_=.slice p par.length c) (fun w' hw'=>?_) ?_;(·obtain⟨p,c,e,_⟩:=aw (hw'.own (v:=upar_));exact⟨p,c,e⟩);rintro⟨ppar_,cpar_,rfl⟩)|(refine bA.dA 42 ?_;refine bA.he rfl rfl (HE.bJ (M0:=[]) nK.nil rfl rfl (fun w' hw'=>eD res (.slice q2 res.length d2) w' (hw'.get (p:=fun w=>dH ⟨par,res⟩ Dt w (.slice q1 par.length d1,.slice q2 res.length d2)) ak).2)) (fun _=>by dsimp only[Pq,Pp];exact bz) (fun _=>aU) ?_;intro ures_ _;dsimp only[Pq,Pp];refine db.pure (φ:=∃p c,ures_=.slice p res.length c) (fun w' hw'=>?_) ?_;(·obtain⟨p,c,e,_⟩:=aw (hw'.own (v:=ures_));exact⟨p,c,e⟩);rintro⟨pres_,cres_,rfl⟩)|(refine bA.iO rfl (gj.bn _ rfl rfl rfl rfl rfl rfl aH rfl) ?_;rintro⟨⟩ _)|refine db.any O9 ?_|exact cw.fin rfl|refine cw.skip O9 ?_|refine cw.go ?_ ?_)
    all_goals
     repeat'(first|refine ar ?_|(refine bC ?_ ?_<;>intro hc_))
     refine M9 ?_
     generalize (fun k=>(Pn ppar_ par.length cpar_).ownBlock=some k∨(Pn pres_ res.length cres_).ownBlock=some k)=D0
     refine Na ?_
     refine Nb ?_
     refine m7 ?_
     refine bF.JG (HE.bJ (M0:=[.aW cp [.pointer (some ⟨sp,0,none⟩),.slice p c.fs.length cc,rv,.bool c.live,.int .i64 c.broken] jd,.aW sp [tvb,pvb,.bool (dB s2)] jE,.own 0 fR 1 tvb s2.ts.length (aY s2.ts),.own 0 jD 2 pvb s2.ps.length (cg s2.ps),.own 0 sx 5 (.slice p c.fs.length cc) c.fs.length (eu c.fs fv),.kq iZ iZ.fr (fun k=>D k∨D0 k) ((⟨par,res⟩,.slice ppar_ par.length cpar_,.slice pres_ res.length cres_)::L)]) dU rfl rfl (fun w' hw'=>ng cp {c with ao:=s2} ⟨sp,tvb,pvb,.slice p c.fs.length cc,rv,fv,fun k=>D k∨D0 k,(⟨par,res⟩,.slice ppar_ par.length cpar_,.slice pres_ res.length cres_)::L⟩ ⟨3,par,res,false,c.live⟩ (.slice ppar_ par.length cpar_,.slice pres_ res.length cres_) w' (hw'.dc dV (fun p h=>by cases h)) (hg.mono rfl rfl rfl rfl (fun _ h=>PP _ h)) PT O6 O6 O6 O6)) rfl ?_
     intro y hy
     repeat'(first|refine ar ?_|(refine bC ?_ ?_<;>intro hc_))
     exact pi
   ·rw[if_pos he2]
    repeat'(first|refine ar ?_|(refine bC ?_ ?_<;>intro hc_))
    refine Nc ?_
    rintro⟨⟩ _
    dsimp only[Pq,Pp]
    repeat'(first|refine ar ?_|(refine bC ?_ ?_<;>intro hc_))
    exact pm
  ·rw[if_pos rfl]at ha
   have hwf1:=dE hwf.ao [1]
   have hp1:=ft c.ao [1]
   have ht1:=dD c.ao [1]
   rw[ha]at hwf1 hp1 ht1
   dsimp only at hwf1 hp1 ht1
   have hp1l:s1.ps.length=c.ao.ps.length:=by rw[hp1]
   repeat'(first|refine ar ?_|refine ui ?_|(refine bC ?_ ?_<;>intro hc_))
   all_goals first|omega|skip
   refine aa.box [.slice q1 par.length d1,.slice q2 res.length d2] rfl rfl rfl fun b5=>?_
   repeat'(first|refine ar ?_|refine ui ?_|(refine bC ?_ ?_<;>intro hc_))
   all_goals first|omega|skip
   refine MR ?_
   intro b6 _
   refine aa.freeze (q:=.aW b6 [.int .i64 1] fR) (fun w=>ai (fun k=>k=b6) w (.slice (some ⟨b6,0,none⟩) 1 1) [1]) jH (fun w' h _=>dJ h) ?_
   repeat'(first|refine ar ?_|(refine bC ?_ ?_<;>intro hc_))
   refine aa.he (HE.bJ (M0:=[.aW sp [tv,pv,.bool (dB c.ao)] jE,.own 0 fR 1 tv c.ao.ts.length (aY c.ao.ts),.own 0 jD 2 pv c.ao.ps.length (cg c.ao.ps)]) dU rfl rfl (fun w' hw'=>by have:=gy (fun k=>k=b6) sp c.ao (tv,pv) _ [1] w' (hw'.dc dV aU) hwf.ao.some hat.1 hat.2;rw[ha]at this;exact this)) rfl ?_
   rintro⟨tva,pva⟩ _
   dsimp only[aX,Pq,Pp]
   by_cases hea:ea=0
   ·subst hea
    rw[if_neg Ph]
    repeat'(first|refine ar ?_|(refine bC ?_ ?_<;>intro hc_))
    obtain⟨r,hr⟩:∃r,aL s1 par=r:=⟨_,rfl⟩
    obtain⟨s2,e2⟩:=r
    rw[hr]
    dsimp only
    have hs2w:=dE hwf1 par
    have hs2p:=ft s1 par
    have hs2t:=dD s1 par
    rw[hr]at hs2w hs2p hs2t
    dsimp only at hs2w hs2p hs2t
    have hs2l:s2.ps.length=(s1).ps.length:=by rw[hs2p]
    refine M7 ?_
    repeat'(first|refine pN ?_|(refine ax.dA 82 ?_;refine ax.he rfl rfl (HE.bJ (M0:=[.aW sp [tva,pva,.bool (dB s1)] jE,.own 0 fR 1 tva s1.ts.length (aY s1.ts),.own 0 jD 2 pva s1.ps.length (cg s1.ps)]) dU rfl rfl (fun w' hw'=>by have:=gy Dt sp s1 (tva,pva) (.slice q1 par.length d1) par w' ((hw'.lj (p:=fun w=>ai Dt w (.slice q1 par.length d1) par) (fun w2 h=>(h (fun w=>dH ⟨par,res⟩ Dt w (.slice q1 par.length d1,.slice q2 res.length d2)) ak).1)).dc dV aU) hwf1.some hwf1.at_.1 hwf1.at_.2;rw[hr]at this;exact this)) (fun _=>by dsimp only[aX,Pq,Pp];exact bz) (fun _=>aU) ?_;rintro⟨tvb,pvb⟩ _;dsimp only[aX,Pq,Pp])|refine aP.nil O9 ?_|refine aP.any O9 ?_|exact aB.fin rfl|refine aB.skip O9 ?_|refine aB.go ?_ ?_)
    by_cases he2:e2=0
    ·subst he2
     rw[if_neg Ph]
     repeat'(first|refine ar ?_|(refine bC ?_ ?_<;>intro hc_))
     refine M8 ?_
     repeat'(first|refine CZ ?_|(refine bA.dA 42 ?_;refine bA.he rfl rfl (HE.bJ (M0:=[]) nK.nil rfl rfl (fun w' hw'=>eD par (.slice q1 par.length d1) w' (hw'.get (p:=fun w=>dH ⟨par,res⟩ Dt w (.slice q1 par.length d1,.slice q2 res.length d2)) ak).1)) (fun _=>by dsimp only[Pq,Pp];exact bz) (fun _=>aU) ?_;intro upar_ _;dsimp only[Pq,Pp];refine db.pure (φ:=∃p c,upar_=.slice p par.length c) (fun w' hw'=>?_) ?_;(·obtain⟨p,c,e,_⟩:=aw (hw'.own (v:=upar_));exact⟨p,c,e⟩);rintro⟨ppar_,cpar_,rfl⟩)|(refine bA.dA 42 ?_;refine bA.he rfl rfl (HE.bJ (M0:=[]) nK.nil rfl rfl (fun w' hw'=>eD res (.slice q2 res.length d2) w' (hw'.get (p:=fun w=>dH ⟨par,res⟩ Dt w (.slice q1 par.length d1,.slice q2 res.length d2)) ak).2)) (fun _=>by dsimp only[Pq,Pp];exact bz) (fun _=>aU) ?_;intro ures_ _;dsimp only[Pq,Pp];refine db.pure (φ:=∃p c,ures_=.slice p res.length c) (fun w' hw'=>?_) ?_;(·obtain⟨p,c,e,_⟩:=aw (hw'.own (v:=ures_));exact⟨p,c,e⟩);rintro⟨pres_,cres_,rfl⟩)|(refine bA.iO rfl (gj.bn _ rfl rfl rfl rfl rfl rfl aH rfl) ?_;rintro⟨⟩ _)|refine db.any O9 ?_|exact cw.fin rfl|refine cw.skip O9 ?_|refine cw.go ?_ ?_)
     all_goals
      repeat'(first|refine ar ?_|(refine bC ?_ ?_<;>intro hc_))
      refine M9 ?_
      generalize (fun k=>(Pn ppar_ par.length cpar_).ownBlock=some k∨(Pn pres_ res.length cres_).ownBlock=some k)=D0
      refine Na ?_
      refine Nb ?_
      refine m7 ?_
      refine bF.JG (HE.bJ (M0:=[.aW cp [.pointer (some ⟨sp,0,none⟩),.slice p c.fs.length cc,rv,.bool c.live,.int .i64 c.broken] jd,.aW sp [tvb,pvb,.bool (dB s2)] jE,.own 0 fR 1 tvb s2.ts.length (aY s2.ts),.own 0 jD 2 pvb s2.ps.length (cg s2.ps),.own 0 sx 5 (.slice p c.fs.length cc) c.fs.length (eu c.fs fv),.kq iZ iZ.fr (fun k=>D k∨D0 k) ((⟨par,res⟩,.slice ppar_ par.length cpar_,.slice pres_ res.length cres_)::L)]) dU rfl rfl (fun w' hw'=>ng cp {c with ao:=s2} ⟨sp,tvb,pvb,.slice p c.fs.length cc,rv,fv,fun k=>D k∨D0 k,(⟨par,res⟩,.slice ppar_ par.length cpar_,.slice pres_ res.length cres_)::L⟩ ⟨4,par,res,false,c.live⟩ (.slice ppar_ par.length cpar_,.slice pres_ res.length cres_) w' (hw'.dc dV (fun p h=>by cases h)) (hg.mono rfl rfl rfl rfl (fun _ h=>PP _ h)) PT O6 O6 O6 O6)) rfl ?_
      intro y hy
      repeat'(first|refine ar ?_|(refine bC ?_ ?_<;>intro hc_))
      exact pi
    ·rw[if_pos he2]
     repeat'(first|refine ar ?_|(refine bC ?_ ?_<;>intro hc_))
     refine Nc ?_
     rintro⟨⟩ _
     dsimp only[Pq,Pp]
     repeat'(first|refine ar ?_|(refine bC ?_ ?_<;>intro hc_))
     exact pm
   ·rw[if_pos hea]
    repeat'(first|refine ar ?_|(refine bC ?_ ?_<;>intro hc_))
    refine aa.he (HE.bJ (M0:=[.aW cp [.pointer (some ⟨sp,0,none⟩),.slice p c.fs.length cc,rv,.bool c.live,.int .i64 c.broken] jd]) dU rfl rfl (fun w' hw'=>js cp _ _ _ _ _ ea w' (hw'.dc dV (fun p h=>by cases h)))) rfl ?_
    rintro⟨⟩ _
    dsimp only[Pq,Pp]
    repeat'(first|refine ar ?_|(refine bC ?_ ?_<;>intro hc_))
    exact ah.aG rfl rfl fun w' hw'=>aK.err ea rfl hea hS hw' ak
end
end Go.Proofs.YtdkcljdfbemnbaaGreatDoor
