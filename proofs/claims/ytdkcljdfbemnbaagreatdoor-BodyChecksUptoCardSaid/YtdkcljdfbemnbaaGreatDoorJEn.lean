/- The control frames (layer 22): Enter. Printed by gen_en.py. -/
import Derived.Test.YtdkcljdfbemnbaaGreatDoorJRx
namespace Go.Proofs.YtdkcljdfbemnbaaGreatDoor
open Go.RowKit _root_.Go.Proofs.Tryz
set_option maxHeartbeats 32000000
open List renaming cons_append→Pj,mem_cons_of_mem→PJ,mem_cons_self→PN,nil_append→Pi
open Value renaming slice→Pg
set_option maxRecDepth 100000
theorem tZ {g g':Prop} (h:g') (hw:eI g'→g:=by(intro hk_;(first|refine N1 ?_);exact hk_.out)):g:=hw ⟨h⟩
theorem A7 (Dt:Nat→Prop) (cp:Nat) (c:dv) (v:jI) (op:Int) (par res:List Int) (x:Value×Value) (w:World) (hw:Ok (aT cp c v) [fun w=>dH ⟨par,res⟩ Dt w x] w) (hg:v.Good c) (hb:c.broken=0) (hwf:c.Wf) (hop:op=2∨op=3∨op=4) (_hfl:c.fs.length≤1000) (_hts:(c.ao.ts.length+par.length)*8≤140737488355328):
  Calls G.P 50 #[.pointer (some ⟨cp,0,none⟩),.int .i64 op,.agg #[x.1,x.2]] w (aJ (aT cp c v) cp (jv c op par res) w):=by
 have:=hb;clear this
 obtain⟨sp,tv,pv,bv,rv,fv,D,L⟩:=v
 have hrd:=hw.Cv (List.Sublist.refl _)
 have hfx:dH ⟨par,res⟩ Dt w x:=hw.get (p:=fun w=>dH ⟨par,res⟩ Dt w x) Pd
 obtain⟨q1,d1,q2,d2,rfl⟩:=hfx.gx
 dsimp only at hw hfx ⊢
 obtain⟨p,cc,e,hcp,hmx,-⟩:=aw hrd.o
 dsimp only at e
 subst e
 have hat:=hwf.ao.at_
 have hps:=hwf.ao.some
 have hmany:=hwf.many
 have hl1:par.length≤17592186044416:=by obtain⟨_,_,_,h⟩:=hfx.1.slice;exact h
 have hl2:res.length≤17592186044416:=by obtain⟨_,_,_,h⟩:=hfx.2.slice;exact h
 by_cases h0:c.fs.length=0
 ·have e:jv c op par res=(c,16):=by unfold jv;rw[if_neg Pc,if_neg Pc,if_pos h0]
  rw[e]
  refine ae (l:=[_,_,_]) func50 rfl ntmps50 rfl (Ok.dk hw) ?_
  generalize hS:Mb (aT cp c ⟨sp,tv,pv,.slice p c.fs.length cc,rv,fv,D,L⟩)=S0
  dsimp only[aT,aX,Pj,Pi]
  repeat'(first|refine ar ?_|refine tZ ?_|(refine aE fun b_=>?_)|(refine bC ?_ ?_<;>intro hc_))
  all_goals exact wn
 ·obtain⟨a,ha⟩:∃a,(if op=4 then aK c.ao [1]else(c.ao,0))=a:=⟨_,rfl⟩
  obtain⟨s1,ea⟩:=a
  have e:jv c op par res=(if ea≠0 then({c with broken:=ea},ea)else
   let b:=aK s1 par
   if b.2≠0 then({c with ao:=s1,broken:=b.2},b.2)else(gW c b.1 c.fs ⟨op,par,res,false,c.live⟩,0)):=by unfold jv;rw[if_neg Pc,if_neg Pc,if_neg h0,ha]
  rw[e]
  refine ae (l:=[_,_,_]) func50 rfl ntmps50 rfl (Ok.dk hw) ?_
  generalize hS:Mb (aT cp c ⟨sp,tv,pv,.slice p c.fs.length cc,rv,fv,D,L⟩)=S0
  dsimp only[aT,aX,Pj,Pi]
  rcases hop with rfl|rfl|rfl
  ·rw[if_neg Pb]at ha
   cases ha
   have hwf1:=hwf.ao
   rw[if_neg Pb]
   repeat'(first|refine ar ?_|refine tZ ?_|(refine bC ?_ ?_<;>intro hc_))
   all_goals first|omega|skip
   refine aa.box [.slice q1 par.length d1,.slice q2 res.length d2] rfl rfl rfl fun b5=>?_
   repeat'(first|refine ar ?_|refine tZ ?_|(refine bC ?_ ?_<;>intro hc_))
   all_goals first|omega|skip
   obtain⟨r,hr⟩:∃r,aK c.ao par=r:=⟨_,rfl⟩
   obtain⟨s2,e2⟩:=r
   rw[hr]
   dsimp only
   have hs2w:=dE hwf1 par
   have hs2p:=fm c.ao par
   have hs2t:=dD c.ao par
   rw[hr]at hs2w hs2p hs2t
   dsimp only at hs2w hs2p hs2t
   have hs2l:s2.ps.length=(c.ao).ps.length:=by rw[hs2p]
   refine Nb ?_
   repeat'(first|refine pG ?_|(refine ax.dz 82 ?_;refine ax.he rfl rfl (HE.bJ (M0:=[.aV sp [tv,pv,.bool (dB c.ao)] jH,.own 0 fT 1 tv c.ao.ts.length (aZ c.ao.ts),.own 0 jG 2 pv c.ao.ps.length (cg c.ao.ps)]) dS rfl rfl (fun w' hw'=>by have:=gy Dt sp c.ao (tv,pv) (.slice q1 par.length d1) par w' ((hw'.lj (p:=fun w=>ai Dt w (.slice q1 par.length d1) par) (fun w2 h=>(h (fun w=>dH ⟨par,res⟩ Dt w (.slice q1 par.length d1,.slice q2 res.length d2)) ak).1)).dc dU aU) hwf1.some hwf1.at_.1 hwf1.at_.2;rw[hr]at this;exact this)) (fun _=>by dsimp only[aX,Pj,Pi];exact bw) (fun _=>aU) ?_;rintro⟨tvb,pvb⟩ _;dsimp only[aX,Pj,Pi])|refine aN.nil O3 ?_|refine aN.any O3 ?_|exact aB.fin rfl|refine aB.skip O3 ?_|refine aB.go ?_ ?_)
   by_cases he2:e2=0
   ·subst he2
    rw[if_neg Pb]
    repeat'(first|refine ar ?_|(refine bC ?_ ?_<;>intro hc_))
    refine Nc ?_
    repeat'(first|refine CV ?_|(refine bA.dz 42 ?_;refine bA.he rfl rfl (HE.bJ (M0:=[]) oJ.nil rfl rfl (fun w' hw'=>ew par (.slice q1 par.length d1) w' (hw'.get (p:=fun w=>dH ⟨par,res⟩ Dt w (.slice q1 par.length d1,.slice q2 res.length d2)) ak).1)) (fun _=>by dsimp only[Pj,Pi];exact bw) (fun _=>aU) ?_;intro upar_ _;dsimp only[Pj,Pi];refine db.pure (φ:=∃p c,upar_=.slice p par.length c) (fun w' hw'=>?_) ?_;(·obtain⟨p,c,e,_⟩:=aw (hw'.own (v:=upar_));exact⟨p,c,e⟩);rintro⟨ppar_,cpar_,rfl⟩)|(refine bA.dz 42 ?_;refine bA.he rfl rfl (HE.bJ (M0:=[]) oJ.nil rfl rfl (fun w' hw'=>ew res (.slice q2 res.length d2) w' (hw'.get (p:=fun w=>dH ⟨par,res⟩ Dt w (.slice q1 par.length d1,.slice q2 res.length d2)) ak).2)) (fun _=>by dsimp only[Pj,Pi];exact bw) (fun _=>aU) ?_;intro ures_ _;dsimp only[Pj,Pi];refine db.pure (φ:=∃p c,ures_=.slice p res.length c) (fun w' hw'=>?_) ?_;(·obtain⟨p,c,e,_⟩:=aw (hw'.own (v:=ures_));exact⟨p,c,e⟩);rintro⟨pres_,cres_,rfl⟩)|(refine bA.iM rfl (gj.bn _ rfl rfl rfl rfl rfl rfl aH rfl) ?_;rintro⟨⟩ _)|refine db.any O3 ?_|exact cw.fin rfl|refine cw.skip O3 ?_|refine cw.go ?_ ?_)
    all_goals
     repeat'(first|refine ar ?_|(refine bC ?_ ?_<;>intro hc_))
     refine Nd ?_
     generalize (fun k=>(Pg ppar_ par.length cpar_).ownBlock=some k∨(Pg pres_ res.length cres_).ownBlock=some k)=D0
     refine Nf ?_
     refine Ng ?_
     refine mX ?_
     refine bF.JA (HE.bJ (M0:=[.aV cp [.pointer (some ⟨sp,0,none⟩),.slice p c.fs.length cc,rv,.bool c.live,.int .i64 c.broken] jd,.aV sp [tvb,pvb,.bool (dB s2)] jH,.own 0 fT 1 tvb s2.ts.length (aZ s2.ts),.own 0 jG 2 pvb s2.ps.length (cg s2.ps),.own 0 su 5 (.slice p c.fs.length cc) c.fs.length (er c.fs fv),.kr iY iY.fr (fun k=>D k∨D0 k) ((⟨par,res⟩,.slice ppar_ par.length cpar_,.slice pres_ res.length cres_)::L)]) dS rfl rfl (fun w' hw'=>na cp {c with ao:=s2} ⟨sp,tvb,pvb,.slice p c.fs.length cc,rv,fv,fun k=>D k∨D0 k,(⟨par,res⟩,.slice ppar_ par.length cpar_,.slice pres_ res.length cres_)::L⟩ ⟨2,par,res,false,c.live⟩ (.slice ppar_ par.length cpar_,.slice pres_ res.length cres_) w' (hw'.dc dU (fun p h=>by cases h)) (hg.mono rfl rfl rfl rfl (fun _ h=>PJ _ h)) PN O0 O0 O0 O0)) rfl ?_
     intro y hy
     repeat'(first|refine ar ?_|(refine bC ?_ ?_<;>intro hc_))
     exact Eq
   ·rw[if_pos he2]
    repeat'(first|refine ar ?_|(refine bC ?_ ?_<;>intro hc_))
    refine Nh ?_
    rintro⟨⟩ _
    dsimp only[Pj,Pi]
    repeat'(first|refine ar ?_|(refine bC ?_ ?_<;>intro hc_))
    exact wt
  ·rw[if_neg Pb]at ha
   cases ha
   have hwf1:=hwf.ao
   rw[if_neg Pb]
   repeat'(first|refine ar ?_|refine tZ ?_|(refine bC ?_ ?_<;>intro hc_))
   all_goals first|omega|skip
   refine aa.box [.slice q1 par.length d1,.slice q2 res.length d2] rfl rfl rfl fun b5=>?_
   repeat'(first|refine ar ?_|refine tZ ?_|(refine bC ?_ ?_<;>intro hc_))
   all_goals first|omega|skip
   obtain⟨r,hr⟩:∃r,aK c.ao par=r:=⟨_,rfl⟩
   obtain⟨s2,e2⟩:=r
   rw[hr]
   dsimp only
   have hs2w:=dE hwf1 par
   have hs2p:=fm c.ao par
   have hs2t:=dD c.ao par
   rw[hr]at hs2w hs2p hs2t
   dsimp only at hs2w hs2p hs2t
   have hs2l:s2.ps.length=(c.ao).ps.length:=by rw[hs2p]
   refine Nb ?_
   repeat'(first|refine pG ?_|(refine ax.dz 82 ?_;refine ax.he rfl rfl (HE.bJ (M0:=[.aV sp [tv,pv,.bool (dB c.ao)] jH,.own 0 fT 1 tv c.ao.ts.length (aZ c.ao.ts),.own 0 jG 2 pv c.ao.ps.length (cg c.ao.ps)]) dS rfl rfl (fun w' hw'=>by have:=gy Dt sp c.ao (tv,pv) (.slice q1 par.length d1) par w' ((hw'.lj (p:=fun w=>ai Dt w (.slice q1 par.length d1) par) (fun w2 h=>(h (fun w=>dH ⟨par,res⟩ Dt w (.slice q1 par.length d1,.slice q2 res.length d2)) ak).1)).dc dU aU) hwf1.some hwf1.at_.1 hwf1.at_.2;rw[hr]at this;exact this)) (fun _=>by dsimp only[aX,Pj,Pi];exact bw) (fun _=>aU) ?_;rintro⟨tvb,pvb⟩ _;dsimp only[aX,Pj,Pi])|refine aN.nil O3 ?_|refine aN.any O3 ?_|exact aB.fin rfl|refine aB.skip O3 ?_|refine aB.go ?_ ?_)
   by_cases he2:e2=0
   ·subst he2
    rw[if_neg Pb]
    repeat'(first|refine ar ?_|(refine bC ?_ ?_<;>intro hc_))
    refine Nc ?_
    repeat'(first|refine CV ?_|(refine bA.dz 42 ?_;refine bA.he rfl rfl (HE.bJ (M0:=[]) oJ.nil rfl rfl (fun w' hw'=>ew par (.slice q1 par.length d1) w' (hw'.get (p:=fun w=>dH ⟨par,res⟩ Dt w (.slice q1 par.length d1,.slice q2 res.length d2)) ak).1)) (fun _=>by dsimp only[Pj,Pi];exact bw) (fun _=>aU) ?_;intro upar_ _;dsimp only[Pj,Pi];refine db.pure (φ:=∃p c,upar_=.slice p par.length c) (fun w' hw'=>?_) ?_;(·obtain⟨p,c,e,_⟩:=aw (hw'.own (v:=upar_));exact⟨p,c,e⟩);rintro⟨ppar_,cpar_,rfl⟩)|(refine bA.dz 42 ?_;refine bA.he rfl rfl (HE.bJ (M0:=[]) oJ.nil rfl rfl (fun w' hw'=>ew res (.slice q2 res.length d2) w' (hw'.get (p:=fun w=>dH ⟨par,res⟩ Dt w (.slice q1 par.length d1,.slice q2 res.length d2)) ak).2)) (fun _=>by dsimp only[Pj,Pi];exact bw) (fun _=>aU) ?_;intro ures_ _;dsimp only[Pj,Pi];refine db.pure (φ:=∃p c,ures_=.slice p res.length c) (fun w' hw'=>?_) ?_;(·obtain⟨p,c,e,_⟩:=aw (hw'.own (v:=ures_));exact⟨p,c,e⟩);rintro⟨pres_,cres_,rfl⟩)|(refine bA.iM rfl (gj.bn _ rfl rfl rfl rfl rfl rfl aH rfl) ?_;rintro⟨⟩ _)|refine db.any O3 ?_|exact cw.fin rfl|refine cw.skip O3 ?_|refine cw.go ?_ ?_)
    all_goals
     repeat'(first|refine ar ?_|(refine bC ?_ ?_<;>intro hc_))
     refine Nd ?_
     generalize (fun k=>(Pg ppar_ par.length cpar_).ownBlock=some k∨(Pg pres_ res.length cres_).ownBlock=some k)=D0
     refine Nf ?_
     refine Ng ?_
     refine mX ?_
     refine bF.JA (HE.bJ (M0:=[.aV cp [.pointer (some ⟨sp,0,none⟩),.slice p c.fs.length cc,rv,.bool c.live,.int .i64 c.broken] jd,.aV sp [tvb,pvb,.bool (dB s2)] jH,.own 0 fT 1 tvb s2.ts.length (aZ s2.ts),.own 0 jG 2 pvb s2.ps.length (cg s2.ps),.own 0 su 5 (.slice p c.fs.length cc) c.fs.length (er c.fs fv),.kr iY iY.fr (fun k=>D k∨D0 k) ((⟨par,res⟩,.slice ppar_ par.length cpar_,.slice pres_ res.length cres_)::L)]) dS rfl rfl (fun w' hw'=>na cp {c with ao:=s2} ⟨sp,tvb,pvb,.slice p c.fs.length cc,rv,fv,fun k=>D k∨D0 k,(⟨par,res⟩,.slice ppar_ par.length cpar_,.slice pres_ res.length cres_)::L⟩ ⟨3,par,res,false,c.live⟩ (.slice ppar_ par.length cpar_,.slice pres_ res.length cres_) w' (hw'.dc dU (fun p h=>by cases h)) (hg.mono rfl rfl rfl rfl (fun _ h=>PJ _ h)) PN O0 O0 O0 O0)) rfl ?_
     intro y hy
     repeat'(first|refine ar ?_|(refine bC ?_ ?_<;>intro hc_))
     exact Eq
   ·rw[if_pos he2]
    repeat'(first|refine ar ?_|(refine bC ?_ ?_<;>intro hc_))
    refine Nh ?_
    rintro⟨⟩ _
    dsimp only[Pj,Pi]
    repeat'(first|refine ar ?_|(refine bC ?_ ?_<;>intro hc_))
    exact wt
  ·rw[if_pos rfl]at ha
   have hwf1:=dE hwf.ao [1]
   have hp1:=fm c.ao [1]
   have ht1:=dD c.ao [1]
   rw[ha]at hwf1 hp1 ht1
   dsimp only at hwf1 hp1 ht1
   have hp1l:s1.ps.length=c.ao.ps.length:=by rw[hp1]
   repeat'(first|refine ar ?_|refine tZ ?_|(refine bC ?_ ?_<;>intro hc_))
   all_goals first|omega|skip
   refine aa.box [.slice q1 par.length d1,.slice q2 res.length d2] rfl rfl rfl fun b5=>?_
   repeat'(first|refine ar ?_|refine tZ ?_|(refine bC ?_ ?_<;>intro hc_))
   all_goals first|omega|skip
   refine MJ ?_
   intro b6 _
   refine aa.freeze (q:=.aV b6 [.int .i64 1] fT) (fun w=>ai (fun k=>k=b6) w (.slice (some ⟨b6,0,none⟩) 1 1) [1]) jK (fun w' h _=>dJ h) ?_
   repeat'(first|refine ar ?_|(refine bC ?_ ?_<;>intro hc_))
   refine aa.he (HE.bJ (M0:=[.aV sp [tv,pv,.bool (dB c.ao)] jH,.own 0 fT 1 tv c.ao.ts.length (aZ c.ao.ts),.own 0 jG 2 pv c.ao.ps.length (cg c.ao.ps)]) dS rfl rfl (fun w' hw'=>by have:=gy (fun k=>k=b6) sp c.ao (tv,pv) _ [1] w' (hw'.dc dU aU) hwf.ao.some hat.1 hat.2;rw[ha]at this;exact this)) rfl ?_
   rintro⟨tva,pva⟩ _
   dsimp only[aX,Pj,Pi]
   by_cases hea:ea=0
   ·subst hea
    rw[if_neg Pb]
    repeat'(first|refine ar ?_|(refine bC ?_ ?_<;>intro hc_))
    obtain⟨r,hr⟩:∃r,aK s1 par=r:=⟨_,rfl⟩
    obtain⟨s2,e2⟩:=r
    rw[hr]
    dsimp only
    have hs2w:=dE hwf1 par
    have hs2p:=fm s1 par
    have hs2t:=dD s1 par
    rw[hr]at hs2w hs2p hs2t
    dsimp only at hs2w hs2p hs2t
    have hs2l:s2.ps.length=(s1).ps.length:=by rw[hs2p]
    refine Nb ?_
    repeat'(first|refine pG ?_|(refine ax.dz 82 ?_;refine ax.he rfl rfl (HE.bJ (M0:=[.aV sp [tva,pva,.bool (dB s1)] jH,.own 0 fT 1 tva s1.ts.length (aZ s1.ts),.own 0 jG 2 pva s1.ps.length (cg s1.ps)]) dS rfl rfl (fun w' hw'=>by have:=gy Dt sp s1 (tva,pva) (.slice q1 par.length d1) par w' ((hw'.lj (p:=fun w=>ai Dt w (.slice q1 par.length d1) par) (fun w2 h=>(h (fun w=>dH ⟨par,res⟩ Dt w (.slice q1 par.length d1,.slice q2 res.length d2)) ak).1)).dc dU aU) hwf1.some hwf1.at_.1 hwf1.at_.2;rw[hr]at this;exact this)) (fun _=>by dsimp only[aX,Pj,Pi];exact bw) (fun _=>aU) ?_;rintro⟨tvb,pvb⟩ _;dsimp only[aX,Pj,Pi])|refine aN.nil O3 ?_|refine aN.any O3 ?_|exact aB.fin rfl|refine aB.skip O3 ?_|refine aB.go ?_ ?_)
    by_cases he2:e2=0
    ·subst he2
     rw[if_neg Pb]
     repeat'(first|refine ar ?_|(refine bC ?_ ?_<;>intro hc_))
     refine Nc ?_
     repeat'(first|refine CV ?_|(refine bA.dz 42 ?_;refine bA.he rfl rfl (HE.bJ (M0:=[]) oJ.nil rfl rfl (fun w' hw'=>ew par (.slice q1 par.length d1) w' (hw'.get (p:=fun w=>dH ⟨par,res⟩ Dt w (.slice q1 par.length d1,.slice q2 res.length d2)) ak).1)) (fun _=>by dsimp only[Pj,Pi];exact bw) (fun _=>aU) ?_;intro upar_ _;dsimp only[Pj,Pi];refine db.pure (φ:=∃p c,upar_=.slice p par.length c) (fun w' hw'=>?_) ?_;(·obtain⟨p,c,e,_⟩:=aw (hw'.own (v:=upar_));exact⟨p,c,e⟩);rintro⟨ppar_,cpar_,rfl⟩)|(refine bA.dz 42 ?_;refine bA.he rfl rfl (HE.bJ (M0:=[]) oJ.nil rfl rfl (fun w' hw'=>ew res (.slice q2 res.length d2) w' (hw'.get (p:=fun w=>dH ⟨par,res⟩ Dt w (.slice q1 par.length d1,.slice q2 res.length d2)) ak).2)) (fun _=>by dsimp only[Pj,Pi];exact bw) (fun _=>aU) ?_;intro ures_ _;dsimp only[Pj,Pi];refine db.pure (φ:=∃p c,ures_=.slice p res.length c) (fun w' hw'=>?_) ?_;(·obtain⟨p,c,e,_⟩:=aw (hw'.own (v:=ures_));exact⟨p,c,e⟩);rintro⟨pres_,cres_,rfl⟩)|(refine bA.iM rfl (gj.bn _ rfl rfl rfl rfl rfl rfl aH rfl) ?_;rintro⟨⟩ _)|refine db.any O3 ?_|exact cw.fin rfl|refine cw.skip O3 ?_|refine cw.go ?_ ?_)
     all_goals
      repeat'(first|refine ar ?_|(refine bC ?_ ?_<;>intro hc_))
      refine Nd ?_
      generalize (fun k=>(Pg ppar_ par.length cpar_).ownBlock=some k∨(Pg pres_ res.length cres_).ownBlock=some k)=D0
      refine Nf ?_
      refine Ng ?_
      refine mX ?_
      refine bF.JA (HE.bJ (M0:=[.aV cp [.pointer (some ⟨sp,0,none⟩),.slice p c.fs.length cc,rv,.bool c.live,.int .i64 c.broken] jd,.aV sp [tvb,pvb,.bool (dB s2)] jH,.own 0 fT 1 tvb s2.ts.length (aZ s2.ts),.own 0 jG 2 pvb s2.ps.length (cg s2.ps),.own 0 su 5 (.slice p c.fs.length cc) c.fs.length (er c.fs fv),.kr iY iY.fr (fun k=>D k∨D0 k) ((⟨par,res⟩,.slice ppar_ par.length cpar_,.slice pres_ res.length cres_)::L)]) dS rfl rfl (fun w' hw'=>na cp {c with ao:=s2} ⟨sp,tvb,pvb,.slice p c.fs.length cc,rv,fv,fun k=>D k∨D0 k,(⟨par,res⟩,.slice ppar_ par.length cpar_,.slice pres_ res.length cres_)::L⟩ ⟨4,par,res,false,c.live⟩ (.slice ppar_ par.length cpar_,.slice pres_ res.length cres_) w' (hw'.dc dU (fun p h=>by cases h)) (hg.mono rfl rfl rfl rfl (fun _ h=>PJ _ h)) PN O0 O0 O0 O0)) rfl ?_
      intro y hy
      repeat'(first|refine ar ?_|(refine bC ?_ ?_<;>intro hc_))
      exact Eq
    ·rw[if_pos he2]
     repeat'(first|refine ar ?_|(refine bC ?_ ?_<;>intro hc_))
     refine Nh ?_
     rintro⟨⟩ _
     dsimp only[Pj,Pi]
     repeat'(first|refine ar ?_|(refine bC ?_ ?_<;>intro hc_))
     exact wt
   ·rw[if_pos hea]
    repeat'(first|refine ar ?_|(refine bC ?_ ?_<;>intro hc_))
    refine aa.he (HE.bJ (M0:=[.aV cp [.pointer (some ⟨sp,0,none⟩),.slice p c.fs.length cc,rv,.bool c.live,.int .i64 c.broken] jd]) dS rfl rfl (fun w' hw'=>jt cp _ _ _ _ _ ea w' (hw'.dc dU (fun p h=>by cases h)))) rfl ?_
    rintro⟨⟩ _
    dsimp only[Pj,Pi]
    repeat'(first|refine ar ?_|(refine bC ?_ ?_<;>intro hc_))
    exact ah.aF rfl rfl fun w' hw'=>aJ.err ea rfl hea hS hw' ak
end Go.Proofs.YtdkcljdfbemnbaaGreatDoor
