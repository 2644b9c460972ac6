/- The control frames (layer 22): Enter. Printed by gen_en.py. -/
import Derived.Test.YtgbgnipidakdhaaGreatDoorJRw
namespace Go.Proofs.YtgbgnipidakdhaaGreatDoor
open Go.RowKit
set_option maxRecDepth 100000
theorem BP {g g':Prop} (h:g') (hw:dS g'→g:=by(intro hk_;(first|refine KX ?_);exact hk_.out)):g:=hw ⟨h⟩
set_option maxHeartbeats 32000000 in
theorem sd (Dt:Nat→Prop) (cp:Nat) (c:di) (v:iY) (op:Int) (par res:List Int) (x:Value×Value) (w:World) (hw:Ok (aQ cp c v) [fun w=>dr ⟨par,res⟩ Dt w x] w) (hg:v.Good c) (hb:c.broken=0) (hwf:c.Wf) (hop:op=2∨op=3∨op=4) (hfl:c.fs.length≤1000) (hts:(c.ao.ts.length+par.length)*8≤140737488355328):
  Calls G.P 19 #[.pointer (some ⟨cp,0,none⟩),.int .i64 op,.agg #[x.1,x.2]] w (aD (aQ cp c v) cp (fL c op par res) w):=by
 obtain⟨sp,tv,pv,bv,rv,fv,D,L⟩:=v
 have hrd:=hw.zS (List.Sublist.refl _)
 have hfx:dr ⟨par,res⟩ Dt w x:=hw.get (p:=fun w=>dr ⟨par,res⟩ Dt w x) Mk
 obtain⟨q1,d1,q2,d2,rfl⟩:=hfx.fP
 dsimp only at hw hfx ⊢
 obtain⟨p,cc,e,hcp,hmx,-⟩:=ax hrd.o
 dsimp only at e
 subst e
 have hat:=hwf.ao.at_
 have hps:=hwf.ao.some
 have hmany:=hwf.many
 have hl1:par.length≤17592186044416:=by obtain⟨_,_,_,h⟩:=hfx.1.slice;exact h
 have hl2:res.length≤17592186044416:=by obtain⟨_,_,_,h⟩:=hfx.2.slice;exact h
 by_cases h0:c.fs.length=0
 ·have e:fL c op par res=(c,16):=by unfold fL;rw[if_neg Mj,if_neg Mj,if_pos h0]
  rw[e]
  refine ae (l:=[_,_,_]) Tryz.func19 rfl Tryz.ntmps19 rfl (Ok.dj hw) ?_
  generalize hS:Mb (aQ cp c ⟨sp,tv,pv,.slice p c.fs.length cc,rv,fv,D,L⟩)=S0
  dsimp only[aQ,aS,List.cons_append,List.nil_append]
  repeat'(first|refine ar ?_|refine BP ?_|(refine aC fun b_=>?_)|(refine a7 ?_ ?_<;>intro hc_))
  all_goals exact i6
 ·obtain⟨a,ha⟩:∃a,(if op=4 then aE c.ao [1]else(c.ao,0))=a:=⟨_,rfl⟩
  obtain⟨s1,ea⟩:=a
  have e:fL c op par res=(if ea≠0 then({c with broken:=ea},ea)else
   let b:=aE s1 par
   if b.2≠0 then({c with ao:=s1,broken:=b.2},b.2)else(gw c b.1 c.fs ⟨op,par,res,false,c.live⟩,0)):=by unfold fL;rw[if_neg Mj,if_neg Mj,if_neg h0,ha]
  rw[e]
  refine ae (l:=[_,_,_]) Tryz.func19 rfl Tryz.ntmps19 rfl (Ok.dj hw) ?_
  generalize hS:Mb (aQ cp c ⟨sp,tv,pv,.slice p c.fs.length cc,rv,fv,D,L⟩)=S0
  dsimp only[aQ,aS,List.cons_append,List.nil_append]
  rcases hop with rfl|rfl|rfl
  ·rw[if_neg Mh]at ha
   cases ha
   have hwf1:=hwf.ao
   rw[if_neg Mh]
   repeat'(first|refine ar ?_|refine BP ?_|(refine a7 ?_ ?_<;>intro hc_))
   all_goals first|omega|skip
   refine aa.box [.slice q1 par.length d1,.slice q2 res.length d2] rfl rfl rfl fun b5=>?_
   repeat'(first|refine ar ?_|refine BP ?_|(refine a7 ?_ ?_<;>intro hc_))
   all_goals first|omega|skip
   obtain⟨r,hr⟩:∃r,aE c.ao par=r:=⟨_,rfl⟩
   obtain⟨s2,e2⟩:=r
   rw[hr]
   dsimp only
   have hs2w:=dn hwf1 par
   have hs2p:=eM c.ao par
   have hs2t:=dp c.ao par
   rw[hr]at hs2w hs2p hs2t
   dsimp only at hs2w hs2p hs2t
   have hs2l:s2.ps.length=(c.ao).ps.length:=by rw[hs2p]
   refine Kv ?_
   repeat'(first|refine og ?_|(refine av.ep 55 ?_;refine av.he rfl rfl (HE.bC (M0:=[.aT sp [tv,pv,.bool (eN c.ao)] iN,.own 0 fY 1 tv c.ao.ts.length (aX c.ao.ts),.own 0 iO 2 pv c.ao.ps.length (bO c.ao.ps)]) dt rfl rfl (fun w' hw'=>by have:=fK Dt sp c.ao (tv,pv) (.slice q1 par.length d1) par w' ((hw'.lL (p:=fun w=>af Dt w (.slice q1 par.length d1) par) (fun w2 h=>(h (fun w=>dr ⟨par,res⟩ Dt w (.slice q1 par.length d1,.slice q2 res.length d2)) ak).1)).cF dM aV) hwf1.some hwf1.at_.1 hwf1.at_.2;rw[hr]at this;exact this)) (fun _=>by dsimp only[aS,List.cons_append,List.nil_append];exact bc) (fun _=>aV) ?_;rintro⟨tvb,pvb⟩ _;dsimp only[aS,List.cons_append,List.nil_append])|refine aP.nil LX ?_|refine aP.any LX ?_|exact aN.fin rfl|refine aN.skip LX ?_|refine aN.go ?_ ?_)
   by_cases he2:e2=0
   ·subst he2
    rw[if_neg Mh]
    repeat'(first|refine ar ?_|(refine a7 ?_ ?_<;>intro hc_))
    refine Kw ?_
    repeat'(first|refine Bl ?_|(refine bu.ep 50 ?_;refine bu.he rfl rfl (HE.bC (M0:=[]) ox.nil rfl rfl (fun w' hw'=>dO par (.slice q1 par.length d1) w' (hw'.get (p:=fun w=>dr ⟨par,res⟩ Dt w (.slice q1 par.length d1,.slice q2 res.length d2)) ak).1)) (fun _=>by dsimp only[List.cons_append,List.nil_append];exact bc) (fun _=>aV) ?_;intro upar_ _;dsimp only[List.cons_append,List.nil_append];refine cK.pure (φ:=∃p c,upar_=.slice p par.length c) (fun w' hw'=>?_) ?_;(·obtain⟨p,c,e,_⟩:=ax (hw'.own (v:=upar_));exact⟨p,c,e⟩);rintro⟨ppar_,cpar_,rfl⟩)|(refine bu.ep 50 ?_;refine bu.he rfl rfl (HE.bC (M0:=[]) ox.nil rfl rfl (fun w' hw'=>dO res (.slice q2 res.length d2) w' (hw'.get (p:=fun w=>dr ⟨par,res⟩ Dt w (.slice q1 par.length d1,.slice q2 res.length d2)) ak).2)) (fun _=>by dsimp only[List.cons_append,List.nil_append];exact bc) (fun _=>aV) ?_;intro ures_ _;dsimp only[List.cons_append,List.nil_append];refine cK.pure (φ:=∃p c,ures_=.slice p res.length c) (fun w' hw'=>?_) ?_;(·obtain⟨p,c,e,_⟩:=ax (hw'.own (v:=ures_));exact⟨p,c,e⟩);rintro⟨pres_,cres_,rfl⟩)|(refine bu.iq rfl (fQ.bn _ rfl rfl rfl rfl rfl rfl aA rfl) ?_;rintro⟨⟩ _)|refine cK.any LX ?_|exact bZ.fin rfl|refine bZ.skip LX ?_|refine bZ.go ?_ ?_)
    all_goals
     repeat'(first|refine ar ?_|(refine a7 ?_ ?_<;>intro hc_))
     refine Kx ?_
     generalize (fun k=>(Value.slice ppar_ par.length cpar_).ownBlock=some k∨(Value.slice pres_ res.length cres_).ownBlock=some k)=D0
     refine Ky ?_
     refine Kz ?_
     refine pO ?_
     refine bq.GQ (HE.bC (M0:=[.aT cp [.pointer (some ⟨sp,0,none⟩),.slice p c.fs.length cc,rv,.bool c.live,.int .i64 c.broken] iz,.aT sp [tvb,pvb,.bool (eN s2)] iN,.own 0 fY 1 tvb s2.ts.length (aX s2.ts),.own 0 iO 2 pvb s2.ps.length (bO s2.ps),.own 0 ym 5 (.slice p c.fs.length cc) c.fs.length (dL c.fs fv),.j8 iu iu.fr (fun k=>D k∨D0 k) ((⟨par,res⟩,.slice ppar_ par.length cpar_,.slice pres_ res.length cres_)::L)]) dt rfl rfl (fun w' hw'=>mi cp {c with ao:=s2} ⟨sp,tvb,pvb,.slice p c.fs.length cc,rv,fv,fun k=>D k∨D0 k,(⟨par,res⟩,.slice ppar_ par.length cpar_,.slice pres_ res.length cres_)::L⟩ ⟨2,par,res,false,c.live⟩ (.slice ppar_ par.length cpar_,.slice pres_ res.length cres_) w' (hw'.cF dM (fun p h=>by cases h)) (hg.mono rfl rfl rfl rfl (fun _ h=>List.mem_cons_of_mem _ h)) List.mem_cons_self LT LT LT LT)) rfl ?_
     intro y hy
     repeat'(first|refine ar ?_|(refine a7 ?_ ?_<;>intro hc_))
     exact pp
   ·rw[if_pos he2]
    repeat'(first|refine ar ?_|(refine a7 ?_ ?_<;>intro hc_))
    refine KA ?_
    rintro⟨⟩ _
    dsimp only[List.cons_append,List.nil_append]
    repeat'(first|refine ar ?_|(refine a7 ?_ ?_<;>intro hc_))
    exact i8
  ·rw[if_neg Mh]at ha
   cases ha
   have hwf1:=hwf.ao
   rw[if_neg Mh]
   repeat'(first|refine ar ?_|refine BP ?_|(refine a7 ?_ ?_<;>intro hc_))
   all_goals first|omega|skip
   refine aa.box [.slice q1 par.length d1,.slice q2 res.length d2] rfl rfl rfl fun b5=>?_
   repeat'(first|refine ar ?_|refine BP ?_|(refine a7 ?_ ?_<;>intro hc_))
   all_goals first|omega|skip
   obtain⟨r,hr⟩:∃r,aE c.ao par=r:=⟨_,rfl⟩
   obtain⟨s2,e2⟩:=r
   rw[hr]
   dsimp only
   have hs2w:=dn hwf1 par
   have hs2p:=eM c.ao par
   have hs2t:=dp c.ao par
   rw[hr]at hs2w hs2p hs2t
   dsimp only at hs2w hs2p hs2t
   have hs2l:s2.ps.length=(c.ao).ps.length:=by rw[hs2p]
   refine Kv ?_
   repeat'(first|refine og ?_|(refine av.ep 55 ?_;refine av.he rfl rfl (HE.bC (M0:=[.aT sp [tv,pv,.bool (eN c.ao)] iN,.own 0 fY 1 tv c.ao.ts.length (aX c.ao.ts),.own 0 iO 2 pv c.ao.ps.length (bO c.ao.ps)]) dt rfl rfl (fun w' hw'=>by have:=fK Dt sp c.ao (tv,pv) (.slice q1 par.length d1) par w' ((hw'.lL (p:=fun w=>af Dt w (.slice q1 par.length d1) par) (fun w2 h=>(h (fun w=>dr ⟨par,res⟩ Dt w (.slice q1 par.length d1,.slice q2 res.length d2)) ak).1)).cF dM aV) hwf1.some hwf1.at_.1 hwf1.at_.2;rw[hr]at this;exact this)) (fun _=>by dsimp only[aS,List.cons_append,List.nil_append];exact bc) (fun _=>aV) ?_;rintro⟨tvb,pvb⟩ _;dsimp only[aS,List.cons_append,List.nil_append])|refine aP.nil LX ?_|refine aP.any LX ?_|exact aN.fin rfl|refine aN.skip LX ?_|refine aN.go ?_ ?_)
   by_cases he2:e2=0
   ·subst he2
    rw[if_neg Mh]
    repeat'(first|refine ar ?_|(refine a7 ?_ ?_<;>intro hc_))
    refine Kw ?_
    repeat'(first|refine Bl ?_|(refine bu.ep 50 ?_;refine bu.he rfl rfl (HE.bC (M0:=[]) ox.nil rfl rfl (fun w' hw'=>dO par (.slice q1 par.length d1) w' (hw'.get (p:=fun w=>dr ⟨par,res⟩ Dt w (.slice q1 par.length d1,.slice q2 res.length d2)) ak).1)) (fun _=>by dsimp only[List.cons_append,List.nil_append];exact bc) (fun _=>aV) ?_;intro upar_ _;dsimp only[List.cons_append,List.nil_append];refine cK.pure (φ:=∃p c,upar_=.slice p par.length c) (fun w' hw'=>?_) ?_;(·obtain⟨p,c,e,_⟩:=ax (hw'.own (v:=upar_));exact⟨p,c,e⟩);rintro⟨ppar_,cpar_,rfl⟩)|(refine bu.ep 50 ?_;refine bu.he rfl rfl (HE.bC (M0:=[]) ox.nil rfl rfl (fun w' hw'=>dO res (.slice q2 res.length d2) w' (hw'.get (p:=fun w=>dr ⟨par,res⟩ Dt w (.slice q1 par.length d1,.slice q2 res.length d2)) ak).2)) (fun _=>by dsimp only[List.cons_append,List.nil_append];exact bc) (fun _=>aV) ?_;intro ures_ _;dsimp only[List.cons_append,List.nil_append];refine cK.pure (φ:=∃p c,ures_=.slice p res.length c) (fun w' hw'=>?_) ?_;(·obtain⟨p,c,e,_⟩:=ax (hw'.own (v:=ures_));exact⟨p,c,e⟩);rintro⟨pres_,cres_,rfl⟩)|(refine bu.iq rfl (fQ.bn _ rfl rfl rfl rfl rfl rfl aA rfl) ?_;rintro⟨⟩ _)|refine cK.any LX ?_|exact bZ.fin rfl|refine bZ.skip LX ?_|refine bZ.go ?_ ?_)
    all_goals
     repeat'(first|refine ar ?_|(refine a7 ?_ ?_<;>intro hc_))
     refine Kx ?_
     generalize (fun k=>(Value.slice ppar_ par.length cpar_).ownBlock=some k∨(Value.slice pres_ res.length cres_).ownBlock=some k)=D0
     refine Ky ?_
     refine Kz ?_
     refine pO ?_
     refine bq.GQ (HE.bC (M0:=[.aT cp [.pointer (some ⟨sp,0,none⟩),.slice p c.fs.length cc,rv,.bool c.live,.int .i64 c.broken] iz,.aT sp [tvb,pvb,.bool (eN s2)] iN,.own 0 fY 1 tvb s2.ts.length (aX s2.ts),.own 0 iO 2 pvb s2.ps.length (bO s2.ps),.own 0 ym 5 (.slice p c.fs.length cc) c.fs.length (dL c.fs fv),.j8 iu iu.fr (fun k=>D k∨D0 k) ((⟨par,res⟩,.slice ppar_ par.length cpar_,.slice pres_ res.length cres_)::L)]) dt rfl rfl (fun w' hw'=>mi cp {c with ao:=s2} ⟨sp,tvb,pvb,.slice p c.fs.length cc,rv,fv,fun k=>D k∨D0 k,(⟨par,res⟩,.slice ppar_ par.length cpar_,.slice pres_ res.length cres_)::L⟩ ⟨3,par,res,false,c.live⟩ (.slice ppar_ par.length cpar_,.slice pres_ res.length cres_) w' (hw'.cF dM (fun p h=>by cases h)) (hg.mono rfl rfl rfl rfl (fun _ h=>List.mem_cons_of_mem _ h)) List.mem_cons_self LT LT LT LT)) rfl ?_
     intro y hy
     repeat'(first|refine ar ?_|(refine a7 ?_ ?_<;>intro hc_))
     exact pp
   ·rw[if_pos he2]
    repeat'(first|refine ar ?_|(refine a7 ?_ ?_<;>intro hc_))
    refine KA ?_
    rintro⟨⟩ _
    dsimp only[List.cons_append,List.nil_append]
    repeat'(first|refine ar ?_|(refine a7 ?_ ?_<;>intro hc_))
    exact i8
  ·rw[if_pos rfl]at ha
   have hwf1:=dn hwf.ao [1]
   have hp1:=eM c.ao [1]
   have ht1:=dp c.ao [1]
   rw[ha]at hwf1 hp1 ht1
   dsimp only at hwf1 hp1 ht1
   have hp1l:s1.ps.length=c.ao.ps.length:=by rw[hp1]
   repeat'(first|refine ar ?_|refine BP ?_|(refine a7 ?_ ?_<;>intro hc_))
   all_goals first|omega|skip
   refine aa.box [.slice q1 par.length d1,.slice q2 res.length d2] rfl rfl rfl fun b5=>?_
   repeat'(first|refine ar ?_|refine BP ?_|(refine a7 ?_ ?_<;>intro hc_))
   all_goals first|omega|skip
   refine JM ?_
   intro b6 _
   refine aa.freeze (q:=.aT b6 [.int .i64 1] fY) (fun w=>af (fun k=>k=b6) w (.slice (some ⟨b6,0,none⟩) 1 1) [1]) je (fun w' h _=>cZ h) ?_
   repeat'(first|refine ar ?_|(refine a7 ?_ ?_<;>intro hc_))
   refine aa.he (HE.bC (M0:=[.aT sp [tv,pv,.bool (eN c.ao)] iN,.own 0 fY 1 tv c.ao.ts.length (aX c.ao.ts),.own 0 iO 2 pv c.ao.ps.length (bO c.ao.ps)]) dt rfl rfl (fun w' hw'=>by have:=fK (fun k=>k=b6) sp c.ao (tv,pv) _ [1] w' (hw'.cF dM aV) hwf.ao.some hat.1 hat.2;rw[ha]at this;exact this)) rfl ?_
   rintro⟨tva,pva⟩ _
   dsimp only[aS,List.cons_append,List.nil_append]
   by_cases hea:ea=0
   ·subst hea
    rw[if_neg Mh]
    repeat'(first|refine ar ?_|(refine a7 ?_ ?_<;>intro hc_))
    obtain⟨r,hr⟩:∃r,aE s1 par=r:=⟨_,rfl⟩
    obtain⟨s2,e2⟩:=r
    rw[hr]
    dsimp only
    have hs2w:=dn hwf1 par
    have hs2p:=eM s1 par
    have hs2t:=dp s1 par
    rw[hr]at hs2w hs2p hs2t
    dsimp only at hs2w hs2p hs2t
    have hs2l:s2.ps.length=(s1).ps.length:=by rw[hs2p]
    refine Kv ?_
    repeat'(first|refine og ?_|(refine av.ep 55 ?_;refine av.he rfl rfl (HE.bC (M0:=[.aT sp [tva,pva,.bool (eN s1)] iN,.own 0 fY 1 tva s1.ts.length (aX s1.ts),.own 0 iO 2 pva s1.ps.length (bO s1.ps)]) dt rfl rfl (fun w' hw'=>by have:=fK Dt sp s1 (tva,pva) (.slice q1 par.length d1) par w' ((hw'.lL (p:=fun w=>af Dt w (.slice q1 par.length d1) par) (fun w2 h=>(h (fun w=>dr ⟨par,res⟩ Dt w (.slice q1 par.length d1,.slice q2 res.length d2)) ak).1)).cF dM aV) hwf1.some hwf1.at_.1 hwf1.at_.2;rw[hr]at this;exact this)) (fun _=>by dsimp only[aS,List.cons_append,List.nil_append];exact bc) (fun _=>aV) ?_;rintro⟨tvb,pvb⟩ _;dsimp only[aS,List.cons_append,List.nil_append])|refine aP.nil LX ?_|refine aP.any LX ?_|exact aN.fin rfl|refine aN.skip LX ?_|refine aN.go ?_ ?_)
    by_cases he2:e2=0
    ·subst he2
     rw[if_neg Mh]
     repeat'(first|refine ar ?_|(refine a7 ?_ ?_<;>intro hc_))
     refine Kw ?_
     repeat'(first|refine Bl ?_|(refine bu.ep 50 ?_;refine bu.he rfl rfl (HE.bC (M0:=[]) ox.nil rfl rfl (fun w' hw'=>dO par (.slice q1 par.length d1) w' (hw'.get (p:=fun w=>dr ⟨par,res⟩ Dt w (.slice q1 par.length d1,.slice q2 res.length d2)) ak).1)) (fun _=>by dsimp only[List.cons_append,List.nil_append];exact bc) (fun _=>aV) ?_;intro upar_ _;dsimp only[List.cons_append,List.nil_append];refine cK.pure (φ:=∃p c,upar_=.slice p par.length c) (fun w' hw'=>?_) ?_;(·obtain⟨p,c,e,_⟩:=ax (hw'.own (v:=upar_));exact⟨p,c,e⟩);rintro⟨ppar_,cpar_,rfl⟩)|(refine bu.ep 50 ?_;refine bu.he rfl rfl (HE.bC (M0:=[]) ox.nil rfl rfl (fun w' hw'=>dO res (.slice q2 res.length d2) w' (hw'.get (p:=fun w=>dr ⟨par,res⟩ Dt w (.slice q1 par.length d1,.slice q2 res.length d2)) ak).2)) (fun _=>by dsimp only[List.cons_append,List.nil_append];exact bc) (fun _=>aV) ?_;intro ures_ _;dsimp only[List.cons_append,List.nil_append];refine cK.pure (φ:=∃p c,ures_=.slice p res.length c) (fun w' hw'=>?_) ?_;(·obtain⟨p,c,e,_⟩:=ax (hw'.own (v:=ures_));exact⟨p,c,e⟩);rintro⟨pres_,cres_,rfl⟩)|(refine bu.iq rfl (fQ.bn _ rfl rfl rfl rfl rfl rfl aA rfl) ?_;rintro⟨⟩ _)|refine cK.any LX ?_|exact bZ.fin rfl|refine bZ.skip LX ?_|refine bZ.go ?_ ?_)
     all_goals
      repeat'(first|refine ar ?_|(refine a7 ?_ ?_<;>intro hc_))
      refine Kx ?_
      generalize (fun k=>(Value.slice ppar_ par.length cpar_).ownBlock=some k∨(Value.slice pres_ res.length cres_).ownBlock=some k)=D0
      refine Ky ?_
      refine Kz ?_
      refine pO ?_
      refine bq.GQ (HE.bC (M0:=[.aT cp [.pointer (some ⟨sp,0,none⟩),.slice p c.fs.length cc,rv,.bool c.live,.int .i64 c.broken] iz,.aT sp [tvb,pvb,.bool (eN s2)] iN,.own 0 fY 1 tvb s2.ts.length (aX s2.ts),.own 0 iO 2 pvb s2.ps.length (bO s2.ps),.own 0 ym 5 (.slice p c.fs.length cc) c.fs.length (dL c.fs fv),.j8 iu iu.fr (fun k=>D k∨D0 k) ((⟨par,res⟩,.slice ppar_ par.length cpar_,.slice pres_ res.length cres_)::L)]) dt rfl rfl (fun w' hw'=>mi cp {c with ao:=s2} ⟨sp,tvb,pvb,.slice p c.fs.length cc,rv,fv,fun k=>D k∨D0 k,(⟨par,res⟩,.slice ppar_ par.length cpar_,.slice pres_ res.length cres_)::L⟩ ⟨4,par,res,false,c.live⟩ (.slice ppar_ par.length cpar_,.slice pres_ res.length cres_) w' (hw'.cF dM (fun p h=>by cases h)) (hg.mono rfl rfl rfl rfl (fun _ h=>List.mem_cons_of_mem _ h)) List.mem_cons_self LT LT LT LT)) rfl ?_
      intro y hy
      repeat'(first|refine ar ?_|(refine a7 ?_ ?_<;>intro hc_))
      exact pp
    ·rw[if_pos he2]
     repeat'(first|refine ar ?_|(refine a7 ?_ ?_<;>intro hc_))
     refine KA ?_
     rintro⟨⟩ _
     dsimp only[List.cons_append,List.nil_append]
     repeat'(first|refine ar ?_|(refine a7 ?_ ?_<;>intro hc_))
     exact i8
   ·rw[if_pos hea]
    repeat'(first|refine ar ?_|(refine a7 ?_ ?_<;>intro hc_))
    refine aa.he (HE.bC (M0:=[.aT cp [.pointer (some ⟨sp,0,none⟩),.slice p c.fs.length cc,rv,.bool c.live,.int .i64 c.broken] iz]) dt rfl rfl (fun w' hw'=>iF cp _ _ _ _ _ ea w' (hw'.cF dM (fun p h=>by cases h)))) rfl ?_
    rintro⟨⟩ _
    dsimp only[List.cons_append,List.nil_append]
    repeat'(first|refine ar ?_|(refine a7 ?_ ?_<;>intro hc_))
    exact ah.aB rfl rfl fun w' hw'=>aD.err ea rfl hea hS hw' ak
end Go.Proofs.YtgbgnipidakdhaaGreatDoor
