/- The control frames (layer 22): Enter. Printed by gen_en.py. -/
import Derived.Test.YtceedealggognaaGreatDoorJEl
namespace Go.Proofs.YtceedealggognaaGreatDoor
open Go.RowKit
set_option maxRecDepth 100000
theorem pn {g g':Prop} (h:g') (hw:ek g'→g:=by(intro hk_;(first|refine Gr ?_);exact hk_.out)):g:=hw ⟨h⟩
set_option maxHeartbeats 32000000 in
theorem uI (Dt:Nat→Prop) (cp:Nat) (c:dq) (v:fU) (op:Int) (par res:List Int) (x:Value×Value) (w:World) (hw:Ok (aw cp c v) [fun w=>fa ⟨par,res⟩ Dt w x] w) (hg:v.Good c) (hb:c.broken=0) (hwf:c.Wf) (hop:op=2∨op=3∨op=4) (hfl:c.fs.length≤1000) (hts:(c.aG.ts.length+par.length)*8≤140737488355328):
  Calls G.P 53 #[.pointer (some ⟨cp,0,none⟩),.int .i64 op,.agg #[x.1,x.2]] w (ar (aw cp c v) cp (iu c op par res) w):=by
 obtain⟨sp,tv,pv,bv,rv,fv,D,L⟩:=v
 have hrd:=hw.vN (List.Sublist.refl _)
 have hfx:fa ⟨par,res⟩ Dt w x:=hw.get (p:=fun w=>fa ⟨par,res⟩ Dt w x) Hc
 obtain⟨q1,d1,q2,d2,rfl⟩:=hfx.Ck
 dsimp only at hw hfx ⊢
 obtain⟨p,cc,e,hcp,hmx,-⟩:=av hrd.o
 dsimp only at e
 subst e
 have hat:=hwf.aG.at_
 have hps:=hwf.aG.some
 have hmany:=hwf.many
 have hl1:par.length≤17592186044416:=by obtain⟨_,_,_,h⟩:=hfx.1.slice;exact h
 have hl2:res.length≤17592186044416:=by obtain⟨_,_,_,h⟩:=hfx.2.slice;exact h
 by_cases h0:c.fs.length=0
 ·have e:iu c op par res=(c,16):=by unfold iu;rw[if_neg Hb,if_neg Hb,if_pos h0]
  rw[e]
  refine aj (l:=[_,_,_]) Tryz.func53 rfl Tryz.ntmps53 rfl (Ok.bW hw) ?_
  generalize hS:Mb (aw cp c ⟨sp,tv,pv,.slice p c.fs.length cc,rv,fv,D,L⟩)=S0
  dsimp only[aw,ay,List.cons_append,List.nil_append]
  repeat'(first|refine ax ?_|refine pn ?_|(refine bz fun b_=>?_)|(refine aO ?_ ?_<;>intro hc_))
  all_goals exact ge
 ·obtain⟨a,ha⟩:∃a,(if op=4 then aT c.aG [1]else(c.aG,0))=a:=⟨_,rfl⟩
  obtain⟨s1,ea⟩:=a
  have e:iu c op par res=(if ea≠0 then({c with broken:=ea},ea)else
   let b:=aT s1 par
   if b.2≠0 then({c with aG:=s1,broken:=b.2},b.2)else(lS c b.1 c.fs ⟨op,par,res,false,c.live⟩,0)):=by unfold iu;rw[if_neg Hb,if_neg Hb,if_neg h0,ha]
  rw[e]
  refine aj (l:=[_,_,_]) Tryz.func53 rfl Tryz.ntmps53 rfl (Ok.bW hw) ?_
  generalize hS:Mb (aw cp c ⟨sp,tv,pv,.slice p c.fs.length cc,rv,fv,D,L⟩)=S0
  dsimp only[aw,ay,List.cons_append,List.nil_append]
  rcases hop with rfl|rfl|rfl
  ·rw[if_neg Ha]at ha
   cases ha
   have hwf1:=hwf.aG
   rw[if_neg Ha]
   repeat'(first|refine ax ?_|refine pn ?_|(refine aO ?_ ?_<;>intro hc_))
   all_goals first|omega|skip
   refine aa.box [.slice q1 par.length d1,.slice q2 res.length d2] rfl rfl rfl fun b5=>?_
   repeat'(first|refine ax ?_|refine pn ?_|(refine aO ?_ ?_<;>intro hc_))
   all_goals first|omega|skip
   obtain⟨r,hr⟩:∃r,aT c.aG par=r:=⟨_,rfl⟩
   obtain⟨s2,e2⟩:=r
   rw[hr]
   dsimp only
   have hs2w:=dx hwf1 par
   have hs2p:=eu c.aG par
   have hs2t:=dw c.aG par
   rw[hr]at hs2w hs2p hs2t
   dsimp only at hs2w hs2p hs2t
   have hs2l:s2.ps.length=(c.aG).ps.length:=by rw[hs2p]
   refine wd ?_
   repeat'(first|refine uo ?_|(refine aI.eU 85 ?_;refine aI.he rfl rfl (HE.aW (M0:=[.aJ sp [tv,pv,.bool (cB c.aG)] fS,.own 0 fl 1 tv c.aG.ts.length (aU c.aG.ts),.own 0 fR 2 pv c.aG.ps.length (bw c.aG.ps)]) cE rfl rfl (fun w' hw'=>by have:=dX Dt sp c.aG (tv,pv) (.slice q1 par.length d1) par w' ((hw'.kq (p:=fun w=>af Dt w (.slice q1 par.length d1) par) (fun w2 h=>(h (fun w=>fa ⟨par,res⟩ Dt w (.slice q1 par.length d1,.slice q2 res.length d2)) ao).1)).bV cT aY) hwf1.some hwf1.at_.1 hwf1.at_.2;rw[hr]at this;exact this)) (fun _=>by dsimp only[ay,List.cons_append,List.nil_append];exact bN) (fun _=>aY) ?_;rintro⟨tvb,pvb⟩ _;dsimp only[ay,List.cons_append,List.nil_append])|refine aK.nil G6 ?_|refine aK.any G6 ?_|exact aC.fin rfl|refine aC.skip G6 ?_|refine aC.go ?_ ?_)
   by_cases he2:e2=0
   ·subst he2
    rw[if_neg Ha]
    repeat'(first|refine ax ?_|(refine aO ?_ ?_<;>intro hc_))
    refine wl ?_
    repeat'(first|refine C8 ?_|(refine cI.eU 45 ?_;refine cI.he rfl rfl (HE.aW (M0:=[]) lD.nil rfl rfl (fun w' hw'=>cR par (.slice q1 par.length d1) w' (hw'.get (p:=fun w=>fa ⟨par,res⟩ Dt w (.slice q1 par.length d1,.slice q2 res.length d2)) ao).1)) (fun _=>by dsimp only[List.cons_append,List.nil_append];exact bN) (fun _=>aY) ?_;intro upar_ _;dsimp only[List.cons_append,List.nil_append];refine dh.pure (φ:=∃p c,upar_=.slice p par.length c) (fun w' hw'=>?_) ?_;(·obtain⟨p,c,e,_⟩:=av (hw'.own (v:=upar_));exact⟨p,c,e⟩);rintro⟨ppar_,cpar_,rfl⟩)|(refine cI.eU 45 ?_;refine cI.he rfl rfl (HE.aW (M0:=[]) lD.nil rfl rfl (fun w' hw'=>cR res (.slice q2 res.length d2) w' (hw'.get (p:=fun w=>fa ⟨par,res⟩ Dt w (.slice q1 par.length d1,.slice q2 res.length d2)) ao).2)) (fun _=>by dsimp only[List.cons_append,List.nil_append];exact bN) (fun _=>aY) ?_;intro ures_ _;dsimp only[List.cons_append,List.nil_append];refine dh.pure (φ:=∃p c,ures_=.slice p res.length c) (fun w' hw'=>?_) ?_;(·obtain⟨p,c,e,_⟩:=av (hw'.own (v:=ures_));exact⟨p,c,e⟩);rintro⟨pres_,cres_,rfl⟩)|(refine cI.hG rfl (gj.aM _ rfl rfl rfl rfl rfl rfl bJ rfl) ?_;rintro⟨⟩ _)|refine dh.any G6 ?_|exact dU.fin rfl|refine dU.skip G6 ?_|refine dU.go ?_ ?_)
    all_goals
     repeat'(first|refine ax ?_|(refine aO ?_ ?_<;>intro hc_))
     refine wn ?_
     generalize (fun k=>(Value.slice ppar_ par.length cpar_).ownBlock=some k∨(Value.slice pres_ res.length cres_).ownBlock=some k)=D0
     refine ws ?_
     refine wt ?_
     refine jM ?_
     refine aN.C4 (HE.aW (M0:=[.aJ cp [.pointer (some ⟨sp,0,none⟩),.slice p c.fs.length cc,rv,.bool c.live,.int .i64 c.broken] fA,.aJ sp [tvb,pvb,.bool (cB s2)] fS,.own 0 fl 1 tvb s2.ts.length (aU s2.ts),.own 0 fR 2 pvb s2.ps.length (bw s2.ps),.own 0 nO 5 (.slice p c.fs.length cc) c.fs.length (cM c.fs fv),.iM fx fx.fr (fun k=>D k∨D0 k) ((⟨par,res⟩,.slice ppar_ par.length cpar_,.slice pres_ res.length cres_)::L)]) cE rfl rfl (fun w' hw'=>jU cp {c with aG:=s2} ⟨sp,tvb,pvb,.slice p c.fs.length cc,rv,fv,fun k=>D k∨D0 k,(⟨par,res⟩,.slice ppar_ par.length cpar_,.slice pres_ res.length cres_)::L⟩ ⟨2,par,res,false,c.live⟩ (.slice ppar_ par.length cpar_,.slice pres_ res.length cres_) w' (hw'.bV cT (fun p h=>by cases h)) (hg.mono rfl rfl rfl rfl (fun _ h=>List.mem_cons_of_mem _ h)) List.mem_cons_self G2 G2 G2 G2)) rfl ?_
     intro y hy
     repeat'(first|refine ax ?_|(refine aO ?_ ?_<;>intro hc_))
     exact gt
   ·rw[if_pos he2]
    repeat'(first|refine ax ?_|(refine aO ?_ ?_<;>intro hc_))
    refine ww ?_
    rintro⟨⟩ _
    dsimp only[List.cons_append,List.nil_append]
    repeat'(first|refine ax ?_|(refine aO ?_ ?_<;>intro hc_))
    exact ii
  ·rw[if_neg Ha]at ha
   cases ha
   have hwf1:=hwf.aG
   rw[if_neg Ha]
   repeat'(first|refine ax ?_|refine pn ?_|(refine aO ?_ ?_<;>intro hc_))
   all_goals first|omega|skip
   refine aa.box [.slice q1 par.length d1,.slice q2 res.length d2] rfl rfl rfl fun b5=>?_
   repeat'(first|refine ax ?_|refine pn ?_|(refine aO ?_ ?_<;>intro hc_))
   all_goals first|omega|skip
   obtain⟨r,hr⟩:∃r,aT c.aG par=r:=⟨_,rfl⟩
   obtain⟨s2,e2⟩:=r
   rw[hr]
   dsimp only
   have hs2w:=dx hwf1 par
   have hs2p:=eu c.aG par
   have hs2t:=dw c.aG par
   rw[hr]at hs2w hs2p hs2t
   dsimp only at hs2w hs2p hs2t
   have hs2l:s2.ps.length=(c.aG).ps.length:=by rw[hs2p]
   refine wd ?_
   repeat'(first|refine uo ?_|(refine aI.eU 85 ?_;refine aI.he rfl rfl (HE.aW (M0:=[.aJ sp [tv,pv,.bool (cB c.aG)] fS,.own 0 fl 1 tv c.aG.ts.length (aU c.aG.ts),.own 0 fR 2 pv c.aG.ps.length (bw c.aG.ps)]) cE rfl rfl (fun w' hw'=>by have:=dX Dt sp c.aG (tv,pv) (.slice q1 par.length d1) par w' ((hw'.kq (p:=fun w=>af Dt w (.slice q1 par.length d1) par) (fun w2 h=>(h (fun w=>fa ⟨par,res⟩ Dt w (.slice q1 par.length d1,.slice q2 res.length d2)) ao).1)).bV cT aY) hwf1.some hwf1.at_.1 hwf1.at_.2;rw[hr]at this;exact this)) (fun _=>by dsimp only[ay,List.cons_append,List.nil_append];exact bN) (fun _=>aY) ?_;rintro⟨tvb,pvb⟩ _;dsimp only[ay,List.cons_append,List.nil_append])|refine aK.nil G6 ?_|refine aK.any G6 ?_|exact aC.fin rfl|refine aC.skip G6 ?_|refine aC.go ?_ ?_)
   by_cases he2:e2=0
   ·subst he2
    rw[if_neg Ha]
    repeat'(first|refine ax ?_|(refine aO ?_ ?_<;>intro hc_))
    refine wl ?_
    repeat'(first|refine C8 ?_|(refine cI.eU 45 ?_;refine cI.he rfl rfl (HE.aW (M0:=[]) lD.nil rfl rfl (fun w' hw'=>cR par (.slice q1 par.length d1) w' (hw'.get (p:=fun w=>fa ⟨par,res⟩ Dt w (.slice q1 par.length d1,.slice q2 res.length d2)) ao).1)) (fun _=>by dsimp only[List.cons_append,List.nil_append];exact bN) (fun _=>aY) ?_;intro upar_ _;dsimp only[List.cons_append,List.nil_append];refine dh.pure (φ:=∃p c,upar_=.slice p par.length c) (fun w' hw'=>?_) ?_;(·obtain⟨p,c,e,_⟩:=av (hw'.own (v:=upar_));exact⟨p,c,e⟩);rintro⟨ppar_,cpar_,rfl⟩)|(refine cI.eU 45 ?_;refine cI.he rfl rfl (HE.aW (M0:=[]) lD.nil rfl rfl (fun w' hw'=>cR res (.slice q2 res.length d2) w' (hw'.get (p:=fun w=>fa ⟨par,res⟩ Dt w (.slice q1 par.length d1,.slice q2 res.length d2)) ao).2)) (fun _=>by dsimp only[List.cons_append,List.nil_append];exact bN) (fun _=>aY) ?_;intro ures_ _;dsimp only[List.cons_append,List.nil_append];refine dh.pure (φ:=∃p c,ures_=.slice p res.length c) (fun w' hw'=>?_) ?_;(·obtain⟨p,c,e,_⟩:=av (hw'.own (v:=ures_));exact⟨p,c,e⟩);rintro⟨pres_,cres_,rfl⟩)|(refine cI.hG rfl (gj.aM _ rfl rfl rfl rfl rfl rfl bJ rfl) ?_;rintro⟨⟩ _)|refine dh.any G6 ?_|exact dU.fin rfl|refine dU.skip G6 ?_|refine dU.go ?_ ?_)
    all_goals
     repeat'(first|refine ax ?_|(refine aO ?_ ?_<;>intro hc_))
     refine wn ?_
     generalize (fun k=>(Value.slice ppar_ par.length cpar_).ownBlock=some k∨(Value.slice pres_ res.length cres_).ownBlock=some k)=D0
     refine ws ?_
     refine wt ?_
     refine jM ?_
     refine aN.C4 (HE.aW (M0:=[.aJ cp [.pointer (some ⟨sp,0,none⟩),.slice p c.fs.length cc,rv,.bool c.live,.int .i64 c.broken] fA,.aJ sp [tvb,pvb,.bool (cB s2)] fS,.own 0 fl 1 tvb s2.ts.length (aU s2.ts),.own 0 fR 2 pvb s2.ps.length (bw s2.ps),.own 0 nO 5 (.slice p c.fs.length cc) c.fs.length (cM c.fs fv),.iM fx fx.fr (fun k=>D k∨D0 k) ((⟨par,res⟩,.slice ppar_ par.length cpar_,.slice pres_ res.length cres_)::L)]) cE rfl rfl (fun w' hw'=>jU cp {c with aG:=s2} ⟨sp,tvb,pvb,.slice p c.fs.length cc,rv,fv,fun k=>D k∨D0 k,(⟨par,res⟩,.slice ppar_ par.length cpar_,.slice pres_ res.length cres_)::L⟩ ⟨3,par,res,false,c.live⟩ (.slice ppar_ par.length cpar_,.slice pres_ res.length cres_) w' (hw'.bV cT (fun p h=>by cases h)) (hg.mono rfl rfl rfl rfl (fun _ h=>List.mem_cons_of_mem _ h)) List.mem_cons_self G2 G2 G2 G2)) rfl ?_
     intro y hy
     repeat'(first|refine ax ?_|(refine aO ?_ ?_<;>intro hc_))
     exact gt
   ·rw[if_pos he2]
    repeat'(first|refine ax ?_|(refine aO ?_ ?_<;>intro hc_))
    refine ww ?_
    rintro⟨⟩ _
    dsimp only[List.cons_append,List.nil_append]
    repeat'(first|refine ax ?_|(refine aO ?_ ?_<;>intro hc_))
    exact ii
  ·rw[if_pos rfl]at ha
   have hwf1:=dx hwf.aG [1]
   have hp1:=eu c.aG [1]
   have ht1:=dw c.aG [1]
   rw[ha]at hwf1 hp1 ht1
   dsimp only at hwf1 hp1 ht1
   have hp1l:s1.ps.length=c.aG.ps.length:=by rw[hp1]
   repeat'(first|refine ax ?_|refine pn ?_|(refine aO ?_ ?_<;>intro hc_))
   all_goals first|omega|skip
   refine aa.box [.slice q1 par.length d1,.slice q2 res.length d2] rfl rfl rfl fun b5=>?_
   repeat'(first|refine ax ?_|refine pn ?_|(refine aO ?_ ?_<;>intro hc_))
   all_goals first|omega|skip
   refine AC ?_
   intro b6 _
   refine aa.freeze (q:=.aJ b6 [.int .i64 1] fl) (fun w=>af (fun k=>k=b6) w (.slice (some ⟨b6,0,none⟩) 1 1) [1]) hU (fun w' h _=>fg h) ?_
   repeat'(first|refine ax ?_|(refine aO ?_ ?_<;>intro hc_))
   refine aa.he (HE.aW (M0:=[.aJ sp [tv,pv,.bool (cB c.aG)] fS,.own 0 fl 1 tv c.aG.ts.length (aU c.aG.ts),.own 0 fR 2 pv c.aG.ps.length (bw c.aG.ps)]) cE rfl rfl (fun w' hw'=>by have:=dX (fun k=>k=b6) sp c.aG (tv,pv) _ [1] w' (hw'.bV cT aY) hwf.aG.some hat.1 hat.2;rw[ha]at this;exact this)) rfl ?_
   rintro⟨tva,pva⟩ _
   dsimp only[ay,List.cons_append,List.nil_append]
   by_cases hea:ea=0
   ·subst hea
    rw[if_neg Ha]
    repeat'(first|refine ax ?_|(refine aO ?_ ?_<;>intro hc_))
    obtain⟨r,hr⟩:∃r,aT s1 par=r:=⟨_,rfl⟩
    obtain⟨s2,e2⟩:=r
    rw[hr]
    dsimp only
    have hs2w:=dx hwf1 par
    have hs2p:=eu s1 par
    have hs2t:=dw s1 par
    rw[hr]at hs2w hs2p hs2t
    dsimp only at hs2w hs2p hs2t
    have hs2l:s2.ps.length=(s1).ps.length:=by rw[hs2p]
    refine wd ?_
    repeat'(first|refine uo ?_|(refine aI.eU 85 ?_;refine aI.he rfl rfl (HE.aW (M0:=[.aJ sp [tva,pva,.bool (cB s1)] fS,.own 0 fl 1 tva s1.ts.length (aU s1.ts),.own 0 fR 2 pva s1.ps.length (bw s1.ps)]) cE rfl rfl (fun w' hw'=>by have:=dX Dt sp s1 (tva,pva) (.slice q1 par.length d1) par w' ((hw'.kq (p:=fun w=>af Dt w (.slice q1 par.length d1) par) (fun w2 h=>(h (fun w=>fa ⟨par,res⟩ Dt w (.slice q1 par.length d1,.slice q2 res.length d2)) ao).1)).bV cT aY) hwf1.some hwf1.at_.1 hwf1.at_.2;rw[hr]at this;exact this)) (fun _=>by dsimp only[ay,List.cons_append,List.nil_append];exact bN) (fun _=>aY) ?_;rintro⟨tvb,pvb⟩ _;dsimp only[ay,List.cons_append,List.nil_append])|refine aK.nil G6 ?_|refine aK.any G6 ?_|exact aC.fin rfl|refine aC.skip G6 ?_|refine aC.go ?_ ?_)
    by_cases he2:e2=0
    ·subst he2
     rw[if_neg Ha]
     repeat'(first|refine ax ?_|(refine aO ?_ ?_<;>intro hc_))
     refine wl ?_
     repeat'(first|refine C8 ?_|(refine cI.eU 45 ?_;refine cI.he rfl rfl (HE.aW (M0:=[]) lD.nil rfl rfl (fun w' hw'=>cR par (.slice q1 par.length d1) w' (hw'.get (p:=fun w=>fa ⟨par,res⟩ Dt w (.slice q1 par.length d1,.slice q2 res.length d2)) ao).1)) (fun _=>by dsimp only[List.cons_append,List.nil_append];exact bN) (fun _=>aY) ?_;intro upar_ _;dsimp only[List.cons_append,List.nil_append];refine dh.pure (φ:=∃p c,upar_=.slice p par.length c) (fun w' hw'=>?_) ?_;(·obtain⟨p,c,e,_⟩:=av (hw'.own (v:=upar_));exact⟨p,c,e⟩);rintro⟨ppar_,cpar_,rfl⟩)|(refine cI.eU 45 ?_;refine cI.he rfl rfl (HE.aW (M0:=[]) lD.nil rfl rfl (fun w' hw'=>cR res (.slice q2 res.length d2) w' (hw'.get (p:=fun w=>fa ⟨par,res⟩ Dt w (.slice q1 par.length d1,.slice q2 res.length d2)) ao).2)) (fun _=>by dsimp only[List.cons_append,List.nil_append];exact bN) (fun _=>aY) ?_;intro ures_ _;dsimp only[List.cons_append,List.nil_append];refine dh.pure (φ:=∃p c,ures_=.slice p res.length c) (fun w' hw'=>?_) ?_;(·obtain⟨p,c,e,_⟩:=av (hw'.own (v:=ures_));exact⟨p,c,e⟩);rintro⟨pres_,cres_,rfl⟩)|(refine cI.hG rfl (gj.aM _ rfl rfl rfl rfl rfl rfl bJ rfl) ?_;rintro⟨⟩ _)|refine dh.any G6 ?_|exact dU.fin rfl|refine dU.skip G6 ?_|refine dU.go ?_ ?_)
     all_goals
      repeat'(first|refine ax ?_|(refine aO ?_ ?_<;>intro hc_))
      refine wn ?_
      generalize (fun k=>(Value.slice ppar_ par.length cpar_).ownBlock=some k∨(Value.slice pres_ res.length cres_).ownBlock=some k)=D0
      refine ws ?_
      refine wt ?_
      refine jM ?_
      refine aN.C4 (HE.aW (M0:=[.aJ cp [.pointer (some ⟨sp,0,none⟩),.slice p c.fs.length cc,rv,.bool c.live,.int .i64 c.broken] fA,.aJ sp [tvb,pvb,.bool (cB s2)] fS,.own 0 fl 1 tvb s2.ts.length (aU s2.ts),.own 0 fR 2 pvb s2.ps.length (bw s2.ps),.own 0 nO 5 (.slice p c.fs.length cc) c.fs.length (cM c.fs fv),.iM fx fx.fr (fun k=>D k∨D0 k) ((⟨par,res⟩,.slice ppar_ par.length cpar_,.slice pres_ res.length cres_)::L)]) cE rfl rfl (fun w' hw'=>jU cp {c with aG:=s2} ⟨sp,tvb,pvb,.slice p c.fs.length cc,rv,fv,fun k=>D k∨D0 k,(⟨par,res⟩,.slice ppar_ par.length cpar_,.slice pres_ res.length cres_)::L⟩ ⟨4,par,res,false,c.live⟩ (.slice ppar_ par.length cpar_,.slice pres_ res.length cres_) w' (hw'.bV cT (fun p h=>by cases h)) (hg.mono rfl rfl rfl rfl (fun _ h=>List.mem_cons_of_mem _ h)) List.mem_cons_self G2 G2 G2 G2)) rfl ?_
      intro y hy
      repeat'(first|refine ax ?_|(refine aO ?_ ?_<;>intro hc_))
      exact gt
    ·rw[if_pos he2]
     repeat'(first|refine ax ?_|(refine aO ?_ ?_<;>intro hc_))
     refine ww ?_
     rintro⟨⟩ _
     dsimp only[List.cons_append,List.nil_append]
     repeat'(first|refine ax ?_|(refine aO ?_ ?_<;>intro hc_))
     exact ii
   ·rw[if_pos hea]
    repeat'(first|refine ax ?_|(refine aO ?_ ?_<;>intro hc_))
    refine aa.he (HE.aW (M0:=[.aJ cp [.pointer (some ⟨sp,0,none⟩),.slice p c.fs.length cc,rv,.bool c.live,.int .i64 c.broken] fA]) cE rfl rfl (fun w' hw'=>fK cp _ _ _ _ _ ea w' (hw'.bV cT (fun p h=>by cases h)))) rfl ?_
    rintro⟨⟩ _
    dsimp only[List.cons_append,List.nil_append]
    repeat'(first|refine ax ?_|(refine aO ?_ ?_<;>intro hc_))
    exact ai.aA rfl rfl fun w' hw'=>ar.err ea rfl hea hS hw' ao
end Go.Proofs.YtceedealggognaaGreatDoor
