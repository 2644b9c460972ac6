/- The control frames (layer 22): Enter. Printed by gen_en.py. -/
import Derived.Test.YtceedealggognaaGreatDoorJRy
namespace Go.Proofs.YtceedealggognaaGreatDoor
open Go.RowKit
set_option maxRecDepth 100000
theorem oG {g g':Prop} (h:g') (hw:dP g'→g:=by(intro hk_;(first|refine Fe ?_);exact hk_.out)):g:=hw ⟨h⟩
set_option maxHeartbeats 32000000 in
theorem tG (Dt:Nat→Prop) (cp:Nat) (c:dq) (v:fJ) (op:Int) (par res:List Int) (x:Value×Value) (w:World) (hw:Ok (aw cp c v) [fun w=>eO ⟨par,res⟩ Dt w x] w) (hg:v.Good c) (hb:c.broken=0) (hwf:c.Wf) (hop:op=2∨op=3∨op=4) (hfl:c.fs.length≤1000) (hts:(c.aF.ts.length+par.length)*8≤140737488355328):
  Calls G.P 53 #[.pointer (some ⟨cp,0,none⟩),.int .i64 op,.agg #[x.1,x.2]] w (ar (aw cp c v) cp (hO c op par res) w):=by
 obtain⟨sp,tv,pv,bv,rv,fv,D,L⟩:=v
 have hrd:=hw.uM (List.Sublist.refl _)
 have hfx:eO ⟨par,res⟩ Dt w x:=hw.get (p:=fun w=>eO ⟨par,res⟩ Dt w x) FZ
 obtain⟨q1,d1,q2,d2,rfl⟩:=hfx.A3
 dsimp only at hw hfx ⊢
 obtain⟨p,cc,e,hcp,hmx,-⟩:=au hrd.o
 dsimp only at e
 subst e
 have hat:=hwf.aF.at_
 have hps:=hwf.aF.some
 have hmany:=hwf.many
 have hl1:par.length≤17592186044416:=by obtain⟨_,_,_,h⟩:=hfx.1.slice;exact h
 have hl2:res.length≤17592186044416:=by obtain⟨_,_,_,h⟩:=hfx.2.slice;exact h
 by_cases h0:c.fs.length=0
 ·have e:hO c op par res=(c,16):=by unfold hO;rw[if_neg FY,if_neg FY,if_pos h0]
  rw[e]
  refine aj (l:=[_,_,_]) Tryz.func53 rfl Tryz.ntmps53 rfl (Ok.bV hw) ?_
  generalize hS:Mb (aw cp c ⟨sp,tv,pv,.slice p c.fs.length cc,rv,fv,D,L⟩)=S0
  dsimp only[aw,ax,List.cons_append,List.nil_append]
  repeat'(first|refine ay ?_|refine oG ?_|(refine br fun b_=>?_)|(refine aY ?_ ?_<;>intro hc_))
  all_goals exact ci
 ·obtain⟨a,ha⟩:∃a,(if op=4 then aO c.aF [1]else(c.aF,0))=a:=⟨_,rfl⟩
  obtain⟨s1,ea⟩:=a
  have e:hO c op par res=(if ea≠0 then({c with broken:=ea},ea)else
   let b:=aO s1 par
   if b.2≠0 then({c with aF:=s1,broken:=b.2},b.2)else(lh c b.1 c.fs ⟨op,par,res,false,c.live⟩,0)):=by unfold hO;rw[if_neg FY,if_neg FY,if_neg h0,ha]
  rw[e]
  refine aj (l:=[_,_,_]) Tryz.func53 rfl Tryz.ntmps53 rfl (Ok.bV hw) ?_
  generalize hS:Mb (aw cp c ⟨sp,tv,pv,.slice p c.fs.length cc,rv,fv,D,L⟩)=S0
  dsimp only[aw,ax,List.cons_append,List.nil_append]
  rcases hop with rfl|rfl|rfl
  ·rw[if_neg FX]at ha
   cases ha
   have hwf1:=hwf.aF
   rw[if_neg FX]
   repeat'(first|refine ay ?_|refine oG ?_|(refine aY ?_ ?_<;>intro hc_))
   all_goals first|omega|skip
   refine aa.box [.slice q1 par.length d1,.slice q2 res.length d2] rfl rfl rfl fun b5=>?_
   repeat'(first|refine ay ?_|refine oG ?_|(refine aY ?_ ?_<;>intro hc_))
   all_goals first|omega|skip
   obtain⟨r,hr⟩:∃r,aO c.aF par=r:=⟨_,rfl⟩
   obtain⟨s2,e2⟩:=r
   rw[hr]
   dsimp only
   have hs2w:=dp hwf1 par
   have hs2p:=ec c.aF par
   have hs2t:=dn c.aF par
   rw[hr]at hs2w hs2p hs2t
   dsimp only at hs2w hs2p hs2t
   have hs2l:s2.ps.length=(c.aF).ps.length:=by rw[hs2p]
   refine EH ?_
   repeat'(first|refine tx ?_|(refine aK.fe 85 ?_;refine aK.he rfl rfl (HE.aS (M0:=[.aH sp [tv,pv,.bool (cE c.aF)] fH,.own 0 eV 1 tv c.aF.ts.length (aR c.aF.ts),.own 0 fG 2 pv c.aF.ps.length (bw c.aF.ps)]) cv rfl rfl (fun w' hw'=>by have:=dN Dt sp c.aF (tv,pv) (.slice q1 par.length d1) par w' ((hw'.kJ (p:=fun w=>af Dt w (.slice q1 par.length d1) par) (fun w2 h=>(h (fun w=>eO ⟨par,res⟩ Dt w (.slice q1 par.length d1,.slice q2 res.length d2)) ao).1)).bT cM aX) hwf1.some hwf1.at_.1 hwf1.at_.2;rw[hr]at this;exact this)) (fun _=>by dsimp only[ax,List.cons_append,List.nil_append];exact bN) (fun _=>aX) ?_;rintro⟨tvb,pvb⟩ _;dsimp only[ax,List.cons_append,List.nil_append])|refine aN.nil FR ?_|refine aN.any FR ?_|exact aE.fin rfl|refine aE.skip FR ?_|refine aE.go ?_ ?_)
   by_cases he2:e2=0
   ·subst he2
    rw[if_neg FX]
    repeat'(first|refine ay ?_|(refine aY ?_ ?_<;>intro hc_))
    refine EI ?_
    repeat'(first|refine BX ?_|(refine cD.fe 45 ?_;refine cD.he rfl rfl (HE.aS (M0:=[]) k9.nil rfl rfl (fun w' hw'=>cK par (.slice q1 par.length d1) w' (hw'.get (p:=fun w=>eO ⟨par,res⟩ Dt w (.slice q1 par.length d1,.slice q2 res.length d2)) ao).1)) (fun _=>by dsimp only[List.cons_append,List.nil_append];exact bN) (fun _=>aX) ?_;intro upar_ _;dsimp only[List.cons_append,List.nil_append];refine cX.pure (φ:=∃p c,upar_=.slice p par.length c) (fun w' hw'=>?_) ?_;(·obtain⟨p,c,e,_⟩:=au (hw'.own (v:=upar_));exact⟨p,c,e⟩);rintro⟨ppar_,cpar_,rfl⟩)|(refine cD.fe 45 ?_;refine cD.he rfl rfl (HE.aS (M0:=[]) k9.nil rfl rfl (fun w' hw'=>cK res (.slice q2 res.length d2) w' (hw'.get (p:=fun w=>eO ⟨par,res⟩ Dt w (.slice q1 par.length d1,.slice q2 res.length d2)) ao).2)) (fun _=>by dsimp only[List.cons_append,List.nil_append];exact bN) (fun _=>aX) ?_;intro ures_ _;dsimp only[List.cons_append,List.nil_append];refine cX.pure (φ:=∃p c,ures_=.slice p res.length c) (fun w' hw'=>?_) ?_;(·obtain⟨p,c,e,_⟩:=au (hw'.own (v:=ures_));exact⟨p,c,e⟩);rintro⟨pres_,cres_,rfl⟩)|(refine cD.gR rfl (gI.aL _ rfl rfl rfl rfl rfl rfl bM rfl) ?_;rintro⟨⟩ _)|refine cX.any FR ?_|exact dK.fin rfl|refine dK.skip FR ?_|refine dK.go ?_ ?_)
    all_goals
     repeat'(first|refine ay ?_|(refine aY ?_ ?_<;>intro hc_))
     refine EJ ?_
     generalize (fun k=>(Value.slice ppar_ par.length cpar_).ownBlock=some k∨(Value.slice pres_ res.length cres_).ownBlock=some k)=D0
     refine EK ?_
     refine EL ?_
     refine jA ?_
     refine aM.BT (HE.aS (M0:=[.aH cp [.pointer (some ⟨sp,0,none⟩),.slice p c.fs.length cc,rv,.bool c.live,.int .i64 c.broken] fl,.aH sp [tvb,pvb,.bool (cE s2)] fH,.own 0 eV 1 tvb s2.ts.length (aR s2.ts),.own 0 fG 2 pvb s2.ps.length (bw s2.ps),.own 0 m8 5 (.slice p c.fs.length cc) c.fs.length (cH c.fs fv),.iy fg fg.fr (fun k=>D k∨D0 k) ((⟨par,res⟩,.slice ppar_ par.length cpar_,.slice pres_ res.length cres_)::L)]) cv rfl rfl (fun w' hw'=>jG cp {c with aF:=s2} ⟨sp,tvb,pvb,.slice p c.fs.length cc,rv,fv,fun k=>D k∨D0 k,(⟨par,res⟩,.slice ppar_ par.length cpar_,.slice pres_ res.length cres_)::L⟩ ⟨2,par,res,false,c.live⟩ (.slice ppar_ par.length cpar_,.slice pres_ res.length cres_) w' (hw'.bT cM (fun p h=>by cases h)) (hg.mono rfl rfl rfl rfl (fun _ h=>List.mem_cons_of_mem _ h)) List.mem_cons_self FP FP FP FP)) rfl ?_
     intro y hy
     repeat'(first|refine ay ?_|(refine aY ?_ ?_<;>intro hc_))
     exact mt
   ·rw[if_pos he2]
    repeat'(first|refine ay ?_|(refine aY ?_ ?_<;>intro hc_))
    refine EM ?_
    rintro⟨⟩ _
    dsimp only[List.cons_append,List.nil_append]
    repeat'(first|refine ay ?_|(refine aY ?_ ?_<;>intro hc_))
    exact em
  ·rw[if_neg FX]at ha
   cases ha
   have hwf1:=hwf.aF
   rw[if_neg FX]
   repeat'(first|refine ay ?_|refine oG ?_|(refine aY ?_ ?_<;>intro hc_))
   all_goals first|omega|skip
   refine aa.box [.slice q1 par.length d1,.slice q2 res.length d2] rfl rfl rfl fun b5=>?_
   repeat'(first|refine ay ?_|refine oG ?_|(refine aY ?_ ?_<;>intro hc_))
   all_goals first|omega|skip
   obtain⟨r,hr⟩:∃r,aO c.aF par=r:=⟨_,rfl⟩
   obtain⟨s2,e2⟩:=r
   rw[hr]
   dsimp only
   have hs2w:=dp hwf1 par
   have hs2p:=ec c.aF par
   have hs2t:=dn c.aF par
   rw[hr]at hs2w hs2p hs2t
   dsimp only at hs2w hs2p hs2t
   have hs2l:s2.ps.length=(c.aF).ps.length:=by rw[hs2p]
   refine EH ?_
   repeat'(first|refine tx ?_|(refine aK.fe 85 ?_;refine aK.he rfl rfl (HE.aS (M0:=[.aH sp [tv,pv,.bool (cE c.aF)] fH,.own 0 eV 1 tv c.aF.ts.length (aR c.aF.ts),.own 0 fG 2 pv c.aF.ps.length (bw c.aF.ps)]) cv rfl rfl (fun w' hw'=>by have:=dN Dt sp c.aF (tv,pv) (.slice q1 par.length d1) par w' ((hw'.kJ (p:=fun w=>af Dt w (.slice q1 par.length d1) par) (fun w2 h=>(h (fun w=>eO ⟨par,res⟩ Dt w (.slice q1 par.length d1,.slice q2 res.length d2)) ao).1)).bT cM aX) hwf1.some hwf1.at_.1 hwf1.at_.2;rw[hr]at this;exact this)) (fun _=>by dsimp only[ax,List.cons_append,List.nil_append];exact bN) (fun _=>aX) ?_;rintro⟨tvb,pvb⟩ _;dsimp only[ax,List.cons_append,List.nil_append])|refine aN.nil FR ?_|refine aN.any FR ?_|exact aE.fin rfl|refine aE.skip FR ?_|refine aE.go ?_ ?_)
   by_cases he2:e2=0
   ·subst he2
    rw[if_neg FX]
    repeat'(first|refine ay ?_|(refine aY ?_ ?_<;>intro hc_))
    refine EI ?_
    repeat'(first|refine BX ?_|(refine cD.fe 45 ?_;refine cD.he rfl rfl (HE.aS (M0:=[]) k9.nil rfl rfl (fun w' hw'=>cK par (.slice q1 par.length d1) w' (hw'.get (p:=fun w=>eO ⟨par,res⟩ Dt w (.slice q1 par.length d1,.slice q2 res.length d2)) ao).1)) (fun _=>by dsimp only[List.cons_append,List.nil_append];exact bN) (fun _=>aX) ?_;intro upar_ _;dsimp only[List.cons_append,List.nil_append];refine cX.pure (φ:=∃p c,upar_=.slice p par.length c) (fun w' hw'=>?_) ?_;(·obtain⟨p,c,e,_⟩:=au (hw'.own (v:=upar_));exact⟨p,c,e⟩);rintro⟨ppar_,cpar_,rfl⟩)|(refine cD.fe 45 ?_;refine cD.he rfl rfl (HE.aS (M0:=[]) k9.nil rfl rfl (fun w' hw'=>cK res (.slice q2 res.length d2) w' (hw'.get (p:=fun w=>eO ⟨par,res⟩ Dt w (.slice q1 par.length d1,.slice q2 res.length d2)) ao).2)) (fun _=>by dsimp only[List.cons_append,List.nil_append];exact bN) (fun _=>aX) ?_;intro ures_ _;dsimp only[List.cons_append,List.nil_append];refine cX.pure (φ:=∃p c,ures_=.slice p res.length c) (fun w' hw'=>?_) ?_;(·obtain⟨p,c,e,_⟩:=au (hw'.own (v:=ures_));exact⟨p,c,e⟩);rintro⟨pres_,cres_,rfl⟩)|(refine cD.gR rfl (gI.aL _ rfl rfl rfl rfl rfl rfl bM rfl) ?_;rintro⟨⟩ _)|refine cX.any FR ?_|exact dK.fin rfl|refine dK.skip FR ?_|refine dK.go ?_ ?_)
    all_goals
     repeat'(first|refine ay ?_|(refine aY ?_ ?_<;>intro hc_))
     refine EJ ?_
     generalize (fun k=>(Value.slice ppar_ par.length cpar_).ownBlock=some k∨(Value.slice pres_ res.length cres_).ownBlock=some k)=D0
     refine EK ?_
     refine EL ?_
     refine jA ?_
     refine aM.BT (HE.aS (M0:=[.aH cp [.pointer (some ⟨sp,0,none⟩),.slice p c.fs.length cc,rv,.bool c.live,.int .i64 c.broken] fl,.aH sp [tvb,pvb,.bool (cE s2)] fH,.own 0 eV 1 tvb s2.ts.length (aR s2.ts),.own 0 fG 2 pvb s2.ps.length (bw s2.ps),.own 0 m8 5 (.slice p c.fs.length cc) c.fs.length (cH c.fs fv),.iy fg fg.fr (fun k=>D k∨D0 k) ((⟨par,res⟩,.slice ppar_ par.length cpar_,.slice pres_ res.length cres_)::L)]) cv rfl rfl (fun w' hw'=>jG cp {c with aF:=s2} ⟨sp,tvb,pvb,.slice p c.fs.length cc,rv,fv,fun k=>D k∨D0 k,(⟨par,res⟩,.slice ppar_ par.length cpar_,.slice pres_ res.length cres_)::L⟩ ⟨3,par,res,false,c.live⟩ (.slice ppar_ par.length cpar_,.slice pres_ res.length cres_) w' (hw'.bT cM (fun p h=>by cases h)) (hg.mono rfl rfl rfl rfl (fun _ h=>List.mem_cons_of_mem _ h)) List.mem_cons_self FP FP FP FP)) rfl ?_
     intro y hy
     repeat'(first|refine ay ?_|(refine aY ?_ ?_<;>intro hc_))
     exact mt
   ·rw[if_pos he2]
    repeat'(first|refine ay ?_|(refine aY ?_ ?_<;>intro hc_))
    refine EM ?_
    rintro⟨⟩ _
    dsimp only[List.cons_append,List.nil_append]
    repeat'(first|refine ay ?_|(refine aY ?_ ?_<;>intro hc_))
    exact em
  ·rw[if_pos rfl]at ha
   have hwf1:=dp hwf.aF [1]
   have hp1:=ec c.aF [1]
   have ht1:=dn c.aF [1]
   rw[ha]at hwf1 hp1 ht1
   dsimp only at hwf1 hp1 ht1
   have hp1l:s1.ps.length=c.aF.ps.length:=by rw[hp1]
   repeat'(first|refine ay ?_|refine oG ?_|(refine aY ?_ ?_<;>intro hc_))
   all_goals first|omega|skip
   refine aa.box [.slice q1 par.length d1,.slice q2 res.length d2] rfl rfl rfl fun b5=>?_
   repeat'(first|refine ay ?_|refine oG ?_|(refine aY ?_ ?_<;>intro hc_))
   all_goals first|omega|skip
   refine EC ?_
   intro b6 _
   refine aa.freeze (q:=.aH b6 [.int .i64 1] eV) (fun w=>af (fun k=>k=b6) w (.slice (some ⟨b6,0,none⟩) 1 1) [1]) gV (fun w' h _=>eQ h) ?_
   repeat'(first|refine ay ?_|(refine aY ?_ ?_<;>intro hc_))
   refine aa.he (HE.aS (M0:=[.aH sp [tv,pv,.bool (cE c.aF)] fH,.own 0 eV 1 tv c.aF.ts.length (aR c.aF.ts),.own 0 fG 2 pv c.aF.ps.length (bw c.aF.ps)]) cv rfl rfl (fun w' hw'=>by have:=dN (fun k=>k=b6) sp c.aF (tv,pv) _ [1] w' (hw'.bT cM aX) hwf.aF.some hat.1 hat.2;rw[ha]at this;exact this)) rfl ?_
   rintro⟨tva,pva⟩ _
   dsimp only[ax,List.cons_append,List.nil_append]
   by_cases hea:ea=0
   ·subst hea
    rw[if_neg FX]
    repeat'(first|refine ay ?_|(refine aY ?_ ?_<;>intro hc_))
    obtain⟨r,hr⟩:∃r,aO s1 par=r:=⟨_,rfl⟩
    obtain⟨s2,e2⟩:=r
    rw[hr]
    dsimp only
    have hs2w:=dp hwf1 par
    have hs2p:=ec s1 par
    have hs2t:=dn s1 par
    rw[hr]at hs2w hs2p hs2t
    dsimp only at hs2w hs2p hs2t
    have hs2l:s2.ps.length=(s1).ps.length:=by rw[hs2p]
    refine EH ?_
    repeat'(first|refine tx ?_|(refine aK.fe 85 ?_;refine aK.he rfl rfl (HE.aS (M0:=[.aH sp [tva,pva,.bool (cE s1)] fH,.own 0 eV 1 tva s1.ts.length (aR s1.ts),.own 0 fG 2 pva s1.ps.length (bw s1.ps)]) cv rfl rfl (fun w' hw'=>by have:=dN Dt sp s1 (tva,pva) (.slice q1 par.length d1) par w' ((hw'.kJ (p:=fun w=>af Dt w (.slice q1 par.length d1) par) (fun w2 h=>(h (fun w=>eO ⟨par,res⟩ Dt w (.slice q1 par.length d1,.slice q2 res.length d2)) ao).1)).bT cM aX) hwf1.some hwf1.at_.1 hwf1.at_.2;rw[hr]at this;exact this)) (fun _=>by dsimp only[ax,List.cons_append,List.nil_append];exact bN) (fun _=>aX) ?_;rintro⟨tvb,pvb⟩ _;dsimp only[ax,List.cons_append,List.nil_append])|refine aN.nil FR ?_|refine aN.any FR ?_|exact aE.fin rfl|refine aE.skip FR ?_|refine aE.go ?_ ?_)
    by_cases he2:e2=0
    ·subst he2
     rw[if_neg FX]
     repeat'(first|refine ay ?_|(refine aY ?_ ?_<;>intro hc_))
     refine EI ?_
     repeat'(first|refine BX ?_|(refine cD.fe 45 ?_;refine cD.he rfl rfl (HE.aS (M0:=[]) k9.nil rfl rfl (fun w' hw'=>cK par (.slice q1 par.length d1) w' (hw'.get (p:=fun w=>eO ⟨par,res⟩ Dt w (.slice q1 par.length d1,.slice q2 res.length d2)) ao).1)) (fun _=>by dsimp only[List.cons_append,List.nil_append];exact bN) (fun _=>aX) ?_;intro upar_ _;dsimp only[List.cons_append,List.nil_append];refine cX.pure (φ:=∃p c,upar_=.slice p par.length c) (fun w' hw'=>?_) ?_;(·obtain⟨p,c,e,_⟩:=au (hw'.own (v:=upar_));exact⟨p,c,e⟩);rintro⟨ppar_,cpar_,rfl⟩)|(refine cD.fe 45 ?_;refine cD.he rfl rfl (HE.aS (M0:=[]) k9.nil rfl rfl (fun w' hw'=>cK res (.slice q2 res.length d2) w' (hw'.get (p:=fun w=>eO ⟨par,res⟩ Dt w (.slice q1 par.length d1,.slice q2 res.length d2)) ao).2)) (fun _=>by dsimp only[List.cons_append,List.nil_append];exact bN) (fun _=>aX) ?_;intro ures_ _;dsimp only[List.cons_append,List.nil_append];refine cX.pure (φ:=∃p c,ures_=.slice p res.length c) (fun w' hw'=>?_) ?_;(·obtain⟨p,c,e,_⟩:=au (hw'.own (v:=ures_));exact⟨p,c,e⟩);rintro⟨pres_,cres_,rfl⟩)|(refine cD.gR rfl (gI.aL _ rfl rfl rfl rfl rfl rfl bM rfl) ?_;rintro⟨⟩ _)|refine cX.any FR ?_|exact dK.fin rfl|refine dK.skip FR ?_|refine dK.go ?_ ?_)
     all_goals
      repeat'(first|refine ay ?_|(refine aY ?_ ?_<;>intro hc_))
      refine EJ ?_
      generalize (fun k=>(Value.slice ppar_ par.length cpar_).ownBlock=some k∨(Value.slice pres_ res.length cres_).ownBlock=some k)=D0
      refine EK ?_
      refine EL ?_
      refine jA ?_
      refine aM.BT (HE.aS (M0:=[.aH cp [.pointer (some ⟨sp,0,none⟩),.slice p c.fs.length cc,rv,.bool c.live,.int .i64 c.broken] fl,.aH sp [tvb,pvb,.bool (cE s2)] fH,.own 0 eV 1 tvb s2.ts.length (aR s2.ts),.own 0 fG 2 pvb s2.ps.length (bw s2.ps),.own 0 m8 5 (.slice p c.fs.length cc) c.fs.length (cH c.fs fv),.iy fg fg.fr (fun k=>D k∨D0 k) ((⟨par,res⟩,.slice ppar_ par.length cpar_,.slice pres_ res.length cres_)::L)]) cv rfl rfl (fun w' hw'=>jG cp {c with aF:=s2} ⟨sp,tvb,pvb,.slice p c.fs.length cc,rv,fv,fun k=>D k∨D0 k,(⟨par,res⟩,.slice ppar_ par.length cpar_,.slice pres_ res.length cres_)::L⟩ ⟨4,par,res,false,c.live⟩ (.slice ppar_ par.length cpar_,.slice pres_ res.length cres_) w' (hw'.bT cM (fun p h=>by cases h)) (hg.mono rfl rfl rfl rfl (fun _ h=>List.mem_cons_of_mem _ h)) List.mem_cons_self FP FP FP FP)) rfl ?_
      intro y hy
      repeat'(first|refine ay ?_|(refine aY ?_ ?_<;>intro hc_))
      exact mt
    ·rw[if_pos he2]
     repeat'(first|refine ay ?_|(refine aY ?_ ?_<;>intro hc_))
     refine EM ?_
     rintro⟨⟩ _
     dsimp only[List.cons_append,List.nil_append]
     repeat'(first|refine ay ?_|(refine aY ?_ ?_<;>intro hc_))
     exact em
   ·rw[if_pos hea]
    repeat'(first|refine ay ?_|(refine aY ?_ ?_<;>intro hc_))
    refine aa.he (HE.aS (M0:=[.aH cp [.pointer (some ⟨sp,0,none⟩),.slice p c.fs.length cc,rv,.bool c.live,.int .i64 c.broken] fl]) cv rfl rfl (fun w' hw'=>fA cp _ _ _ _ _ ea w' (hw'.bT cM (fun p h=>by cases h)))) rfl ?_
    rintro⟨⟩ _
    dsimp only[List.cons_append,List.nil_append]
    repeat'(first|refine ay ?_|(refine aY ?_ ?_<;>intro hc_))
    exact ai.aA rfl rfl fun w' hw'=>ar.err ea rfl hea hS hw' ao
end Go.Proofs.YtceedealggognaaGreatDoor
