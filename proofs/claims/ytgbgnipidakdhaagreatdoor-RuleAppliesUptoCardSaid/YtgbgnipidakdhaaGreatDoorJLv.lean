/- The control frames (layer 22): Leave. -/
import Derived.Test.YtgbgnipidakdhaaGreatDoorJRw
namespace Go.Proofs.YtgbgnipidakdhaaGreatDoor
open Go.RowKit
set_option maxRecDepth 100000
theorem AW (c:di) (hb:c.broken=0):jj c=if c.fs.length=0 then(c,16)else if(cw c.ao c.top.res).2≠0 then({c with broken:=(cw c.ao c.top.res).2},(cw c.ao c.top.res).2)else if c.top.kind=4∧c.top.other=false∧c.top.par≠c.top.res then({c with ao:=(cw c.ao c.top.res).1,fs:=c.fs.take (c.fs.length - 1),broken:=12},12)else({c with ao:=aJ (cw c.ao c.top.res).1 c.top.res,fs:=c.fs.take (c.fs.length - 1),live:=c.top.kf},0):=by
 unfold jj;rw[if_neg Mj]
set_option maxHeartbeats 32000000 in
theorem zB (cp:Nat) (c:di) (v:iY) (w:World) (hw:Ok (aQ cp c v) [] w) (hg:v.Good c) (hb:c.broken=0) (hwf:c.Wf) (hfl:c.fs.length≤1000) (hts:(c.ao.ts.length+c.top.res.length)*8≤140737488355328):
  Calls G.P 45 #[.pointer (some ⟨cp,0,none⟩)] w (aD (aQ cp c v) cp (jj c) w):=by
 obtain⟨sp,tv,pv,bv,rv,fv,D,L⟩:=v
 have hrd:=hw.zS (List.Sublist.refl _)
 obtain⟨p,cc,e,hcp,hmx,hgg⟩:=ax hrd.o
 dsimp only at e
 subst e
 unfold maxLen at hmx
 have hat:=hwf.ao.at_
 have hps:=hwf.ao.some
 have hmany:=hwf.many
 rw[AW c hb]
 refine ae (l:=[_]) Tryz.func45 rfl Tryz.ntmps45 rfl (Ok.dj hw) ?_
 by_cases h0:c.fs.length=0
 ·rw[if_pos h0]
  generalize hS:Mb (aQ cp c ⟨sp,tv,pv,.slice p c.fs.length cc,rv,fv,D,L⟩)=S0
  dsimp only[aQ,aS,List.cons_append,List.nil_append]
  repeat'(first|refine ar ?_|refine KX ?_|fail)
  all_goals exact i6
 ·rw[if_neg h0]
  obtain⟨g,rfl,-⟩:=hgg Mj
  have hi:c.fs.length - 1<c.fs.length:=by omega
  have hin:((ix c.fs (c.fs.length - 1)).fn,ix fv (c.fs.length - 1))∈L:=hg.fr _ hi
  obtain⟨q1,d1,q2,d2,hx⟩:=(hrd.l _ hin).fP
  have hc5:∀j,j<5→(dL c.fs fv)[0+(c.fs.length - 1)*5+j]?=(gN (ix c.fs (c.fs.length - 1)) (ix fv (c.fs.length - 1)))[j]?:=fun j hj=>by rw[Nat.zero_add];exact kX c.fs fv (c.fs.length - 1) j hg.len hi hj
  dsimp only at hx hin
  rw[hx]at hc5 hin
  have htop:c.top=ix c.fs (c.fs.length - 1):=rfl
  rw[←htop]at hc5 hin hx
  have hpe:(ix fv (c.fs.length - 1))=(.slice q1 c.top.par.length d1,.slice q2 c.top.res.length d2):=hx
  generalize hf:c.top=f at*
  dsimp only[gN]at hc5
  obtain⟨o5,hoff⟩:∃o5,0+(c.fs.length - 1)*5=o5:=⟨_,rfl⟩
  rw[hoff]at hc5
  have f0:(dL c.fs fv)[o5]?=some (.int .i64 f.kind):=hc5 0 Mj
  have f2:(dL c.fs fv)[o5+1+1]?=some (.slice q2 f.res.length d2):=hc5 2 Mj
  have f3:(dL c.fs fv)[o5+3]?=some (.bool f.other):=hc5 3 Mj
  generalize hS:Mb (aQ cp c ⟨sp,tv,pv,.slice (some ⟨g,0,none⟩) c.fs.length cc,rv,fv,D,L⟩)=S0
  dsimp only[aQ,aS,List.cons_append,List.nil_append]
  obtain⟨r,hr⟩:∃r,cw c.ao f.res=r:=⟨_,rfl⟩
  obtain⟨s2,e2⟩:=r
  have hs2p:=rk c.ao f.res Mj
  have hs2t:=kW c.ao f.res
  rw[hr]at hs2p hs2t ⊢
  dsimp only at hs2p hs2t ⊢
  repeat'(first|refine ar ?_|refine KX ?_|(refine aa.dk ?_;refine aa.yg LV (Yl.iD rfl rfl rfl rfl f0 bG) rfl ?_)|(refine aa.dk ?_;refine aa.yg LV (Yl.iD rfl rfl rfl rfl f3 bG) rfl ?_)|fail)
  all_goals first|omega|skip
  refine JK ?_
  repeat'(first|refine og ?_|(refine aP.qy 10 rfl (Yl.idx (i:=c.fs.length - 1) rfl rfl rfl rfl rfl Mj Mj) ?_;rw[hoff])|refine aP.qy 13 rfl (Yl.iD rfl rfl rfl rfl f2 bG) ?_|(refine av.ep 107 ?_;refine av.he rfl rfl (HE.bC (M0:=[.aT sp [tv,pv,.bool (eN c.ao)] iN,.own 0 fY 1 tv c.ao.ts.length (aX c.ao.ts),.own 0 iO 2 pv c.ao.ps.length (bO c.ao.ps)]) dt rfl rfl (fun w' hw'=>by have:=sO D sp c.ao (tv,pv) (.slice q2 f.res.length d2) f.res w' ((hw'.kB (q:=.j8 iu iu.fr D L) (p:=fun w=>af D w (.slice q2 f.res.length d2) f.res) je (fun w' h _=>(h _ hin).2)).cF dM aV) Mj hat.1 hat.2;rw[hr]at this;exact this)) (fun _=>by dsimp only[aS,List.cons_append,List.nil_append];exact bc) (fun _=>aV) ?_;rintro⟨tvb,pvb⟩ _;dsimp only[aS,List.cons_append,List.nil_append])|refine aP.nil LX ?_|refine aP.any LX ?_|exact aN.fin rfl|refine aN.skip LX ?_|refine aN.go ?_ ?_)
  by_cases he2:e2=0
  ·subst he2
   obtain⟨hs2p,hs2q⟩:=hs2p rfl
   rw[if_neg Mh]
   repeat'(first|refine ar ?_|fail)
   refine aa.he (HE.bC (M0:=[.aT cp [.pointer (some ⟨sp,0,none⟩),.slice (some ⟨g,0,none⟩) c.fs.length cc,rv,.bool c.live,.int .i64 c.broken] iz,.aT sp [tvb,pvb,.bool (eN s2)] iN,.own 0 fY 1 tvb s2.ts.length (aX s2.ts),.own 0 iO 2 pvb s2.ps.length (bO s2.ps),.own 0 ym 5 (.slice (some ⟨g,0,none⟩) c.fs.length cc) c.fs.length (dL c.fs fv),.j8 iu iu.fr D L]) dt rfl rfl (fun w' hw'=>w7 cp {c with ao:=s2} ⟨sp,tvb,pvb,.slice (some ⟨g,0,none⟩) c.fs.length cc,rv,fv,D,L⟩ w' (hw'.cF dM (fun p h=>by cases h)) (hg.mono rfl rfl rfl rfl (fun _ h=>h)) LT LT)) rfl ?_
   intro bv2 _
   dsimp only[aQ,aS,List.cons_append,List.nil_append]
   rw[show di.top {c with ao:=s2}=f from hf,hpe]
   dsimp only[gN]
   refine aa.alloc (t:=ym) [.int .i64 0,.slice none 0 0,.slice none 0 0,.bool false,.bool false] rfl rfl rfl fun b6=>?_
   have hsv:∀w',dr f.fn D w' (.slice q1 f.par.length d1,.slice q2 f.res.length d2)→Calls G.P 109 #[.slice q1 f.par.length d1,.slice q2 f.res.length d2] w' fun e w2=>e=.returned (.bool (decide (f.par=f.res)))∧Ext w' w2:=fun w' h=>qW D D f.par f.res _ _ w' h.1 h.2
   by_cases hK:f.kind=4∧f.other=false
   ·obtain⟨hk4,hot⟩:=hK
    by_cases hpr:f.par=f.res
    ·rw[if_neg (by rintro⟨_,_,h⟩;exact h hpr),hk4,hot]
     rw[decide_eq_true hpr]at hsv
     repeat'(first|refine ar ?_|refine KY ?_|fail)
     refine aZ.cT [.aT b6 [.int .i64 4,.slice q1 f.par.length d1,.slice q2 f.res.length d2,.bool false,.bool f.kf] ym,.aT cp [.pointer (some ⟨sp,0,none⟩),bv2,rv,.bool c.live,.int .i64 c.broken] iz] [] bc aV ?_
     repeat'(first|refine og ?_|(refine av.ep 24 ?_;refine av.he rfl rfl (HE.bC (M0:=[.aT sp [tvb,pvb,.bool (eN s2)] iN,.own 0 fY 1 tvb s2.ts.length (aX s2.ts),.own 0 iO 2 pvb s2.ps.length (bO s2.ps)]) dt rfl rfl (fun w' hw'=>fH D sp s2 (tvb,pvb) (.slice q2 f.res.length d2) f.res w' ((hw'.kB (q:=.j8 iu iu.fr D L) (p:=fun w=>af D w (.slice q2 f.res.length d2) f.res) je (fun w' h _=>(h _ hin).2)).cF dM aV) hs2p Mj)) (fun _=>by dsimp only[aS,List.cons_append,List.nil_append];exact bc) (fun _=>aV) ?_;rintro⟨tvc,pvc⟩ _;dsimp only[aS,List.cons_append,List.nil_append])|refine aP.nil LX ?_|refine aP.any LX ?_|exact aN.fin rfl|refine aN.skip LX ?_|refine aN.go ?_ ?_)
     repeat'(first|refine ar ?_|fail)
     exact i7
    ·rw[if_pos ⟨hk4,hot,hpr⟩,hk4,hot]
     rw[decide_eq_false hpr]at hsv
     repeat'(first|refine ar ?_|refine KY ?_|fail)
     refine aa.he (HE.bC (M0:=[.aT cp [.pointer (some ⟨sp,0,none⟩),bv2,rv,.bool c.live,.int .i64 c.broken] iz]) dt rfl rfl (fun w' hw'=>iF cp _ _ _ _ _ 12 w' (hw'.cF dM (fun p h=>by cases h)))) rfl ?_
     rintro⟨⟩ _
     dsimp only[List.cons_append,List.nil_append]
     repeat'(first|refine ar ?_|fail)
     exact ah.aB rfl rfl fun w' hw'=>aD.err 12 rfl Mh hS hw' ak
   ·rw[if_neg (by rintro⟨h1,h2,_⟩;exact hK ⟨h1,h2⟩)]
    by_cases hk4:f.kind=4
    ·have hot:f.other=true:=by cases hb2:f.other<;>simp_all
     rw[hk4,hot]
     repeat'(first|refine ar ?_|refine KY ?_|fail)
     refine aZ.cT [.aT b6 [.int .i64 4,.slice q1 f.par.length d1,.slice q2 f.res.length d2,.bool true,.bool f.kf] ym,.aT cp [.pointer (some ⟨sp,0,none⟩),bv2,rv,.bool c.live,.int .i64 c.broken] iz] [] bc aV ?_
     repeat'(first|refine og ?_|(refine av.ep 24 ?_;refine av.he rfl rfl (HE.bC (M0:=[.aT sp [tvb,pvb,.bool (eN s2)] iN,.own 0 fY 1 tvb s2.ts.length (aX s2.ts),.own 0 iO 2 pvb s2.ps.length (bO s2.ps)]) dt rfl rfl (fun w' hw'=>fH D sp s2 (tvb,pvb) (.slice q2 f.res.length d2) f.res w' ((hw'.kB (q:=.j8 iu iu.fr D L) (p:=fun w=>af D w (.slice q2 f.res.length d2) f.res) je (fun w' h _=>(h _ hin).2)).cF dM aV) hs2p Mj)) (fun _=>by dsimp only[aS,List.cons_append,List.nil_append];exact bc) (fun _=>aV) ?_;rintro⟨tvc,pvc⟩ _;dsimp only[aS,List.cons_append,List.nil_append])|refine aP.nil LX ?_|refine aP.any LX ?_|exact aN.fin rfl|refine aN.skip LX ?_|refine aN.go ?_ ?_)
     repeat'(first|refine ar ?_|fail)
     exact i7
    ·repeat'(first|refine ar ?_|refine KY ?_|fail)
     refine aZ.cT [.aT b6 [.int .i64 f.kind,.slice q1 f.par.length d1,.slice q2 f.res.length d2,.bool f.other,.bool f.kf] ym,.aT cp [.pointer (some ⟨sp,0,none⟩),bv2,rv,.bool c.live,.int .i64 c.broken] iz] [] bc aV ?_
     repeat'(first|refine og ?_|(refine av.ep 24 ?_;refine av.he rfl rfl (HE.bC (M0:=[.aT sp [tvb,pvb,.bool (eN s2)] iN,.own 0 fY 1 tvb s2.ts.length (aX s2.ts),.own 0 iO 2 pvb s2.ps.length (bO s2.ps)]) dt rfl rfl (fun w' hw'=>fH D sp s2 (tvb,pvb) (.slice q2 f.res.length d2) f.res w' ((hw'.kB (q:=.j8 iu iu.fr D L) (p:=fun w=>af D w (.slice q2 f.res.length d2) f.res) je (fun w' h _=>(h _ hin).2)).cF dM aV) hs2p Mj)) (fun _=>by dsimp only[aS,List.cons_append,List.nil_append];exact bc) (fun _=>aV) ?_;rintro⟨tvc,pvc⟩ _;dsimp only[aS,List.cons_append,List.nil_append])|refine aP.nil LX ?_|refine aP.any LX ?_|exact aN.fin rfl|refine aN.skip LX ?_|refine aN.go ?_ ?_)
     repeat'(first|refine ar ?_|fail)
     exact i7
  ·rw[if_pos he2]
   repeat'(first|refine ar ?_|fail)
   refine JL ?_
   rintro⟨⟩ _
   dsimp only[List.cons_append,List.nil_append]
   repeat'(first|refine ar ?_|fail)
   exact i8
end Go.Proofs.YtgbgnipidakdhaaGreatDoor
