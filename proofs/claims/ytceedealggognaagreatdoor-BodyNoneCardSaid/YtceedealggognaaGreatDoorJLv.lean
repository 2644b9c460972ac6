/- types.SameVals and the same of two rows of types. -/
import Derived.Test.YtceedealggognaaGreatDoorJRy
namespace Go.Proofs.YtceedealggognaaGreatDoor
open Go.RowKit
set_option maxRecDepth 100000
set_option maxHeartbeats 8000000 in
theorem ux (F F':Nat→Prop) (xs ys:List Int) (v u:Value) (w:World) (h:af F w v xs) (h':af F' w u ys):Calls G.P 135 #[v,u] w fun e w'=>e=.returned (.bool (decide (xs=ys)))∧Ext w w':=by
 obtain⟨p,c,rfl,hl⟩:=h.slice
 obtain⟨q,d,rfl,hl'⟩:=h'.slice
 refine aj (l:=[_,_]) Tryz.func135 rfl Tryz.ntmps135 rfl (Ok.start w) ?_
 by_cases hlen:xs.length=ys.length
 ·repeat'(first|refine ay ?_|fail)
  refine aP.loop (σ:=Nat) (fun j=>[(0,.slice p xs.length c),(1,.slice q ys.length d),(12,.slice p xs.length c),(13,.int .i64 xs.length),(14,.int .i64 j)]) (fun _=>[]) (fun _=>[Ext w]) (fun j=>j≤xs.length∧xs.take j=ys.take j) (fun j=>xs.length - j) 0 bP bN aX ⟨by omega,by simp⟩ ?_
  rintro j ⟨hj,heq⟩
  by_cases hjl:j<xs.length
  ·obtain⟨b7,o7,rfl,-,hc⟩:=h.at hjl
   obtain⟨b8,o8,rfl,-,hc'⟩:=h'.at (show j<ys.length by omega)
   have hcj:=hc j hjl
   have hcj':=hc' j FY
   have hst:=qs hjl (show j<ys.length by omega) heq
   by_cases he:ix xs j=ix ys j
   ·repeat'(first|refine ay ?_|fail)
    all_goals exact ai.next (j+1) bP bN aX ⟨by omega,hst.2 he⟩ FY
   ·repeat'(first|refine ay ?_|fail)
    all_goals exact ai.aA rfl rfl fun w' hw'=>⟨by rw[decide_eq_false];intro e;exact he (by rw[e]),hw'.at⟩
  ·obtain rfl:j=xs.length:=by omega
   rw[List.take_length,hlen,List.take_length]at heq
   repeat'(first|refine ay ?_|fail)
   all_goals exact am
 ·repeat'(first|refine ay ?_|fail)
  all_goals exact ap
theorem pd (F F':Nat→Prop) (xs ys:List Int) (v u:Value) (w:World) (h:af F w v xs) (h':af F' w u ys):Calls G.P 90 #[v,u] w fun e w'=>e=.returned (.bool (decide (xs=ys)))∧Ext w w':=by
 have hs:∀w',Ext w w'→Calls G.P 135 #[v,u] w' fun e w2=>e=.returned (.bool (decide (xs=ys)))∧Ext w' w2:=fun w' hx=>ux F F' xs ys v u w' (h.aB hx (fun _ _ _ h=>h)) (h'.aB hx (fun _ _ _ h=>h))
 refine aj (l:=[_,_]) Tryz.func90 rfl Tryz.ntmps90 rfl (Ok.start w) ?_
 repeat'(first|refine ay ?_|(refine aa.ak (f:=135) ?_;refine aa.az rfl rfl rfl (fun w' hw'=>hs w' hw'.at) ?_)|fail)
 all_goals exact bi
theorem vS (c:dq) (hb:c.broken=0):jL c=if c.fs.length=0 then(c,16)else if(dv c.aF c.top.res).2≠0 then({c with broken:=(dv c.aF c.top.res).2},(dv c.aF c.top.res).2)else if c.top.kind=4∧c.top.other=false∧c.top.par≠c.top.res then({c with aF:=(dv c.aF c.top.res).1,fs:=c.fs.take (c.fs.length - 1),broken:=12},12)else({c with aF:=fO (dv c.aF c.top.res).1 c.top.res,fs:=c.fs.take (c.fs.length - 1),live:=c.top.yu},0):=by
 unfold jL;rw[if_neg FY]
set_option maxHeartbeats 32000000 in
theorem tH (cp:Nat) (c:dq) (v:fJ) (w:World) (hw:Ok (aw cp c v) [] w) (hg:v.Good c) (hb:c.broken=0) (hwf:c.Wf) (hfl:c.fs.length≤1000) (hts:(c.aF.ts.length+c.top.res.length)*8≤140737488355328):
  Calls G.P 55 #[.pointer (some ⟨cp,0,none⟩)] w (ar (aw cp c v) cp (jL c) w):=by
 obtain⟨sp,tv,pv,bv,rv,fv,D,L⟩:=v
 have hrd:=hw.uM (List.Sublist.refl _)
 obtain⟨p,cc,e,hcp,hmx,hgg⟩:=au hrd.o
 dsimp only at e
 subst e
 unfold maxLen at hmx
 have hat:=hwf.aF.at_
 have hps:=hwf.aF.some
 have hmany:=hwf.many
 rw[vS c hb]
 refine aj (l:=[_]) Tryz.func55 rfl Tryz.ntmps55 rfl (Ok.bV hw) ?_
 by_cases h0:c.fs.length=0
 ·rw[if_pos h0]
  generalize hS:Mb (aw cp c ⟨sp,tv,pv,.slice p c.fs.length cc,rv,fv,D,L⟩)=S0
  dsimp only[aw,ax,List.cons_append,List.nil_append]
  repeat'(first|refine ay ?_|refine Fe ?_|fail)
  all_goals exact ci
 ·rw[if_neg h0]
  obtain⟨g,rfl,-⟩:=hgg FY
  have hi:c.fs.length - 1<c.fs.length:=by omega
  have hin:((ix c.fs (c.fs.length - 1)).fn,ix fv (c.fs.length - 1))∈L:=hg.fr _ hi
  obtain⟨q1,d1,q2,d2,hx⟩:=(hrd.l _ hin).A3
  have hc5:∀j,j<5→(cH c.fs fv)[0+(c.fs.length - 1)*5+j]?=(eH (ix c.fs (c.fs.length - 1)) (ix fv (c.fs.length - 1)))[j]?:=fun j hj=>by rw[Nat.zero_add];exact jl c.fs fv (c.fs.length - 1) j hg.len hi hj
  dsimp only at hx hin
  rw[hx]at hc5 hin
  have htop:c.top=ix c.fs (c.fs.length - 1):=rfl
  rw[←htop]at hc5 hin hx
  have hpe:(ix fv (c.fs.length - 1))=(.slice q1 c.top.par.length d1,.slice q2 c.top.res.length d2):=hx
  generalize hf:c.top=f at*
  dsimp only[eH]at hc5
  obtain⟨o5,hoff⟩:∃o5,0+(c.fs.length - 1)*5=o5:=⟨_,rfl⟩
  rw[hoff]at hc5
  have f0:(cH c.fs fv)[o5]?=some (.int .i64 f.kind):=hc5 0 FY
  have f2:(cH c.fs fv)[o5+1+1]?=some (.slice q2 f.res.length d2):=hc5 2 FY
  have f3:(cH c.fs fv)[o5+3]?=some (.bool f.other):=hc5 3 FY
  generalize hS:Mb (aw cp c ⟨sp,tv,pv,.slice (some ⟨g,0,none⟩) c.fs.length cc,rv,fv,D,L⟩)=S0
  dsimp only[aw,ax,List.cons_append,List.nil_append]
  obtain⟨r,hr⟩:∃r,dv c.aF f.res=r:=⟨_,rfl⟩
  obtain⟨s2,e2⟩:=r
  have hs2p:=sV c.aF f.res FY
  have hs2t:=mh c.aF f.res
  rw[hr]at hs2p hs2t ⊢
  dsimp only at hs2p hs2t ⊢
  repeat'(first|refine ay ?_|refine Fe ?_|(refine aa.bW ?_;refine aa.yg (by first|rfl|fail) (Yl.fB rfl rfl rfl rfl f0 gG) rfl ?_)|(refine aa.bW ?_;refine aa.yg (by first|rfl|fail) (Yl.fB rfl rfl rfl rfl f3 gG) rfl ?_)|fail)
  all_goals first|omega|skip
  refine rd ?_
  repeat'(first|refine tx ?_|(refine aN.qy 10 rfl (Yl.idx (i:=c.fs.length - 1) rfl rfl rfl rfl rfl FY FY) ?_;rw[hoff])|refine aN.qy 13 rfl (Yl.fB rfl rfl rfl rfl f2 gG) ?_|(refine aK.fe 88 ?_;refine aK.he rfl rfl (HE.aS (M0:=[.aH sp [tv,pv,.bool (cE c.aF)] fH,.own 0 eV 1 tv c.aF.ts.length (aR c.aF.ts),.own 0 fG 2 pv c.aF.ps.length (bw c.aF.ps)]) cv rfl rfl (fun w' hw'=>by have:=oY D sp c.aF (tv,pv) (.slice q2 f.res.length d2) f.res w' ((hw'.jI (q:=.iy fg fg.fr D L) (p:=fun w=>af D w (.slice q2 f.res.length d2) f.res) gV (fun w' h _=>(h _ hin).2)).bT cM aX) FY hat.1 hat.2;rw[hr]at this;exact this)) (fun _=>by dsimp only[ax,List.cons_append,List.nil_append];exact bN) (fun _=>aX) ?_;rintro⟨tvb,pvb⟩ _;dsimp only[ax,List.cons_append,List.nil_append])|refine aN.nil FR ?_|refine aN.any FR ?_|exact aE.fin rfl|refine aE.skip FR ?_|refine aE.go ?_ ?_)
  by_cases he2:e2=0
  ·subst he2
   obtain⟨hs2p,hs2q⟩:=hs2p rfl
   rw[if_neg FX]
   repeat'(first|refine ay ?_|fail)
   refine aa.he (HE.aS (M0:=[.aH cp [.pointer (some ⟨sp,0,none⟩),.slice (some ⟨g,0,none⟩) c.fs.length cc,rv,.bool c.live,.int .i64 c.broken] fl,.aH sp [tvb,pvb,.bool (cE s2)] fH,.own 0 eV 1 tvb s2.ts.length (aR s2.ts),.own 0 fG 2 pvb s2.ps.length (bw s2.ps),.own 0 m8 5 (.slice (some ⟨g,0,none⟩) c.fs.length cc) c.fs.length (cH c.fs fv),.iy fg fg.fr D L]) cv rfl rfl (fun w' hw'=>sm cp {c with aF:=s2} ⟨sp,tvb,pvb,.slice (some ⟨g,0,none⟩) c.fs.length cc,rv,fv,D,L⟩ w' (hw'.bT cM (fun p h=>by cases h)) (hg.mono rfl rfl rfl rfl (fun _ h=>h)) FP FP)) rfl ?_
   intro bv2 _
   dsimp only[aw,ax,List.cons_append,List.nil_append]
   rw[show dq.top {c with aF:=s2}=f from hf,hpe]
   dsimp only[eH]
   refine aa.alloc (t:=m8) [.int .i64 0,.slice none 0 0,.slice none 0 0,.bool false,.bool false] rfl rfl rfl fun b6=>?_
   have hsv:∀w',eO f.fn D w' (.slice q1 f.par.length d1,.slice q2 f.res.length d2)→Calls G.P 90 #[.slice q1 f.par.length d1,.slice q2 f.res.length d2] w' fun e w2=>e=.returned (.bool (decide (f.par=f.res)))∧Ext w' w2:=fun w' h=>pd D D f.par f.res _ _ w' h.1 h.2
   by_cases hK:f.kind=4∧f.other=false
   ·obtain⟨hk4,hot⟩:=hK
    by_cases hpr:f.par=f.res
    ·rw[if_neg (by rintro⟨_,_,h⟩;exact h hpr),hk4,hot]
     rw[decide_eq_true hpr]at hsv
     repeat'(first|refine ay ?_|refine Ff ?_|fail)
     refine aP.du [.aH b6 [.int .i64 4,.slice q1 f.par.length d1,.slice q2 f.res.length d2,.bool false,.bool f.yu] m8,.aH cp [.pointer (some ⟨sp,0,none⟩),bv2,rv,.bool c.live,.int .i64 c.broken] fl] [] bN aX ?_
     repeat'(first|refine tx ?_|(refine aK.fe 91 ?_;refine aK.he rfl rfl (HE.aS (M0:=[.aH sp [tvb,pvb,.bool (cE s2)] fH,.own 0 eV 1 tvb s2.ts.length (aR s2.ts),.own 0 fG 2 pvb s2.ps.length (bw s2.ps)]) cv rfl rfl (fun w' hw'=>eo D sp s2 (tvb,pvb) (.slice q2 f.res.length d2) f.res w' ((hw'.jI (q:=.iy fg fg.fr D L) (p:=fun w=>af D w (.slice q2 f.res.length d2) f.res) gV (fun w' h _=>(h _ hin).2)).bT cM aX) hs2p FY)) (fun _=>by dsimp only[ax,List.cons_append,List.nil_append];exact bN) (fun _=>aX) ?_;rintro⟨tvc,pvc⟩ _;dsimp only[ax,List.cons_append,List.nil_append])|refine aN.nil FR ?_|refine aN.any FR ?_|exact aE.fin rfl|refine aE.skip FR ?_|refine aE.go ?_ ?_)
     repeat'(first|refine ay ?_|fail)
     exact dl
    ·rw[if_pos ⟨hk4,hot,hpr⟩,hk4,hot]
     rw[decide_eq_false hpr]at hsv
     repeat'(first|refine ay ?_|refine Ff ?_|fail)
     refine aa.he (HE.aS (M0:=[.aH cp [.pointer (some ⟨sp,0,none⟩),bv2,rv,.bool c.live,.int .i64 c.broken] fl]) cv rfl rfl (fun w' hw'=>fA cp _ _ _ _ _ 12 w' (hw'.bT cM (fun p h=>by cases h)))) rfl ?_
     rintro⟨⟩ _
     dsimp only[List.cons_append,List.nil_append]
     repeat'(first|refine ay ?_|fail)
     exact ai.aA rfl rfl fun w' hw'=>ar.err 12 rfl FX hS hw' ao
   ·rw[if_neg (by rintro⟨h1,h2,_⟩;exact hK ⟨h1,h2⟩)]
    by_cases hk4:f.kind=4
    ·have hot:f.other=true:=by cases hb2:f.other<;>simp_all
     rw[hk4,hot]
     repeat'(first|refine ay ?_|refine Ff ?_|fail)
     refine aP.du [.aH b6 [.int .i64 4,.slice q1 f.par.length d1,.slice q2 f.res.length d2,.bool true,.bool f.yu] m8,.aH cp [.pointer (some ⟨sp,0,none⟩),bv2,rv,.bool c.live,.int .i64 c.broken] fl] [] bN aX ?_
     repeat'(first|refine tx ?_|(refine aK.fe 91 ?_;refine aK.he rfl rfl (HE.aS (M0:=[.aH sp [tvb,pvb,.bool (cE s2)] fH,.own 0 eV 1 tvb s2.ts.length (aR s2.ts),.own 0 fG 2 pvb s2.ps.length (bw s2.ps)]) cv rfl rfl (fun w' hw'=>eo D sp s2 (tvb,pvb) (.slice q2 f.res.length d2) f.res w' ((hw'.jI (q:=.iy fg fg.fr D L) (p:=fun w=>af D w (.slice q2 f.res.length d2) f.res) gV (fun w' h _=>(h _ hin).2)).bT cM aX) hs2p FY)) (fun _=>by dsimp only[ax,List.cons_append,List.nil_append];exact bN) (fun _=>aX) ?_;rintro⟨tvc,pvc⟩ _;dsimp only[ax,List.cons_append,List.nil_append])|refine aN.nil FR ?_|refine aN.any FR ?_|exact aE.fin rfl|refine aE.skip FR ?_|refine aE.go ?_ ?_)
     repeat'(first|refine ay ?_|fail)
     exact dl
    ·repeat'(first|refine ay ?_|refine Ff ?_|fail)
     refine aP.du [.aH b6 [.int .i64 f.kind,.slice q1 f.par.length d1,.slice q2 f.res.length d2,.bool f.other,.bool f.yu] m8,.aH cp [.pointer (some ⟨sp,0,none⟩),bv2,rv,.bool c.live,.int .i64 c.broken] fl] [] bN aX ?_
     repeat'(first|refine tx ?_|(refine aK.fe 91 ?_;refine aK.he rfl rfl (HE.aS (M0:=[.aH sp [tvb,pvb,.bool (cE s2)] fH,.own 0 eV 1 tvb s2.ts.length (aR s2.ts),.own 0 fG 2 pvb s2.ps.length (bw s2.ps)]) cv rfl rfl (fun w' hw'=>eo D sp s2 (tvb,pvb) (.slice q2 f.res.length d2) f.res w' ((hw'.jI (q:=.iy fg fg.fr D L) (p:=fun w=>af D w (.slice q2 f.res.length d2) f.res) gV (fun w' h _=>(h _ hin).2)).bT cM aX) hs2p FY)) (fun _=>by dsimp only[ax,List.cons_append,List.nil_append];exact bN) (fun _=>aX) ?_;rintro⟨tvc,pvc⟩ _;dsimp only[ax,List.cons_append,List.nil_append])|refine aN.nil FR ?_|refine aN.any FR ?_|exact aE.fin rfl|refine aE.skip FR ?_|refine aE.go ?_ ?_)
     repeat'(first|refine ay ?_|fail)
     exact dl
  ·rw[if_pos he2]
   repeat'(first|refine ay ?_|fail)
   refine rg ?_
   rintro⟨⟩ _
   dsimp only[List.cons_append,List.nil_append]
   repeat'(first|refine ay ?_|fail)
   exact em
end Go.Proofs.YtceedealggognaaGreatDoor
