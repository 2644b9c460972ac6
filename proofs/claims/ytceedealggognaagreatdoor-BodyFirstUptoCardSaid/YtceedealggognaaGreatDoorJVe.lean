/- The reference's operand stack (layer 21): Same, New, Open, Loose. -/
import Derived.Test.YtceedealggognaaGreatDoorJEl
import Derived.Test.YtceedealggognaaGreatDoorJWd
namespace Go.Proofs.YtceedealggognaaGreatDoor
open Go.RowKit
set_option maxRecDepth 100000
theorem ri {xs ys:List Int} {j:Nat} (hx:j<xs.length) (hy:j<ys.length) (h:xs.take j=ys.take j):xs.take (j+1)=ys.take (j+1)↔ix xs j=ix ys j:=by
 rw[bu hx,bu hy,h]
 constructor
 ·intro h;simpa using h
 ·intro h;rw[h]
set_option maxHeartbeats 8000000 in
theorem pw (F F':Nat→Prop) (xs ys:List Int) (v u:Value) (w:World) (h:af F w v xs) (h':af F' w u ys):Calls G.P 18 #[v,u] w fun e w'=>e=.returned (.bool (decide (xs=ys)))∧Ext w w':=by
 obtain⟨p,c,rfl,hl⟩:=h.slice
 obtain⟨q,d,rfl,hl'⟩:=h'.slice
 refine aj (l:=[_,_]) Tryz.func18 rfl Tryz.ntmps18 rfl (Ok.start w) ?_
 by_cases hlen:xs.length=ys.length
 ·repeat'(first|refine ax ?_|fail)
  refine aQ.loop (σ:=Nat) (fun j=>[(0,.slice p xs.length c),(1,.slice q ys.length d),(5,.int .i64 j)]) (fun _=>[]) (fun _=>[Ext w]) (fun j=>j≤xs.length∧xs.take j=ys.take j) (fun j=>xs.length - j) 0 bR bN aY ⟨by omega,by simp⟩ ?_
  rintro j ⟨hj,heq⟩
  by_cases hjl:j<xs.length
  ·obtain⟨b7,o7,rfl,-,hc⟩:=h.at hjl
   obtain⟨b8,o8,rfl,-,hc'⟩:=h'.at (show j<ys.length by omega)
   have hcj:=hc j hjl
   have hcj':=hc' j Hb
   have hst:=ri hjl (show j<ys.length by omega) heq
   by_cases he:ix xs j=ix ys j
   ·repeat'(first|refine ax ?_|fail)
    all_goals exact ai.next (j+1) bR bN aY ⟨by omega,hst.2 he⟩ Hb
   ·repeat'(first|refine ax ?_|fail)
    all_goals exact ai.aA rfl rfl fun w' hw'=>⟨by rw[decide_eq_false];intro e;exact he (by rw[e]),hw'.at⟩
  ·obtain rfl:j=xs.length:=by omega
   rw[List.take_length,hlen,List.take_length]at heq
   repeat'(first|refine ax ?_|fail)
   all_goals exact kw
 ·repeat'(first|refine ax ?_|fail)
  all_goals exact li
set_option maxHeartbeats 8000000 in
theorem vy (F F':Nat→Prop) (xs ys:List Int) (v u:Value) (w:World) (h:af F w v xs) (h':af F' w u ys):Calls G.P 135 #[v,u] w fun e w'=>e=.returned (.bool (decide (xs=ys)))∧Ext w w':=by
 obtain⟨p,c,rfl,hl⟩:=h.slice
 obtain⟨q,d,rfl,hl'⟩:=h'.slice
 refine aj (l:=[_,_]) Tryz.func135 rfl Tryz.ntmps135 rfl (Ok.start w) ?_
 by_cases hlen:xs.length=ys.length
 ·repeat'(first|refine ax ?_|fail)
  refine aQ.loop (σ:=Nat) (fun j=>[(0,.slice p xs.length c),(1,.slice q ys.length d),(12,.slice p xs.length c),(13,.int .i64 xs.length),(14,.int .i64 j)]) (fun _=>[]) (fun _=>[Ext w]) (fun j=>j≤xs.length∧xs.take j=ys.take j) (fun j=>xs.length - j) 0 bR bN aY ⟨by omega,by simp⟩ ?_
  rintro j ⟨hj,heq⟩
  by_cases hjl:j<xs.length
  ·obtain⟨b7,o7,rfl,-,hc⟩:=h.at hjl
   obtain⟨b8,o8,rfl,-,hc'⟩:=h'.at (show j<ys.length by omega)
   have hcj:=hc j hjl
   have hcj':=hc' j Hb
   have hst:=ri hjl (show j<ys.length by omega) heq
   by_cases he:ix xs j=ix ys j
   ·repeat'(first|refine ax ?_|fail)
    all_goals exact ai.next (j+1) bR bN aY ⟨by omega,hst.2 he⟩ Hb
   ·repeat'(first|refine ax ?_|fail)
    all_goals exact ai.aA rfl rfl fun w' hw'=>⟨by rw[decide_eq_false];intro e;exact he (by rw[e]),hw'.at⟩
  ·obtain rfl:j=xs.length:=by omega
   rw[List.take_length,hlen,List.take_length]at heq
   repeat'(first|refine ax ?_|fail)
   all_goals exact kw
 ·repeat'(first|refine ax ?_|fail)
  all_goals exact li
theorem pY (F F':Nat→Prop) (xs ys:List Int) (v u:Value) (w:World) (h:af F w v xs) (h':af F' w u ys):Calls G.P 90 #[v,u] w fun e w'=>e=.returned (.bool (decide (xs=ys)))∧Ext w w':=by
 have hs:∀w',Ext w w'→Calls G.P 135 #[v,u] w' fun e w2=>e=.returned (.bool (decide (xs=ys)))∧Ext w' w2:=fun w' hx=>vy F F' xs ys v u w' (h.aD hx (fun _ _ _ h=>h)) (h'.aD hx (fun _ _ _ h=>h))
 refine aj (l:=[_,_]) Tryz.func90 rfl Tryz.ntmps90 rfl (Ok.start w) ?_
 repeat'(first|refine ax ?_|(refine aa.ak (f:=135) ?_;refine aa.az rfl rfl rfl (fun w' hw'=>hs w' hw'.at) ?_)|fail)
 all_goals exact ap
theorem xf (c:dq) (hb:c.broken=0):jY c=if c.fs.length=0 then(c,16)else if(dA c.aG c.top.res).2≠0 then({c with broken:=(dA c.aG c.top.res).2},(dA c.aG c.top.res).2)else if c.top.kind=4∧c.top.other=false∧c.top.par≠c.top.res then({c with aG:=(dA c.aG c.top.res).1,fs:=c.fs.take (c.fs.length - 1),broken:=12},12)else({c with aG:=gg (dA c.aG c.top.res).1 c.top.res,fs:=c.fs.take (c.fs.length - 1),live:=c.top.zD},0):=by
 unfold jY;rw[if_neg Hb]
set_option maxHeartbeats 32000000 in
theorem uJ (cp:Nat) (c:dq) (v:fU) (w:World) (hw:Ok (aw cp c v) [] w) (hg:v.Good c) (hb:c.broken=0) (hwf:c.Wf) (hfl:c.fs.length≤1000) (hts:(c.aG.ts.length+c.top.res.length)*8≤140737488355328):
  Calls G.P 55 #[.pointer (some ⟨cp,0,none⟩)] w (ar (aw cp c v) cp (jY c) w):=by
 obtain⟨sp,tv,pv,bv,rv,fv,D,L⟩:=v
 have hrd:=hw.vN (List.Sublist.refl _)
 obtain⟨p,cc,e,hcp,hmx,hgg⟩:=av hrd.o
 dsimp only at e
 subst e
 unfold maxLen at hmx
 have hat:=hwf.aG.at_
 have hps:=hwf.aG.some
 have hmany:=hwf.many
 rw[xf c hb]
 refine aj (l:=[_]) Tryz.func55 rfl Tryz.ntmps55 rfl (Ok.bW hw) ?_
 by_cases h0:c.fs.length=0
 ·rw[if_pos h0]
  generalize hS:Mb (aw cp c ⟨sp,tv,pv,.slice p c.fs.length cc,rv,fv,D,L⟩)=S0
  dsimp only[aw,ay,List.cons_append,List.nil_append]
  repeat'(first|refine ax ?_|refine Gr ?_|fail)
  all_goals exact ge
 ·rw[if_neg h0]
  obtain⟨g,rfl,-⟩:=hgg Hb
  have hi:c.fs.length - 1<c.fs.length:=by omega
  have hin:((ix c.fs (c.fs.length - 1)).fn,ix fv (c.fs.length - 1))∈L:=hg.fr _ hi
  obtain⟨q1,d1,q2,d2,hx⟩:=(hrd.l _ hin).Ck
  have hc5:∀j,j<5→(cM c.fs fv)[0+(c.fs.length - 1)*5+j]?=(eO (ix c.fs (c.fs.length - 1)) (ix fv (c.fs.length - 1)))[j]?:=fun j hj=>by rw[Nat.zero_add];exact jx c.fs fv (c.fs.length - 1) j hg.len hi hj
  dsimp only at hx hin
  rw[hx]at hc5 hin
  have htop:c.top=ix c.fs (c.fs.length - 1):=rfl
  rw[←htop]at hc5 hin hx
  have hpe:(ix fv (c.fs.length - 1))=(.slice q1 c.top.par.length d1,.slice q2 c.top.res.length d2):=hx
  generalize hf:c.top=f at*
  dsimp only[eO]at hc5
  obtain⟨o5,hoff⟩:∃o5,0+(c.fs.length - 1)*5=o5:=⟨_,rfl⟩
  rw[hoff]at hc5
  have f0:(cM c.fs fv)[o5]?=some (.int .i64 f.kind):=hc5 0 Hb
  have f2:(cM c.fs fv)[o5+1+1]?=some (.slice q2 f.res.length d2):=hc5 2 Hb
  have f3:(cM c.fs fv)[o5+3]?=some (.bool f.other):=hc5 3 Hb
  generalize hS:Mb (aw cp c ⟨sp,tv,pv,.slice (some ⟨g,0,none⟩) c.fs.length cc,rv,fv,D,L⟩)=S0
  dsimp only[aw,ay,List.cons_append,List.nil_append]
  obtain⟨r,hr⟩:∃r,dA c.aG f.res=r:=⟨_,rfl⟩
  obtain⟨s2,e2⟩:=r
  have hs2p:=tX c.aG f.res Hb
  have hs2t:=mW c.aG f.res
  rw[hr]at hs2p hs2t ⊢
  dsimp only at hs2p hs2t ⊢
  repeat'(first|refine ax ?_|refine Gr ?_|(refine aa.bX ?_;refine aa.yg (by first|rfl|fail) (Yl.fM rfl rfl rfl rfl f0 gi) rfl ?_)|(refine aa.bX ?_;refine aa.yg (by first|rfl|fail) (Yl.fM rfl rfl rfl rfl f3 gi) rfl ?_)|fail)
  all_goals first|omega|skip
  refine FP ?_
  repeat'(first|refine uo ?_|(refine aK.qy 10 rfl (Yl.idx (i:=c.fs.length - 1) rfl rfl rfl rfl rfl Hb Hb) ?_;rw[hoff])|refine aK.qy 13 rfl (Yl.fM rfl rfl rfl rfl f2 gi) ?_|(refine aI.eU 88 ?_;refine aI.he rfl rfl (HE.aW (M0:=[.aJ sp [tv,pv,.bool (cB c.aG)] fS,.own 0 fl 1 tv c.aG.ts.length (aU c.aG.ts),.own 0 fR 2 pv c.aG.ps.length (bw c.aG.ps)]) cE rfl rfl (fun w' hw'=>by have:=pS D sp c.aG (tv,pv) (.slice q2 f.res.length d2) f.res w' ((hw'.jW (q:=.iM fx fx.fr D L) (p:=fun w=>af D w (.slice q2 f.res.length d2) f.res) hU (fun w' h _=>(h _ hin).2)).bV cT aY) Hb hat.1 hat.2;rw[hr]at this;exact this)) (fun _=>by dsimp only[ay,List.cons_append,List.nil_append];exact bN) (fun _=>aY) ?_;rintro⟨tvb,pvb⟩ _;dsimp only[ay,List.cons_append,List.nil_append])|refine aK.nil G6 ?_|refine aK.any G6 ?_|exact aC.fin rfl|refine aC.skip G6 ?_|refine aC.go ?_ ?_)
  by_cases he2:e2=0
  ·subst he2
   obtain⟨hs2p,hs2q⟩:=hs2p rfl
   rw[if_neg Ha]
   repeat'(first|refine ax ?_|fail)
   refine aa.he (HE.aW (M0:=[.aJ cp [.pointer (some ⟨sp,0,none⟩),.slice (some ⟨g,0,none⟩) c.fs.length cc,rv,.bool c.live,.int .i64 c.broken] fA,.aJ sp [tvb,pvb,.bool (cB s2)] fS,.own 0 fl 1 tvb s2.ts.length (aU s2.ts),.own 0 fR 2 pvb s2.ps.length (bw s2.ps),.own 0 nO 5 (.slice (some ⟨g,0,none⟩) c.fs.length cc) c.fs.length (cM c.fs fv),.iM fx fx.fr D L]) cE rfl rfl (fun w' hw'=>tp cp {c with aG:=s2} ⟨sp,tvb,pvb,.slice (some ⟨g,0,none⟩) c.fs.length cc,rv,fv,D,L⟩ w' (hw'.bV cT (fun p h=>by cases h)) (hg.mono rfl rfl rfl rfl (fun _ h=>h)) G2 G2)) rfl ?_
   intro bv2 _
   dsimp only[aw,ay,List.cons_append,List.nil_append]
   rw[show dq.top {c with aG:=s2}=f from hf,hpe]
   dsimp only[eO]
   refine aa.alloc (t:=nO) [.int .i64 0,.slice none 0 0,.slice none 0 0,.bool false,.bool false] rfl rfl rfl fun b6=>?_
   have hsv:∀w',fa f.fn D w' (.slice q1 f.par.length d1,.slice q2 f.res.length d2)→Calls G.P 90 #[.slice q1 f.par.length d1,.slice q2 f.res.length d2] w' fun e w2=>e=.returned (.bool (decide (f.par=f.res)))∧Ext w' w2:=fun w' h=>pY D D f.par f.res _ _ w' h.1 h.2
   by_cases hK:f.kind=4∧f.other=false
   ·obtain⟨hk4,hot⟩:=hK
    by_cases hpr:f.par=f.res
    ·rw[if_neg (by rintro⟨_,_,h⟩;exact h hpr),hk4,hot]
     rw[decide_eq_true hpr]at hsv
     repeat'(first|refine ax ?_|refine Gs ?_|fail)
     refine aQ.de [.aJ b6 [.int .i64 4,.slice q1 f.par.length d1,.slice q2 f.res.length d2,.bool false,.bool f.zD] nO,.aJ cp [.pointer (some ⟨sp,0,none⟩),bv2,rv,.bool c.live,.int .i64 c.broken] fA] [] bN aY ?_
     repeat'(first|refine uo ?_|(refine aI.eU 91 ?_;refine aI.he rfl rfl (HE.aW (M0:=[.aJ sp [tvb,pvb,.bool (cB s2)] fS,.own 0 fl 1 tvb s2.ts.length (aU s2.ts),.own 0 fR 2 pvb s2.ps.length (bw s2.ps)]) cE rfl rfl (fun w' hw'=>eB D sp s2 (tvb,pvb) (.slice q2 f.res.length d2) f.res w' ((hw'.jW (q:=.iM fx fx.fr D L) (p:=fun w=>af D w (.slice q2 f.res.length d2) f.res) hU (fun w' h _=>(h _ hin).2)).bV cT aY) hs2p Hb)) (fun _=>by dsimp only[ay,List.cons_append,List.nil_append];exact bN) (fun _=>aY) ?_;rintro⟨tvc,pvc⟩ _;dsimp only[ay,List.cons_append,List.nil_append])|refine aK.nil G6 ?_|refine aK.any G6 ?_|exact aC.fin rfl|refine aC.skip G6 ?_|refine aC.go ?_ ?_)
     repeat'(first|refine ax ?_|fail)
     exact pi
    ·rw[if_pos ⟨hk4,hot,hpr⟩,hk4,hot]
     rw[decide_eq_false hpr]at hsv
     repeat'(first|refine ax ?_|refine Gs ?_|fail)
     refine aa.he (HE.aW (M0:=[.aJ cp [.pointer (some ⟨sp,0,none⟩),bv2,rv,.bool c.live,.int .i64 c.broken] fA]) cE rfl rfl (fun w' hw'=>fK cp _ _ _ _ _ 12 w' (hw'.bV cT (fun p h=>by cases h)))) rfl ?_
     rintro⟨⟩ _
     dsimp only[List.cons_append,List.nil_append]
     repeat'(first|refine ax ?_|fail)
     exact ai.aA rfl rfl fun w' hw'=>ar.err 12 rfl Ha hS hw' ao
   ·rw[if_neg (by rintro⟨h1,h2,_⟩;exact hK ⟨h1,h2⟩)]
    by_cases hk4:f.kind=4
    ·have hot:f.other=true:=by cases hb2:f.other<;>simp_all
     rw[hk4,hot]
     repeat'(first|refine ax ?_|refine Gs ?_|fail)
     refine aQ.de [.aJ b6 [.int .i64 4,.slice q1 f.par.length d1,.slice q2 f.res.length d2,.bool true,.bool f.zD] nO,.aJ cp [.pointer (some ⟨sp,0,none⟩),bv2,rv,.bool c.live,.int .i64 c.broken] fA] [] bN aY ?_
     repeat'(first|refine uo ?_|(refine aI.eU 91 ?_;refine aI.he rfl rfl (HE.aW (M0:=[.aJ sp [tvb,pvb,.bool (cB s2)] fS,.own 0 fl 1 tvb s2.ts.length (aU s2.ts),.own 0 fR 2 pvb s2.ps.length (bw s2.ps)]) cE rfl rfl (fun w' hw'=>eB D sp s2 (tvb,pvb) (.slice q2 f.res.length d2) f.res w' ((hw'.jW (q:=.iM fx fx.fr D L) (p:=fun w=>af D w (.slice q2 f.res.length d2) f.res) hU (fun w' h _=>(h _ hin).2)).bV cT aY) hs2p Hb)) (fun _=>by dsimp only[ay,List.cons_append,List.nil_append];exact bN) (fun _=>aY) ?_;rintro⟨tvc,pvc⟩ _;dsimp only[ay,List.cons_append,List.nil_append])|refine aK.nil G6 ?_|refine aK.any G6 ?_|exact aC.fin rfl|refine aC.skip G6 ?_|refine aC.go ?_ ?_)
     repeat'(first|refine ax ?_|fail)
     exact pi
    ·repeat'(first|refine ax ?_|refine Gs ?_|fail)
     refine aQ.de [.aJ b6 [.int .i64 f.kind,.slice q1 f.par.length d1,.slice q2 f.res.length d2,.bool f.other,.bool f.zD] nO,.aJ cp [.pointer (some ⟨sp,0,none⟩),bv2,rv,.bool c.live,.int .i64 c.broken] fA] [] bN aY ?_
     repeat'(first|refine uo ?_|(refine aI.eU 91 ?_;refine aI.he rfl rfl (HE.aW (M0:=[.aJ sp [tvb,pvb,.bool (cB s2)] fS,.own 0 fl 1 tvb s2.ts.length (aU s2.ts),.own 0 fR 2 pvb s2.ps.length (bw s2.ps)]) cE rfl rfl (fun w' hw'=>eB D sp s2 (tvb,pvb) (.slice q2 f.res.length d2) f.res w' ((hw'.jW (q:=.iM fx fx.fr D L) (p:=fun w=>af D w (.slice q2 f.res.length d2) f.res) hU (fun w' h _=>(h _ hin).2)).bV cT aY) hs2p Hb)) (fun _=>by dsimp only[ay,List.cons_append,List.nil_append];exact bN) (fun _=>aY) ?_;rintro⟨tvc,pvc⟩ _;dsimp only[ay,List.cons_append,List.nil_append])|refine aK.nil G6 ?_|refine aK.any G6 ?_|exact aC.fin rfl|refine aC.skip G6 ?_|refine aC.go ?_ ?_)
     repeat'(first|refine ax ?_|fail)
     exact pi
  ·rw[if_pos he2]
   repeat'(first|refine ax ?_|fail)
   refine FQ ?_
   rintro⟨⟩ _
   dsimp only[List.cons_append,List.nil_append]
   repeat'(first|refine ax ?_|fail)
   exact ii
section
variable {n:Nat} {E:Env} {M M':List aV} {R:List (World→Prop)} {v:Value} {x y:Operand} {t:TypeId} {w:World}
theorem bB.B9 {ti:TI} {b j T:Nat} {old cs out:List Value} (ht:G.ty t=some ti) (hx:ev E x=some (.pointer (some ⟨b,j,none⟩))) (hy:ev E y=some v) (hcs:v.cells=cs.toArray) (hs:ti.size=cs.length) (hv:∀u∈cs,u.oneCell'=true)
  (hb:dZ w b old T) (hl:j+cs.length≤old.length) (ho:old.take j++cs++old.drop (j+cs.length)=out):bB G n (.store t x y) E w (fun _ w'=>dZ w' b out T∧bA (fun k=>k=b) w w'∧w'.heap.size=w.heap.size):=by
 have h3:=run_storeCells_at (P:=G.P) b j T cs 0 old.toArray w hb (by simp;omega) hv
 have e3:(old.toArray.toList.take (j+0)++cs++old.toArray.toList.drop (j+0+cs.length)).toArray=out.toArray:=by
  show(old.take (j+0)++cs++old.drop (j+0+cs.length)).toArray=_
  rw[Nat.add_zero,ho]
 rw[e3]at h3
 have hset:∀k,k≠b→(w.setRow b out.toArray).heap[k]?=w.heap[k]?:=fun k hk=>by
  simp only[World.setRow,Array.getElem?_modify]
  rw[if_neg (fun e=>hk e.symm)]
 refine bB.nj (w':=w.setRow b out.toArray) (fun a ha d ty pos aft gd=>?_) ⟨setRow_heap w b _ _ T _ hb,⟨rfl,rfl,rfl,by simp[World.setRow],fun k _ hk=>hset k hk⟩,by simp[World.setRow]⟩
 have h1:=(G.eZ t ti ht).size w
 simp[execOp,ha.eval hx,ha.eval hy,Instr.storeAt,Instr.sureAddr,storeVar,h1,hcs,hs,h3]
end
end Go.Proofs.YtceedealggognaaGreatDoor
