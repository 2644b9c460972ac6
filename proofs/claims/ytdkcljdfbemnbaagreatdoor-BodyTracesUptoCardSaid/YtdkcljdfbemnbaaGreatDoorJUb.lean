import Derived.Test.YtdkcljdfbemnbaaGreatDoorJVj
import Derived.Test.YtdkcljdfbemnbaaGreatDoorJLm
namespace Go.Proofs.YtdkcljdfbemnbaaGreatDoor
open Go.RowKit _root_.Go.Proofs.Tryz
set_option maxHeartbeats 16000000
open List renaming length_append→Py,length_take→Pz,nil_append→Pp
open Nat renaming le_refl→Px,lt_or_ge→PG,sub_self→PU,zero_add→Ps,zero_le→Pu
set_option maxRecDepth 100000
def rD (c:gA):gA×Int:=if c.fs.length=0 then(c,16)else if(cQ c.ao (ix c.fs (c.fs.length - 1)).res).2≠0 then(c,(cQ c.ao (ix c.fs (c.fs.length - 1)).res).2)else if(ix c.fs (c.fs.length - 1)).op=4∧(ix c.fs (c.fs.length - 1)).par≠(ix c.fs (c.fs.length - 1)).res then(c,12)else
  ({c with ao:=aS (cQ c.ao (ix c.fs (c.fs.length - 1)).res).1 (ix c.fs (c.fs.length - 1)).res,fs:=c.fs.take (c.fs.length - 1)},0)
variable (s:ck) (F:Nat→Prop) (c:gA)
theorem rH (y:jC) (w:World) (h:cG c F w y) (hs:c.ao.Wf) (_hfl:c.fs.length≤1000000) (_hpl:c.ao.ps.length≤1000000) (_hn:c.fs.length=0):Calls G.P 68 #[.agg (eO c y).toArray] w (gG (c,16) F w):=by
 have hp0:=hs.some
 have ha0:=hs.at_.1
 have hle0:=hs.at_.2
 obtain⟨p1,c1,p2,c2,p3,c3,p4,c4,p5,c5,ey,k4,h4,kz⟩:=h.gx
 obtain⟨y,fv,rv,z⟩:=y
 cases ey
 refine ae (l:=[_]) func68 rfl ntmps68 rfl (Ok.fg (V:=bw c.ao) (bw.fr c.ao) (bw.lt c.ao) h.1) ?_
 dsimp only[eO]
 have hn':(c.fs.length:Int)=0:=by omega
 repeat'(first|refine ar ?_|(refine NX fun b_=>?_)|fail)
 all_goals exact pp
theorem wo (y:jC) (w:World) (h:cG c F w y) (hs:c.ao.Wf) (_hfl:c.fs.length≤1000000) (_hpl:c.ao.ps.length≤1000000) (_hn:c.fs.length≠0) (hp2:2≤c.ao.ps.length) (_hb:c.ao.ts.length+(ix c.fs (c.fs.length - 1)).res.length≤17592186044416):Calls G.P 68 #[.agg (eO c y).toArray] w (gG (if(cQ c.ao (ix c.fs (c.fs.length - 1)).res).2≠0 then(c,(cQ c.ao (ix c.fs (c.fs.length - 1)).res).2)else if(ix c.fs (c.fs.length - 1)).op=4∧(ix c.fs (c.fs.length - 1)).par≠(ix c.fs (c.fs.length - 1)).res then(c,12)else
  ({c with ao:=aS (cQ c.ao (ix c.fs (c.fs.length - 1)).res).1 (ix c.fs (c.fs.length - 1)).res,fs:=c.fs.take (c.fs.length - 1)},0)) F w):=by
 have hp0:=hs.some
 have ha0:=hs.at_.1
 have hle0:=hs.at_.2
 obtain⟨p1,c1,p2,c2,p3,c3,p4,c4,p5,c5,ey,k4,h4,kz⟩:=h.gx
 obtain⟨_,_,g1,k1,g2,k2,_,-,e5,hfx,-⟩:=h.frame (i:=c.fs.length - 1) Pi
 have hz:=h.2.1
 have htop:∀w',Ext w w'→Calls G.P 63 #[.agg (eO c y).toArray] w' fun e w2=>e=.returned (.agg #[.int .i64 (ix c.fs (c.fs.length - 1)).op,.slice g1 (ix c.fs (c.fs.length - 1)).par.length k1,.slice g2 (ix c.fs (c.fs.length - 1)).res.length k2,.bool (ix c.fs (c.fs.length - 1)).live,.bool (ix c.fs (c.fs.length - 1)).lq])∧Ext w' w2:=fun w' hx=>by
  have:=ke F c y w' (cG.fr c h hx (fun _ _ _ h=>h)) Pi
  rw[e5]at this
  exact this
 obtain⟨y,fv,rv,z⟩:=y
 cases ey
 dsimp only[eO]at e5 hz kz hfx htop
 rw[e5]at hfx
 have hI:∀l v,ai F w v l→∀D w',Ext w w'→ai (AF F w D) w' v l:=fun l v hv D w' hx=>(((hv.mono (fun k hk hF=>⟨hF,hk⟩):ai (fun k=>F k∧k<w.heap.size) w _ _)).aN hx (fun _ _ _ h=>h)).mono fun k _ h=>.inl h
 refine ae (l:=[_]) func68 rfl ntmps68 rfl (Ok.fg (V:=bw c.ao) (bw.fr c.ao) (bw.lt c.ao) h.1) ?_
 dsimp only[eO]
 have hn':¬(c.fs.length:Int)=0:=by omega
 obtain⟨r1,hr1⟩:∃r,cQ c.ao (ix c.fs (c.fs.length - 1)).res=r:=⟨_,rfl⟩
 obtain⟨s1,e1⟩:=r1
 rw[hr1]
 have hts1:s1.ts.length≤c.ao.ts.length:=by have:=mW c.ao (ix c.fs (c.fs.length - 1)).res;rw[hr1]at this;exact this
 have htk:=(show vK F w (.slice p4 c.fs.length c4) z from hz).take (c.fs.length - 1) Pi
 have htl:(z.take (c.fs.length - 1)).length=c.fs.length - 1:=by rw[Pz];omega
 have hsv:∀w',Ext w w'→Calls G.P 116 #[.slice g1 (ix c.fs (c.fs.length - 1)).par.length k1,.slice g2 (ix c.fs (c.fs.length - 1)).res.length k2] w' fun e w2=>e=.returned (.bool (decide ((ix c.fs (c.fs.length - 1)).par=(ix c.fs (c.fs.length - 1)).res)))∧Ext w' w2:=fun w' hx=>uG F F _ _ _ _ w' (hfx.1.aN hx (fun _ _ _ h=>h)) (hfx.2.aN hx (fun _ _ _ h=>h))
 dsimp only
 repeat'(first|refine ar ?_|(refine NX fun b_=>?_)|(refine aa.aj (f:=63) ?_;refine aa.av rfl rfl rfl (fun w' hw'=>htop w' hw'.at) ?_)|refine Oi ?_|fail)
 all_goals first|omega|skip
 obtain⟨b4,rfl⟩:∃y:Nat,y=b_:=⟨_,rfl⟩
 by_cases he1:e1=0
 ·subst he1
  rw[if_neg (fun h=>h rfl)]
  refine aa.he (HE.bV (V:=bw c.ao) (V2:=bw s1) (w0:=w) (F:=F) (D:=fun _=>False) (y:=⟨.slice p1 c.ao.ts.length c1,.slice p2 c.ao.ps.length c2,.slice p3 c.ao.ps.length c3⟩) (bw.fr _) (bw.lt _) (bw.mo _) ak bO (fun _=>aH) rfl rfl (fun w' hw' hh=>by have:=nw _ F c.ao ⟨.slice p1 c.ao.ts.length c1,.slice p2 c.ao.ps.length c2,.slice p3 c.ao.ps.length c3⟩ (.slice g2 (ix c.fs (c.fs.length - 1)).res.length k2) (ix c.fs (c.fs.length - 1)).res w' hh (hfx.2.aN (show Ext w w' from hw'.at) (fun _ _ _ h=>h)) hp2 ha0 hle0;rw[hr1]at this;exact this.mono fun _ _ g=>oS.to g)) rfl ?_
  rintro⟨D1,x1⟩ _
  refine aa.pure (φ:=∃q1 d1 q2 d2 q3 d3,x1=⟨.slice q1 s1.ts.length d1,.slice q2 s1.ps.length d2,.slice q3 s1.ps.length d3⟩) (fun w' hw'=>by obtain⟨q1,d1,q2,d2,q3,d3,e,-⟩:=(hw'.an (V:=bw s1) (w0:=w) (F:=F) (D:=D1) (y:=x1) ak bO).gx;exact⟨q1,d1,q2,d2,q3,d3,e⟩) ?_
  rintro⟨r1,rc1,r2,rc2,r3,rc3,rfl⟩
  dsimp only[gw]
  repeat'(first|refine ar ?_|(refine NY fun b_=>?_)|fail)
  refine Nq ?_
  rintro⟨⟩ _
  by_cases hbad:(ix c.fs (c.fs.length - 1)).op=4∧(ix c.fs (c.fs.length - 1)).par≠(ix c.fs (c.fs.length - 1)).res
  ·rw[if_pos hbad]
   obtain⟨ho4,hpr⟩:=hbad
   have hdn:(!decide ((ix c.fs (c.fs.length - 1)).par=(ix c.fs (c.fs.length - 1)).res))=true:=by rw[decide_eq_false hpr];rfl
   repeat'(first|refine ar ?_|(refine NY fun b_=>?_)|(refine aa.aj (f:=112) ?_;refine aa.he (HE.eU rfl rfl (fun w' _=>iR _ _ _ _ _ _ _ _ _ _ _ _ _ _ _ _ _ _ w')) rfl ?_;rintro⟨⟩ _)|(refine aa.cK (f:=116) ?_;refine aa.cB pk rfl rfl rfl (fun w' hw'=>hsv w' hw'.at) ?_)|fail)
   all_goals exact pp
  ·rw[if_neg hbad]
   have hdn:(ix c.fs (c.fs.length - 1)).op=4→(!decide ((ix c.fs (c.fs.length - 1)).par=(ix c.fs (c.fs.length - 1)).res))=false:=fun h=>by
    have:(ix c.fs (c.fs.length - 1)).par=(ix c.fs (c.fs.length - 1)).res:=Classical.byContradiction fun h2=>hbad ⟨h,h2⟩
    rw[decide_eq_true this];rfl
   by_cases ho4:(ix c.fs (c.fs.length - 1)).op=4
   ·have hd2:=hdn ho4
    repeat'(first|refine ar ?_|(refine NY fun b_=>?_)|(refine aa.cK (f:=116) ?_;refine aa.cB pk rfl rfl rfl (fun w' hw'=>hsv w' hw'.at) ?_)|fail)
    all_goals first|omega|skip
    refine Nr ?_
    rintro⟨D4,x4⟩ _
    obtain⟨s4,hs4⟩:∃s,aS s1 (ix c.fs (c.fs.length - 1)).res=s:=⟨_,rfl⟩
    rw[hs4]
    refine aa.pure (φ:=∃q1 d1 q2 d2 q3 d3,x4=⟨.slice q1 s4.ts.length d1,.slice q2 s4.ps.length d2,.slice q3 s4.ps.length d3⟩) (fun w' hw'=>by obtain⟨q1,d1,q2,d2,q3,d3,e,-⟩:=(hw'.an (V:=bw s4) (w0:=w) (F:=F) (D:=D4) (y:=x4) ak bO).gx;exact⟨q1,d1,q2,d2,q3,d3,e⟩) ?_
    rintro⟨v1,vc1,v2,vc2,v3,vc3,rfl⟩
    dsimp only[gw]
    repeat'(first|refine ar ?_|fail)
    refine Ns ?_
    rintro⟨⟩ _
    repeat'(first|refine ar ?_|fail)
    refine MR ?_
    intro b6 _
    refine aa.jN (b:=b6) (len:=0) 5 aH rfl (Pu _) ?_
    repeat'(first|refine ar ?_|(refine aa.y_ (Yl.cZ (i:=c.fs.length - 1) rfl rfl rfl rfl rfl Pi Pi) rfl ?_)|fail)
    refine aa.he (HE.gR (kY (z.take (c.fs.length - 1))) rfl rfl (fun _=>aH) ((vc htk ak).imp_left fun h=>by omega) (by rw[kZ,htl]) rfl rfl rfl Pk Pk Pk (oY _ htk.Gj) OP Pi (fun _ _=>Pu _)) rfl ?_
    intro va _
    simp only[Ps,Pp]
    refine aa.pure (φ:=∃p cc,va=.slice p (c.fs.length - 1) cc∧c.fs.length - 1≤cc) (fun w' hw'=>by obtain⟨p,cc,e,h,_⟩:=aw (hw'.own (v:=va));exact⟨p,cc,e,h⟩) ?_
    rintro⟨pa,ca,rfl,hca⟩
    repeat'(first|refine ar ?_|fail)
    refine My ?_
    intro w' hw'
    have hE:Ext w w':=hw'.at
    have hsd:=(cG.fr c h hE (fun _ _ _ h=>h)).mono (H:=fun k=>F k∨w.heap.size≤k) fun _ h=>.inl h
    have g:=oX (F:=F) (z.take (c.fs.length - 1)) hw' ak bO htl.symm rfl Pi (fun a ha=>hsd.2.1.Gj a (List.mem_of_mem_take ha))
    have g1:=hw'.new (V:=bw s4) (w:=w) (F:=F) (D:=D4) (y:=⟨.slice v1 s4.ts.length vc1,.slice v2 s4.ps.length vc2,.slice v3 s4.ps.length vc3⟩) (bw.mo _) ak bO
    exact IO
   ·repeat'(first|refine ar ?_|(refine NY fun b_=>?_)|fail)
    all_goals first|omega|skip
    refine Nr ?_
    rintro⟨D4,x4⟩ _
    obtain⟨s4,hs4⟩:∃s,aS s1 (ix c.fs (c.fs.length - 1)).res=s:=⟨_,rfl⟩
    rw[hs4]
    refine aa.pure (φ:=∃q1 d1 q2 d2 q3 d3,x4=⟨.slice q1 s4.ts.length d1,.slice q2 s4.ps.length d2,.slice q3 s4.ps.length d3⟩) (fun w' hw'=>by obtain⟨q1,d1,q2,d2,q3,d3,e,-⟩:=(hw'.an (V:=bw s4) (w0:=w) (F:=F) (D:=D4) (y:=x4) ak bO).gx;exact⟨q1,d1,q2,d2,q3,d3,e⟩) ?_
    rintro⟨v1,vc1,v2,vc2,v3,vc3,rfl⟩
    dsimp only[gw]
    repeat'(first|refine ar ?_|fail)
    refine Ns ?_
    rintro⟨⟩ _
    repeat'(first|refine ar ?_|fail)
    refine MR ?_
    intro b6 _
    refine aa.jN (b:=b6) (len:=0) 5 aH rfl (Pu _) ?_
    repeat'(first|refine ar ?_|(refine aa.y_ (Yl.cZ (i:=c.fs.length - 1) rfl rfl rfl rfl rfl Pi Pi) rfl ?_)|fail)
    refine aa.he (HE.gR (kY (z.take (c.fs.length - 1))) rfl rfl (fun _=>aH) ((vc htk ak).imp_left fun h=>by omega) (by rw[kZ,htl]) rfl rfl rfl Pk Pk Pk (oY _ htk.Gj) OP Pi (fun _ _=>Pu _)) rfl ?_
    intro va _
    simp only[Ps,Pp]
    refine aa.pure (φ:=∃p cc,va=.slice p (c.fs.length - 1) cc∧c.fs.length - 1≤cc) (fun w' hw'=>by obtain⟨p,cc,e,h,_⟩:=aw (hw'.own (v:=va));exact⟨p,cc,e,h⟩) ?_
    rintro⟨pa,ca,rfl,hca⟩
    repeat'(first|refine ar ?_|fail)
    refine My ?_
    intro w' hw'
    have hE:Ext w w':=hw'.at
    have hsd:=(cG.fr c h hE (fun _ _ _ h=>h)).mono (H:=fun k=>F k∨w.heap.size≤k) fun _ h=>.inl h
    have g:=oX (F:=F) (z.take (c.fs.length - 1)) hw' ak bO htl.symm rfl Pi (fun a ha=>hsd.2.1.Gj a (List.mem_of_mem_take ha))
    have g1:=hw'.new (V:=bw s4) (w:=w) (F:=F) (D:=D4) (y:=⟨.slice v1 s4.ts.length vc1,.slice v2 s4.ps.length vc2,.slice v3 s4.ps.length vc3⟩) (bw.mo _) ak bO
    exact IO
 ·rw[if_pos he1]
  refine aa.he (HE.bV (V:=bw c.ao) (V2:=ky) (w0:=w) (F:=F) (D:=fun _=>False) (y:=⟨.slice p1 c.ao.ts.length c1,.slice p2 c.ao.ps.length c2,.slice p3 c.ao.ps.length c3⟩) ky.fr ky.lt ky.mo ak bO (fun _=>aH) rfl rfl (fun w' hw' hh=>by have:=nw _ F c.ao ⟨.slice p1 c.ao.ts.length c1,.slice p2 c.ao.ps.length c2,.slice p3 c.ao.ps.length c3⟩ (.slice g2 (ix c.fs (c.fs.length - 1)).res.length k2) (ix c.fs (c.fs.length - 1)).res w' hh (hfx.2.aN (show Ext w w' from hw'.at) (fun _ _ _ h=>h)) hp2 ha0 hle0;rw[hr1]at this;exact this.mono fun _ _ g=>oS.re g)) rfl ?_
  rintro⟨D2,x2⟩ _
  refine Mz ?_
  rintro⟨q1,n1,d1,q2,n2,d2,q3,n3,d3,rfl⟩
  dsimp only[gw]
  repeat'(first|refine ar ?_|(refine NY fun b_=>?_)|(refine aa.aj (f:=112) ?_;refine aa.he (HE.eU rfl rfl (fun w' _=>iR _ _ _ _ _ _ _ _ _ _ _ _ _ _ _ _ _ _ w')) rfl ?_;rintro⟨⟩ _)|fail)
  all_goals first|omega|skip
  all_goals(refine ah.aM (.inl rfl) rfl rfl rfl rfl rfl aH rfl rfl ?_;exact fun w' hw'=>gG.err (e:=_) (fH.mk ..) O0 hw'.at)
theorem kk {F:Nat→Prop} {w w':World} {v:Value} {l:List Int} (h:ai F w v l) (hx:Ext w w') (D:Nat→Prop):ai (AF F w D) w' v l:=(((h.mono (fun _k hk hF=>⟨hF,hk⟩):ai (fun k=>F k∧k<w.heap.size) w _ _)).aN hx (fun _ _ _ h=>h)).mono fun _k _ h=>.inl h
theorem gG.ao {c:gA} {F D:Nat→Prop} {s:ck} {w w':World} {y:jC} {M:List bu} {R:List (World→Prop)} (x:jT) (h:cG c F w y) (hw:Ok M R w') (hR:Ext w∈R) (hM:bu.an (bw s) w F D x∈M):gG ({c with ao:=s},0) F w (.returned (.tuple #[.agg (eO {c with ao:=s} {y with r:=x}).toArray,.int .i64 0])) w':=by
 have hE:Ext w w':=hw.get hR
 have hsd:=(cG.fr c h hE (fun _ _ _ h=>h)).mono (H:=fun k=>F k∨w.heap.size≤k) fun _ h=>.inl h
 exact gG.ok (c:={c with ao:=s}) {y with r:=x} ⟨hw.new (V:=bw s) (bw.mo _) hR hM,hsd.2⟩ hE
theorem aa.tp {ops:Array Oper} {Q:Exit→Act→World→Prop} {n:Nat} {l:List Oper} {E:Env} {M M':List bu} {R:List (World→Prop)} {β β2:Type} {V:(Nat→Prop)→World→β→Prop} {V2:(Nat→Prop)→World→β2→Prop} {w0:World} {F D:Nat→Prop} {y:β} (y2:β2) (hM:Up (bu.an V w0 F D y) (bu.an V2 w0 F D y2) M M') (hp:∀D w,V D w y→V2 D w y2) (h:aa ops Q n l E M' R):aa ops Q n l E M R:=⟨fun w hw=>h.h w (hw.tp y2 hM hp)⟩
theorem vB {s:ck} (h:s.Wf) (f:aO):(fU s f).1.Wf:=by
 unfold fU
 split
 ·exact dE h _
 ·exact qT (dE h _) _
theorem vA (f:aO):(fU s f).1.ps=s.ps:=by
 unfold fU
 split
 ·exact ft _ _
 ·exact ft _ _
def kh (c:gA) (f:aO):gA×Int:=({c with ao:=(fU c.ao f).1},(fU c.ao f).2)
theorem oI (y:jC) (w:World) (h:cG c F w y) (f:aO) (fp fq:Option Addr) (fc fd:Nat) (hf:dH f F w (.slice fp f.params.length fc,.slice fq f.results.length fd)) (hs:c.ao.Wf) (_hb:c.ao.ts.length+f.results.length≤17592186044416):Calls G.P 73 #[.agg (eO c y).toArray,.agg #[.slice fp f.params.length fc,.slice fq f.results.length fd]] w (gG (kh c f) F w):=by
 obtain⟨p1,c1,p2,c2,p3,c3,p4,c4,p5,c5,ey,k4,h4,kz⟩:=h.gx
 obtain⟨y,fv,rv,z⟩:=y
 cases ey
 unfold kh fU
 obtain⟨r1,hr1⟩:∃r,aL c.ao f.params=r:=⟨_,rfl⟩
 obtain⟨s1,e1⟩:=r1
 rw[hr1]
 have hts1:s1.ts.length≤c.ao.ts.length:=by have:=dD c.ao f.params;rw[hr1]at this;exact this
 refine ae (l:=[_,_]) func73 rfl ntmps73 rfl (Ok.fg (V:=bw c.ao) (bw.fr c.ao) (bw.lt c.ao) h.1) ?_
 dsimp only[eO]
 refine ar ?_
 refine aa.box [.slice p1 c.ao.ts.length c1,.slice p2 c.ao.ps.length c2,.slice p3 c.ao.ps.length c3,.int .i64 c.ao.bR,.slice p4 c.fs.length c4,.slice p5 c.results.length c5,.int .i64 0] rfl rfl rfl fun b2=>?_
 refine aa.box [.slice fp f.params.length fc,.slice fq f.results.length fd] rfl rfl rfl fun b3=>?_
 repeat'(first|refine ar ?_|(refine NY fun b_=>?_)|fail)
 by_cases he1:e1=0
 ·subst he1
  rw[if_neg (fun h=>h rfl)]
  refine aa.he (HE.bV (V:=bw c.ao) (V2:=bw s1) (w0:=w) (F:=F) (D:=(fun _=>False)) (y:=⟨.slice p1 c.ao.ts.length c1,.slice p2 c.ao.ps.length c2,.slice p3 c.ao.ps.length c3⟩) (bw.fr _) (bw.lt _) (bw.mo _) ak bO (fun _=>aH) rfl rfl (fun w' hw' hh=>by have:=fa _ _ c.ao ⟨.slice p1 c.ao.ts.length c1,.slice p2 c.ao.ps.length c2,.slice p3 c.ao.ps.length c3⟩ (.slice fp f.params.length fc) f.params w' hh (hf.1.aN (show Ext w w' from hw'.at) (fun _ _ _ h=>h)) hs.some hs.at_.1 hs.at_.2;rw[hr1]at this;exact this.mono fun _ _ g=>oS.to g)) rfl ?_
  rintro⟨D1,x1⟩ _
  refine aa.pure (φ:=∃q1 d1 q2 d2 q3 d3,x1=⟨.slice q1 s1.ts.length d1,.slice q2 s1.ps.length d2,.slice q3 s1.ps.length d3⟩) (fun w' hw'=>by obtain⟨q1,d1,q2,d2,q3,d3,e,-⟩:=(hw'.an (V:=bw s1) (w0:=w) (F:=F) (D:=D1) (y:=x1) ak bO).gx;exact⟨q1,d1,q2,d2,q3,d3,e⟩) ?_
  rintro⟨r1,rc1,r2,rc2,r3,rc3,rfl⟩
  dsimp only[gw]
  repeat'(first|refine ar ?_|(refine NY fun b_=>?_)|fail)
  refine aa.he (HE.bV (V:=bw s1) (V2:=bw (aS s1 f.results)) (tf:=fun y=>.agg (gw (aS s1 f.results) y).toArray) (w0:=w) (F:=F) (D:=D1) (y:=⟨.slice r1 s1.ts.length rc1,.slice r2 s1.ps.length rc2,.slice r3 s1.ps.length rc3⟩) (bw.fr _) (bw.lt _) (bw.mo _) ak bO (fun _=>aH) rfl rfl (fun w' hw' hh=>kc _ s1 ⟨.slice r1 s1.ts.length rc1,.slice r2 s1.ps.length rc2,.slice r3 s1.ps.length rc3⟩ (.slice fq f.results.length fd) f.results w' hh (kk hf.2 hw'.at _) Pi)) rfl ?_
  rintro⟨D4,x4⟩ _
  dsimp only
  obtain⟨s4,hs4⟩:∃s,aS s1 f.results=s:=⟨_,rfl⟩
  rw[hs4]
  refine aa.pure (φ:=∃q1 d1 q2 d2 q3 d3,x4=⟨.slice q1 s4.ts.length d1,.slice q2 s4.ps.length d2,.slice q3 s4.ps.length d3⟩) (fun w' hw'=>by obtain⟨q1,d1,q2,d2,q3,d3,e,-⟩:=(hw'.an (V:=bw s4) (w0:=w) (F:=F) (D:=D4) (y:=x4) ak bO).gx;exact⟨q1,d1,q2,d2,q3,d3,e⟩) ?_
  rintro⟨v1,vc1,v2,vc2,v3,vc3,rfl⟩
  dsimp only[gw]
  repeat'(first|refine ar ?_|fail)
  refine Ns ?_
  rintro⟨⟩ _
  repeat'(first|refine ar ?_|fail)
  refine My ?_
  exact fun w' hw'=>gG.ao (D:=D4) ⟨.slice v1 s4.ts.length vc1,.slice v2 s4.ps.length vc2,.slice v3 s4.ps.length vc3⟩ h hw' ak bO
 ·rw[if_pos he1]
  refine aa.he (HE.bV (V:=bw c.ao) (V2:=ky) (w0:=w) (F:=F) (D:=(fun _=>False)) (y:=⟨.slice p1 c.ao.ts.length c1,.slice p2 c.ao.ps.length c2,.slice p3 c.ao.ps.length c3⟩) ky.fr ky.lt ky.mo ak bO (fun _=>aH) rfl rfl (fun w' hw' hh=>by have:=fa _ _ c.ao ⟨.slice p1 c.ao.ts.length c1,.slice p2 c.ao.ps.length c2,.slice p3 c.ao.ps.length c3⟩ (.slice fp f.params.length fc) f.params w' hh (hf.1.aN (show Ext w w' from hw'.at) (fun _ _ _ h=>h)) hs.some hs.at_.1 hs.at_.2;rw[hr1]at this;exact this.mono fun _ _ g=>oS.re g)) rfl ?_
  rintro⟨D2,x2⟩ _
  refine Mz ?_
  rintro⟨q1,n1,d1,q2,n2,d2,q3,n3,d3,rfl⟩
  dsimp only[gw]
  repeat'(first|refine ar ?_|(refine NY fun b_=>?_)|fail)
  all_goals exact pp
def gk (c:gA):gA:=if c.fs.length=0 then c else pw c
theorem oG (y:jC) (w:World) (h:cG c F w y) (hfl:c.fs.length≤1000000) (hs:c.ao.Wf) (hpl:c.ao.ps.length≤1000000):Calls G.P 69 #[.agg (eO c y).toArray] w (bD (cG (gk c)) (fun y=>.agg (eO (gk c) y).toArray) F w):=by
 by_cases hn:c.fs.length=0
 ·rw[show gk c=c from if_pos hn]
  have hn':(c.fs.length:Int)=0:=by omega
  obtain⟨p1,c1,p2,c2,p3,c3,p4,c4,p5,c5,ey,k4,h4,kz⟩:=h.gx
  obtain⟨y,fv,rv,z⟩:=y
  cases ey
  refine ae (l:=[_]) func69 rfl ntmps69 rfl (Ok.fg (V:=bw c.ao) (bw.fr c.ao) (bw.lt c.ao) h.1) ?_
  dsimp only[eO]
  repeat'(first|refine ar ?_|(refine NX fun b_=>?_)|fail)
  all_goals first|omega|skip
  refine MT ?_
  intro w' hw'
  have hE:Ext w w':=hw'.at
  exact⟨⟨(⟨⟨.slice p1 c.ao.ts.length c1,.slice p2 c.ao.ps.length c2,.slice p3 c.ao.ps.length c3⟩,.slice p4 c.fs.length c4,.slice p5 c.results.length c5,z⟩:jC),rfl,(cG.fr c h hE (fun _ _ _ h=>h)).mono fun _ h=>.inl h⟩,hE⟩
 ·rw[show gk c=pw c from if_neg hn]
  exact BN F c y w h Pi hfl hs.some hs.at_.1 hs.at_.2 hpl
def lV (c:gA) (l:List Int) (e:Int):gA×Int:=if e≠0 then(c,e)else if(kh c ⟨l,[]⟩).2≠0 then(c,(kh c ⟨l,[]⟩).2)else(gk (kh c ⟨l,[]⟩).1,0)
theorem qU (y:jC) (w:World) (h:cG c F w y) (l:List Int) (lp:Option Addr) (ln lc:Nat) (e:Int) (hl:e=0→ln=l.length∧ai F w (.slice lp ln lc) l) (hfl:c.fs.length≤1000000) (hs:c.ao.Wf) (hpl:c.ao.ps.length≤1000000) (_hb:c.ao.ts.length≤17592186044416):Calls G.P 70 #[.agg (eO c y).toArray,.slice lp ln lc,.int .i64 e] w (gG (lV c l e) F w):=by
 have hh:=h
 obtain⟨p1,c1,p2,c2,p3,c3,p4,c4,p5,c5,ey,k4,h4,kz⟩:=h.gx
 obtain⟨y,fv,rv,z⟩:=y
 cases ey
 unfold lV
 by_cases he:e=0
 ·subst he
  obtain⟨rfl,hl⟩:=hl rfl
  rw[if_neg (fun h=>h rfl)]
  have htk:∀w',Ext w w'→Calls G.P 73 #[.agg (eO c ⟨⟨.slice p1 c.ao.ts.length c1,.slice p2 c.ao.ps.length c2,.slice p3 c.ao.ps.length c3⟩,.slice p4 c.fs.length c4,.slice p5 c.results.length c5,z⟩).toArray,.agg #[.slice lp l.length lc,.slice none 0 0]] w' (gG (kh c ⟨l,[]⟩) (AF F w (fun _=>False)) w'):=fun w' hx=>oI _ c _ w' ((cG.fr c (cG.lt c h) hx (fun _ _ _ h=>h)).mono fun _ hk=>.inl hk) ⟨l,[]⟩ lp none lc 0 ⟨kk hl hx _,ai.cH _ _⟩ hs (by show c.ao.ts.length+0≤_;omega)
  generalize htt:kh c ⟨l,[]⟩=r at htk ⊢
  obtain⟨cc,e2⟩:=r
  have hcf:cc.fs=c.fs∧cc.results=c.results∧cc.ao.Wf∧cc.ao.ps=c.ao.ps:=by
   have h1:(kh c ⟨l,[]⟩).1=cc:=by rw[htt]
   rw[←h1]
   exact⟨rfl,rfl,vB hs _,vA _ _⟩
  refine ae (l:=[_,_,_]) func70 rfl ntmps70 rfl (Ok.fg (V:=cG c) (cG.fr c) (cG.lt c) h) ?_
  dsimp only[eO]at htk ⊢
  repeat'(first|refine ar ?_|(refine NX fun b_=>?_)|fail)
  refine aa.he (HE.bV (V:=cG c) (V2:=fY (cc,e2)) (tf:=fun x=>.tuple #[.agg x.2.toArray,.int .i64 e2]) (w0:=w) (F:=F) (D:=fun _=>False) (y:=⟨⟨.slice p1 c.ao.ts.length c1,.slice p2 c.ao.ps.length c2,.slice p3 c.ao.ps.length c3⟩,.slice p4 c.fs.length c4,.slice p5 c.results.length c5,z⟩) (fY.fr _) (fY.lt _) (fY.mo _) ak bO (fun _=>aH) rfl rfl (fun w' hw' _=>htk w' hw'.at)) rfl ?_
  rintro⟨D1,y1,l1⟩ _
  by_cases he2:e2=0
  ·subst he2
   rw[if_neg (fun h=>h rfl)]
   refine aa.pure (φ:=∃a1 k1 a2 k2 a3 k3 a4 k4 a5 k5,∃zz:List vI,y1=⟨⟨.slice a1 cc.ao.ts.length k1,.slice a2 cc.ao.ps.length k2,.slice a3 cc.ao.ps.length k3⟩,.slice a4 cc.fs.length k4,.slice a5 cc.results.length k5,zz⟩∧l1=eO cc y1) (fun w' hw'=>by have hv:=hw'.an (V:=fY (cc,0)) (w0:=w) (F:=F) (D:=D1) (y:=(y1,l1)) ak bO;obtain⟨h1,h2⟩:=hv.2 rfl;obtain⟨p1,c1,p2,c2,p3,c3,p4,c4,p5,c5,e,-⟩:=h2.gx;exact⟨p1,c1,p2,c2,p3,c3,p4,c4,p5,c5,_,e,h1⟩) ?_
   rintro⟨a1,k1,a2,k2,a3,k3,a4,k4',a5,k5,zz,rfl,rfl⟩
   refine aa.tp (V:=fY (cc,0)) (V2:=cG cc) (w0:=w) (F:=F) (D:=D1) (⟨⟨.slice a1 cc.ao.ts.length k1,.slice a2 cc.ao.ps.length k2,.slice a3 cc.ao.ps.length k3⟩,.slice a4 cc.fs.length k4',.slice a5 cc.results.length k5,zz⟩:jC) aH (fun D w h=>(h.2 rfl).2) ?_
   dsimp only[eO]
   repeat'(first|refine ar ?_|(refine NY fun b_=>?_)|fail)
   refine aa.he (HE.bV (V:=cG cc) (V2:=cG (gk cc)) (tf:=fun y=>.agg (eO (gk cc) y).toArray) (w0:=w) (F:=F) (D:=D1) (y:=⟨⟨.slice a1 cc.ao.ts.length k1,.slice a2 cc.ao.ps.length k2,.slice a3 cc.ao.ps.length k3⟩,.slice a4 cc.fs.length k4',.slice a5 cc.results.length k5,zz⟩) (cG.fr _) (cG.lt _) (cG.mo _) ak bO (fun _=>aH) rfl rfl (fun w' _ hh=>oG _ cc ⟨⟨.slice a1 cc.ao.ts.length k1,.slice a2 cc.ao.ps.length k2,.slice a3 cc.ao.ps.length k3⟩,.slice a4 cc.fs.length k4',.slice a5 cc.results.length k5,zz⟩ w' hh (by rw[hcf.1];exact hfl) hcf.2.2.1 (by rw[hcf.2.2.2];exact hpl))) rfl ?_
   rintro⟨D5,y5⟩ _
   refine aa.pure (φ:=∃a1 n1 c1 a2 n2 c2 a3 n3 c3 a4 n4 c4 a5 n5 c5,∃z:List vI,y5=⟨⟨.slice a1 n1 c1,.slice a2 n2 c2,.slice a3 n3 c3⟩,.slice a4 n4 c4,.slice a5 n5 c5,z⟩) (fun w' hw'=>by obtain⟨p1,c1,p2,c2,p3,c3,p4,c4,p5,c5,e,-⟩:=(hw'.an (V:=cG (gk cc)) (w0:=w) (F:=F) (D:=D5) (y:=y5) ak bO).gx;exact⟨p1,_,c1,p2,_,c2,p3,_,c3,p4,_,c4,p5,_,c5,_,e⟩) ?_
   rintro⟨t1,m1,j1,t2,m2,j2,t3,m3,j3,t4,m4,j4,t5,m5,j5,z5,rfl⟩
   dsimp only[eO]
   repeat'(first|refine ar ?_|fail)
   refine My ?_
   exact fun w' hw'=>gG.ok (c:=gk cc) ⟨⟨.slice t1 m1 j1,.slice t2 m2 j2,.slice t3 m3 j3⟩,.slice t4 m4 j4,.slice t5 m5 j5,z5⟩ (hw'.new (V:=cG (gk cc)) (w:=w) (F:=F) (D:=D5) (y:=⟨⟨.slice t1 m1 j1,.slice t2 m2 j2,.slice t3 m3 j3⟩,.slice t4 m4 j4,.slice t5 m5 j5,z5⟩) (cG.mo _) ak bO) hw'.at
  ·rw[if_pos he2]
   refine aa.pure (φ:=fH l1) (fun w' hw'=>(hw'.an (V:=fY (cc,e2)) (w0:=w) (F:=F) (D:=D1) (y:=(y1,l1)) ak bO).1) ?_
   rintro⟨a1,n1,k1,a2,n2,k2,a3,n3,k3,mm,a4,n4,k4',a5,n5,k5,bb,rfl⟩
   dsimp only
   repeat'(first|refine ar ?_|(refine NY fun b_=>?_)|fail)
   all_goals exact pp
 ·rw[if_pos he]
  refine ae (l:=[_,_,_]) func70 rfl ntmps70 rfl (Ok.fg (V:=bw c.ao) (bw.fr c.ao) (bw.lt c.ao) h.1) ?_
  dsimp only[eO]
  repeat'(first|refine ar ?_|(refine NX fun b_=>?_)|fail)
  all_goals exact pp
def rX (c:dv) (i:Nat):Gf:=⟨(ix c.fs i).op,(ix c.fs i).par,(ix c.fs i).res,c.ir i,(ix c.fs i).lq⟩
def bP (c:dv):gA:=⟨c.ao,(List.range c.fs.length).map (rX c),c.results⟩
theorem cU (c:dv):(bP c).fs.length=c.fs.length:=by simp[bP]
theorem iS (c:dv) {i:Nat} (h:i<c.fs.length):ix (bP c).fs i=rX c i:=by
 rw[cz (by rw[cU];exact h)]
 simp[bP]
theorem Bj {a b:List Gf} (hl:a.length=b.length) (h:∀i,i<a.length→ix a i=ix b i):a=b:=by
 apply List.ext_getElem hl
 intro i h1 h2
 have:=h i h1
 rwa[cz h1,cz h2]at this
theorem tQ (c:dv) (_h:0<c.fs.length):c.ir (c.fs.length - 1)=c.live:=by unfold dv.ir;rw[if_neg Pi]
theorem F0 (l:List Int):bP (jP l)=DQ l:=rfl
theorem Az (c:dv) (s:ck):bP {c with ao:=s}={bP c with ao:=s}:=rfl
theorem BU (c:dv) (s:ck) (f:n7) (hf:f.lq=c.live):bP (gX c s c.fs f)={bP c with ao:=aS (aV s) f.par,fs:=(bP c).fs++[⟨f.op,f.par,f.res,c.live,c.live⟩]}:=by
 have e:(bP (gX c s c.fs f)).fs=(bP c).fs++[⟨f.op,f.par,f.res,c.live,c.live⟩]:=by
  have hl:(gX c s c.fs f).fs.length=c.fs.length+1:=by simp[gX]
  refine Bj (by rw[cU,hl,Py,cU];rfl) fun i hi=>?_
  rw[cU,hl]at hi
  rw[iS _ (by rw[hl];exact hi)]
  rcases PG i c.fs.length with h|h
  ·rw[iH (by rw[cU];exact h),iS c h]
   have h1:ix (gX c s c.fs f).fs i=ix c.fs i:=iH h
   have h2:(gX c s c.fs f).ir i=c.ir i:=by
    unfold dv.ir
    rw[hl,if_pos Pi]
    by_cases h3:i+1<c.fs.length
    ·rw[if_pos h3];show(ix (c.fs++[f]) (i+1)).lq=_;rw[iH h3]
    ·rw[if_neg h3];show(ix (c.fs++[f]) (i+1)).lq=_;rw[gN Pi,show i+1 - c.fs.length=0 by omega];exact hf
   unfold rX
   rw[h1,h2]
  ·obtain rfl:i=c.fs.length:=by omega
   rw[gN (by rw[cU];exact Px _),cU,PU]
   have h1:ix (gX c s c.fs f).fs c.fs.length=f:=by show ix (c.fs++[f]) c.fs.length=f;rw[gN (Px _),PU];rfl
   have h2:(gX c s c.fs f).ir c.fs.length=c.live:=by
    unfold dv.ir;rw[hl,if_neg Pi];exact hf
   unfold rX
   rw[h1,h2,hf];rfl
 show(⟨_,(bP (gX c s c.fs f)).fs,_⟩:gA)=_
 rw[e];rfl
theorem Iq {k:Int} (h:k=2∨k=3∨k=4) (par res:List Int) (b:Bool):(⟨k,par,res,false,b⟩:n7).op=k:=by
 have:=h;clear this
 unfold n7.op
 dsimp only
 rw[if_neg Pi,if_neg Ph]
theorem Fc (c:dv) (op:Int) (f:aO) (hb:c.broken=0):(ju c op f.params f.results).2=(og (bP c) op f).2∧((ju c op f.params f.results).2=0→bP (ju c op f.params f.results).1=(og (bP c) op f).1):=by
 unfold ju og
 rw[if_neg (fun h=>h hb)]
 by_cases h1:op≠2∧op≠3∧op≠4
 ·rw[if_pos h1,if_pos h1];exact⟨rfl,fun _=>rfl⟩
 rw[if_neg h1,if_neg h1,cU]
 by_cases h2:c.fs.length=0
 ·rw[if_pos h2,if_pos h2];exact⟨rfl,fun _=>rfl⟩
 rw[if_neg h2,if_neg h2]
 rw[show(bP c).ao=c.ao from rfl]
 dsimp only
 obtain⟨a,ha⟩:∃a,(if op=4 then aL c.ao [1]else(c.ao,0))=a:=⟨_,rfl⟩
 rw[ha]
 by_cases h3:a.2≠0
 ·rw[if_pos h3,if_pos h3];exact⟨rfl,fun h=>absurd h h3⟩
 rw[if_neg h3,if_neg h3]
 by_cases h4:(aL a.1 f.params).2≠0
 ·rw[if_pos h4,if_pos h4];exact⟨rfl,fun h=>absurd h h4⟩
 rw[if_neg h4,if_neg h4]
 refine⟨rfl,fun _=>?_⟩
 dsimp only
 rw[BU c _ ⟨op,f.params,f.results,false,c.live⟩ rfl,Iq Pi,iS c Pi]
 unfold rX
 rw[tQ c Pi]
theorem Jl {c:dv} (h:c.Ok) {i:Nat} (hi:i<c.fs.length):(ix c.fs i).op=3↔(ix c.fs i).kind=3:=by
 have h1:=h.other i hi
 unfold n7.op
 by_cases h0:(ix c.fs i).kind=0
 ·rw[if_pos h0];omega
 rw[if_neg h0]
 by_cases h2:(ix c.fs i).other=true
 ·rw[if_pos h2];have:=h1 h2;omega
 ·rw[if_neg h2]
theorem Jm {c:dv} (h:c.Ok) {i:Nat} (_hi:i<c.fs.length):(ix c.fs i).op=4↔(ix c.fs i).kind=4∧(ix c.fs i).other=false:=by
 have:=h;clear this
 unfold n7.op
 by_cases h0:(ix c.fs i).kind=0
 ·rw[if_pos h0];omega
 rw[if_neg h0]
 cases h2:(ix c.fs i).other with
 |true=>rw[if_pos rfl];simp
 |false=>rw[if_neg Ph];simp
theorem Fo (c:dv) (n:Int) (hb:c.broken=0) (hk:c.Ok):cT c n=if n<0∨(bP c).fs.length≤n then([],15)else(if(ix (bP c).fs ((bP c).fs.length - 1 - n.toNat)).op=3 then(ix (bP c).fs ((bP c).fs.length - 1 - n.toNat)).par else(ix (bP c).fs ((bP c).fs.length - 1 - n.toNat)).res,0):=by
 unfold cT
 rw[if_neg (fun h=>h hb),cU]
 by_cases h:n<0∨(c.fs.length:Int)≤n
 ·rw[if_pos h,if_pos h]
 have hi:c.fs.length - 1 - n.toNat<c.fs.length:=by omega
 rw[if_neg h,if_neg h,iS c hi]
 dsimp only
 by_cases h3:(ix c.fs (c.fs.length - 1 - n.toNat)).kind=3
 ·rw[if_pos h3,if_pos (show(rX c (c.fs.length - 1 - n.toNat)).op=3 from(Jl hk hi).2 h3)];rfl
 ·rw[if_neg h3,if_neg (show¬(rX c (c.fs.length - 1 - n.toNat)).op=3 from fun h=>h3 ((Jl hk hi).1 h))];rfl
theorem Ee (c:dv) (hb:c.broken=0):qX c=(bP c).results:=by unfold qX;rw[if_neg (fun h=>h hb)];rfl
theorem FZ (c:dv) (s:ck) (_hn:0<c.fs.length):bP {c with ao:=s,fs:=c.fs.take (c.fs.length - 1),live:=c.top.lq}={bP c with ao:=s,fs:=(bP c).fs.take (c.fs.length - 1)}:=by
 have hl:(c.fs.take (c.fs.length - 1)).length=c.fs.length - 1:=by rw[Pz];omega
 have e:(bP {c with ao:=s,fs:=c.fs.take (c.fs.length - 1),live:=c.top.lq}).fs=(bP c).fs.take (c.fs.length - 1):=by
  refine Bj (by rw[cU];show(c.fs.take _).length=_;rw[hl,Pz,cU];omega) fun i hi=>?_
  rw[cU]at hi
  have hi:i<c.fs.length - 1:=by rw[←hl];exact hi
  rw[iS _ (by show i<(c.fs.take _).length;rw[hl];exact hi),jk hi (by rw[cU];omega),iS c Pi]
  have h1:ix (c.fs.take (c.fs.length - 1)) i=ix c.fs i:=jk hi Pi
  have h2:({c with ao:=s,fs:=c.fs.take (c.fs.length - 1),live:=c.top.lq}:dv).ir i=c.ir i:=by
   unfold dv.ir
   dsimp only
   rw[hl,if_pos (show i+1<c.fs.length by omega)]
   by_cases h3:i+1<c.fs.length - 1
   ·rw[if_pos h3,jk h3 Pi]
   ·rw[if_neg h3]
    unfold dv.top
    rw[show c.fs.length - 1=i+1 by omega]
  unfold rX
  rw[h2]
  dsimp only
  rw[h1]
 show(⟨_,(bP {c with ao:=s,fs:=c.fs.take (c.fs.length - 1),live:=c.top.lq}).fs,_⟩:gA)=_
 rw[e];rfl
theorem Ft (c:dv) (hb:c.broken=0) (hk:c.Ok):(kb c).2=(rD (bP c)).2∧((kb c).2=0→bP (kb c).1=(rD (bP c)).1):=by
 unfold kb rD
 rw[if_neg (fun h=>h hb),cU]
 by_cases h2:c.fs.length=0
 ·rw[if_pos h2,if_pos h2];exact⟨rfl,fun _=>rfl⟩
 rw[if_neg h2,if_neg h2,iS c Pi,show(bP c).ao=c.ao from rfl]
 have h4:=Jm hk (i:=c.fs.length - 1) Pi
 dsimp only
 by_cases h3:(cQ c.ao c.top.res).2≠0
 ·rw[if_pos h3,if_pos (show(cQ c.ao (rX c (c.fs.length - 1)).res).2≠0 from h3)];exact⟨rfl,fun h=>absurd h h3⟩
 rw[if_neg h3,if_neg (show¬(cQ c.ao (rX c (c.fs.length - 1)).res).2≠0 from h3)]
 by_cases h5:c.top.kind=4∧c.top.other=false∧c.top.par≠c.top.res
 ·rw[if_pos h5,if_pos (show(rX c (c.fs.length - 1)).op=4∧(rX c (c.fs.length - 1)).par≠(rX c (c.fs.length - 1)).res from⟨h4.2 ⟨h5.1,h5.2.1⟩,h5.2.2⟩)]
  exact⟨rfl,fun h=>by cases h⟩
 ·rw[if_neg h5,if_neg (show¬((rX c (c.fs.length - 1)).op=4∧(rX c (c.fs.length - 1)).par≠(rX c (c.fs.length - 1)).res)from fun h=>h5 ⟨(h4.1 h.1).1,(h4.1 h.1).2,h.2⟩)]
  refine⟨rfl,fun _=>?_⟩
  exact FZ c _ Pi
theorem xG (c c2:dv) (g:Gf) (_hn:0<c.fs.length) (hr:c2.results=c.results) (hl:c2.fs.length=c.fs.length) (hp:∀i,i<c.fs.length - 1→ix c2.fs i=ix c.fs i) (hw:(ix c2.fs (c.fs.length - 1)).lq=c.top.lq) (hg:rX c2 (c.fs.length - 1)=g):bP c2={bP c with ao:=c2.ao,fs:=(bP c).fs.take ((bP c).fs.length - 1)++[g]}:=by
 have e:(bP c2).fs=(bP c).fs.take ((bP c).fs.length - 1)++[g]:=by
  have ht:((bP c).fs.take ((bP c).fs.length - 1)).length=c.fs.length - 1:=by rw[Pz,cU];omega
  refine Bj (by rw[cU,hl,Py,ht];show _=_+1;omega) fun i hi=>?_
  rw[cU,hl]at hi
  rw[iS _ (by rw[hl];exact hi)]
  rcases PG i (c.fs.length - 1)with h|h
  ·rw[iH (by rw[ht];exact h),jk (by rw[cU];exact h) Pi,iS c hi]
   have h2:c2.ir i=c.ir i:=by
    unfold dv.ir
    rw[hl,if_pos (show i+1<c.fs.length by omega),if_pos (show i+1<c.fs.length by omega)]
    by_cases h3:i+1<c.fs.length - 1
    ·rw[hp _ h3]
    ·have h4:i+1=c.fs.length - 1:=by omega
     rw[h4,hw];rfl
   unfold rX
   rw[h2,hp i h]
  ·obtain rfl:i=c.fs.length - 1:=by omega
   rw[gN (by rw[ht];exact Px _),ht,PU,hg];rfl
 show(⟨_,(bP c2).fs,c2.results⟩:gA)=_
 rw[e,hr];rfl
theorem ya (c:dv) (hb:c.broken=0):bP (iG c)=gk (bP c):=by
 unfold iG gk
 rw[cU]
 by_cases hn:c.fs.length=0
 ·rw[if_pos (.inr hn),if_pos hn]
 rw[if_neg (fun h=>h.elim (fun h=>h hb) hn),if_neg hn]
 unfold pw
 rw[xG c {c with ao:=dG c.ao,live:=false} {ix (bP c).fs ((bP c).fs.length - 1)with live:=false} Pi rfl rfl (fun _ _=>rfl) rfl ?_]
 ·rfl
 ·rw[cU,iS c Pi]
  unfold rX
  have:({c with ao:=dG c.ao,live:=false}:dv).ir (c.fs.length - 1)=false:=by unfold dv.ir;rw[if_neg (show¬c.fs.length - 1+1<c.fs.length by omega)]
  rw[this]
theorem else_eq (c:dv) (hb:c.broken=0) (hk:c.Ok):(mF c).2=(xi (bP c)).2∧((mF c).2=0→bP (mF c).1=(xi (bP c)).1):=by
 unfold mF xi
 rw[if_neg (fun h=>h hb),cU]
 by_cases h2:c.fs.length=0
 ·rw[if_pos (.inl h2),if_pos (.inl h2)];exact⟨rfl,fun _=>rfl⟩
 have h4:=Jm hk (i:=c.fs.length - 1) Pi
 rw[iS c Pi,show(bP c).ao=c.ao from rfl]
 by_cases h1:c.top.kind≠4∨c.top.other=true
 ·have h5:(rX c (c.fs.length - 1)).op≠4:=fun h=>by
   have:=h4.1 h
   rcases h1 with h1|h1
   ·exact h1 this.1
   ·have h6:c.top.other=false:=this.2
    rw[h6]at h1;cases h1
  rw[if_pos (.inr h1),if_pos (.inr h5)];exact⟨rfl,fun _=>rfl⟩
 have hk4:c.top.kind=4:=Classical.byContradiction fun h=>h1 (.inl h)
 have ho:c.top.other=false:=by
  cases h:c.top.other with
  |false=>rfl
  |true=>exact absurd (.inr h) h1
 have h5:(rX c (c.fs.length - 1)).op=4:=h4.2 ⟨hk4,ho⟩
 rw[if_neg (show¬(c.fs.length=0∨c.top.kind≠4∨c.top.other=true)from fun h=>h.elim h2 h1),if_neg (show¬(c.fs.length=0∨(rX c (c.fs.length - 1)).op≠4)from fun h=>h.elim h2 fun h=>h h5)]
 dsimp only
 by_cases h3:(cQ c.ao c.top.res).2≠0
 ·rw[if_pos h3,if_pos (show(cQ c.ao (rX c (c.fs.length - 1)).res).2≠0 from h3)];exact⟨rfl,fun h=>absurd h h3⟩
 rw[if_neg h3,if_neg (show¬(cQ c.ao (rX c (c.fs.length - 1)).res).2≠0 from h3)]
 refine⟨rfl,fun _=>?_⟩
 have ht:(c.fs.take (c.fs.length - 1)).length=c.fs.length - 1:=by rw[Pz];omega
 have hl:(c.fs.take (c.fs.length - 1)++[{c.top with other:=true}]).length=c.fs.length:=by rw[Py,ht];show _+1=_;omega
 have hlast:ix (c.fs.take (c.fs.length - 1)++[{c.top with other:=true}]) (c.fs.length - 1)={c.top with other:=true}:=by rw[gN (by rw[ht];exact Px _),ht,PU];rfl
 have:=xG c (gX c (cQ c.ao c.top.res).1 (c.fs.take (c.fs.length - 1)) {c.top with other:=true}) {rX c (c.fs.length - 1)with op:=5,live:=c.top.lq} Pi rfl hl (fun i hi=>by
  show ix (c.fs.take (c.fs.length - 1)++[{c.top with other:=true}]) i=_
  rw[iH (by rw[ht];exact hi),jk hi Pi]) (by
  show(ix (c.fs.take (c.fs.length - 1)++[{c.top with other:=true}]) (c.fs.length - 1)).lq=_
  rw[hlast]) (by
  unfold rX
  have e1:(gX c (cQ c.ao c.top.res).1 (c.fs.take (c.fs.length - 1)) {c.top with other:=true}).ir (c.fs.length - 1)=c.top.lq:=by
   unfold dv.ir
   refine(if_neg ?_).trans rfl
   show¬c.fs.length - 1+1<(c.fs.take (c.fs.length - 1)++[{c.top with other:=true}]).length
   rw[hl];omega
  rw[e1]
  rw[show ix (gX c (cQ c.ao c.top.res).1 (c.fs.take (c.fs.length - 1)) {c.top with other:=true}).fs (c.fs.length - 1)={c.top with other:=true}from hlast]
  have e2:({c.top with other:=true}:n7).op=5:=by unfold n7.op;dsimp only;rw[if_neg (by rw[hk4];decide),if_pos rfl]
  rw[e2];rfl)
 rw[this]
 rw[cU]
 rfl
theorem GU (c:dv) (_hb:c.broken=0) (hn:0<c.fs.length):(ix (bP c).fs ((bP c).fs.length - 1)).live=c.live:=by
 rw[cU,iS c Pi]
 exact tQ c hn
def ic (s:ck) (op:Int):ck×Int:=
 if(if op=27 then aL s [1]else(s,0)).2≠0 then(if op=27 then aL s [1]else(s,0))else
 if(aZ (if op=27 then aL s [1]else(s,0)).1).2.2≠0 then((aZ (if op=27 then aL s [1]else(s,0)).1).1,(aZ (if op=27 then aL s [1]else(s,0)).1).2.2)else
 if op=26 then((aZ s).1,0)else
 if op=209 then(if(aZ s).2.1=1∨(aZ s).2.1=2 then((aZ s).1,12)else(aS (aZ s).1 [1],0))else
 if(aZ (aZ (aL s [1]).1).1).2.2≠0 then((aZ (aZ (aL s [1]).1).1).1,(aZ (aZ (aL s [1]).1).1).2.2)else
 if(aZ (aL s [1]).1).2.1=3∨(aZ (aL s [1]).1).2.1=4∨(aZ (aZ (aL s [1]).1).1).2.1=3∨(aZ (aZ (aL s [1]).1).1).2.1=4∨((aZ (aL s [1]).1).2.1≠(aZ (aZ (aL s [1]).1).1).2.1∧(aZ (aL s [1]).1).2.1≠0∧(aZ (aZ (aL s [1]).1).1).2.1≠0)then((aZ (aZ (aL s [1]).1).1).1,12)
 else(aS (aZ (aZ (aL s [1]).1).1).1 [if(aZ (aL s [1]).1).2.1=0 then(aZ (aZ (aL s [1]).1).1).2.1 else(aZ (aL s [1]).1).2.1],0)
theorem jM:(aZ s).1.ts.length≤s.ts.length:=by
 unfold aZ
 split
 ·dsimp only;rw[Pz];omega
 ·split<;>exact Px _
theorem oF (F D2:Nat→Prop) (s:ck) (y:jT) (v:Value) (xs:List Int) (w:World) (h:bw s F w y) (hI:ai D2 w v xs) (_hb:s.ts.length+xs.length≤17592186044416):Calls G.P 113 #[.agg (gw s y).toArray,v] w (IL (aS s xs) F w):=by
 obtain⟨p1,c1,p2,c2,p3,c3,rfl,k1,k2,k3⟩:=h.gx
 obtain⟨h1,h2,h3,-⟩:=h
 obtain⟨q,d,rfl,hl⟩:=hI.slice
 dsimp only at h1 h2 h3
 refine ae (l:=[_,_]) func113 rfl ntmps113 rfl (Ok.start w) ?_
 dsimp only[gw]
 repeat'(first|refine ar ?_|(refine aF fun b_=>?_)|(refine dy fun b_=>?_)|fail)
 refine aa.iP 0 fR 1 ?_
 refine aa.he (HE.gR (aY s.ts) rfl rfl (fun _=>aH) (jJ h1 ak) Pg rfl rfl rfl Pk Pk Pk (fj _) (by show(0+s.ts.length)*8≤_;omega) Pi (fun _ _=>Pu _)) rfl ?_
 intro v1 _
 simp only[Ps,Pp]
 refine aa.pure (φ:=∃p c,v1=.slice p s.ts.length c) (fun w' hw'=>?_) ?_
 ·obtain⟨p,c,e,_⟩:=aw (hw'.own (v:=v1));exact⟨p,c,e⟩
 rintro⟨p4,c4,rfl⟩
 repeat'(first|refine ar ?_|fail)
 refine aa.he (HE.gR (aY xs) rfl rfl (fun _=>aH) (jJ hI ak) Pg rfl rfl rfl Pk Pk Pk (fj _) (by show(s.ts.length+xs.length)*8≤_;omega) Pi (fun _ _=>Pu _)) rfl ?_
 intro v2 _
 refine aa.pure (φ:=∃p c,v2=.slice p (s.ts.length+xs.length) c∧s.ts.length+xs.length≤c) (fun w' hw'=>?_) ?_
 ·obtain⟨p,c,e,h,_⟩:=aw (hw'.own (v:=v2));exact⟨p,c,e,h⟩
 rintro⟨p5,c5,rfl,k5⟩
 repeat'(first|refine ar ?_|fail)
 refine aa.he (HE.yl (Yl.Jg rfl rfl)) rfl ?_
 rintro⟨⟩ _
 repeat'(first|refine ar ?_|fail)
 refine ah.bB (.inl rfl) rfl rfl rfl rfl rfl aH rfl fun w' hw'=>⟨⟨(⟨.slice p5 (s.ts.length+xs.length) c5,.slice p2 s.ps.length c2,.slice p3 s.ps.length c3⟩:jT),?_,ou (s.ts++xs) hw' ak bO Pj Pg Pe,h2.ka hw' ak,jn.ka h3 hw' ak,k5,k2,k3⟩,hw'.at⟩
 dsimp only[gw,aS]
 rw[CH]
theorem uK (y:jC) (w:World) (h:cG c F w y) (op:Int) (_ho:op=26) (hs:c.ao.Wf):Calls G.P 75 #[.agg (eO c y).toArray,.int .i64 op] w (gG (if(aZ c.ao).2.2≠0 then(c,(aZ c.ao).2.2)else({c with ao:=(aZ c.ao).1},0)) F w):=by
 obtain⟨p1,c1,p2,c2,p3,c3,p4,c4,p5,c5,ey,k4,h4,kz⟩:=h.gx
 obtain⟨y,fv,rv,z⟩:=y
 cases ey
 refine MO ?_
 dsimp only[eO]
 repeat'(first|refine ar ?_|(refine NX fun b_=>?_)|fail)
 obtain⟨b6,rfl⟩:∃y:Nat,y=b_:=⟨_,rfl⟩
 refine Nt ?_
 rintro⟨D1,x1⟩ _
 obtain⟨pr1,hpr1⟩:∃r,aZ c.ao=r:=⟨_,rfl⟩
 rw[hpr1]
 have wf1:pr1.1.Wf:=by rw[←hpr1];exact jm hs
 have pl1:pr1.1.ts.length≤c.ao.ts.length:=by rw[←hpr1];exact jM c.ao
 obtain⟨s1,a1,e1⟩:=pr1
 dsimp only at wf1 pl1 ⊢
 refine aa.pure (φ:=∃q1 d1 q2 d2 q3 d3,x1=⟨.slice q1 s1.ts.length d1,.slice q2 s1.ps.length d2,.slice q3 s1.ps.length d3⟩) (fun w' hw'=>by obtain⟨q1,d1,q2,d2,q3,d3,e,-⟩:=(hw'.an (V:=bw s1) (w0:=w) (F:=F) (D:=D1) (y:=x1) ak bO).gx;exact⟨q1,d1,q2,d2,q3,d3,e⟩) ?_
 rintro⟨r1,rc1,r2,rc2,r3,rc3,rfl⟩
 dsimp only[gw]
 by_cases he:e1=0
 ·subst he
  rw[if_neg (fun h=>h rfl)]
  repeat'(first|refine ar ?_|fail)
  refine Nq ?_
  rintro⟨⟩ _
  repeat'(first|refine ar ?_|fail)
  refine My ?_
  exact fun w' hw'=>gG.ao (D:=D1) ⟨.slice r1 s1.ts.length rc1,.slice r2 s1.ps.length rc2,.slice r3 s1.ps.length rc3⟩ h hw' ak bO
 ·rw[if_pos he]
  repeat'(first|refine ar ?_|fail)
  all_goals exact pp
theorem sP (y:jC) (w:World) (h:cG c F w y) (op:Int) (ho:op=209) (hs:c.ao.Wf) (hb:c.ao.ts.length+1≤17592186044416):Calls G.P 75 #[.agg (eO c y).toArray,.int .i64 op] w (gG (if(aZ c.ao).2.2≠0 then(c,(aZ c.ao).2.2)else if(aZ c.ao).2.1=1∨(aZ c.ao).2.1=2 then(c,12)else({c with ao:=aS (aZ c.ao).1 [1]},0)) F w):=by
 have:=ho;clear this;have:=hb;clear this
 obtain⟨p1,c1,p2,c2,p3,c3,p4,c4,p5,c5,ey,k4,h4,kz⟩:=h.gx
 obtain⟨y,fv,rv,z⟩:=y
 cases ey
 refine MO ?_
 dsimp only[eO]
 repeat'(first|refine ar ?_|(refine NX fun b_=>?_)|(refine bC ?_ ?_<;>intro hc_))
 obtain⟨b6,rfl⟩:∃y:Nat,y=b_:=⟨_,rfl⟩
 refine Nt ?_
 rintro⟨D1,x1⟩ _
 obtain⟨pr1,hpr1⟩:∃r,aZ c.ao=r:=⟨_,rfl⟩
 rw[hpr1]
 have wf1:pr1.1.Wf:=by rw[←hpr1];exact jm hs
 have pl1:pr1.1.ts.length≤c.ao.ts.length:=by rw[←hpr1];exact jM c.ao
 obtain⟨s1,a1,e1⟩:=pr1
 dsimp only at wf1 pl1 ⊢
 refine aa.pure (φ:=∃q1 d1 q2 d2 q3 d3,x1=⟨.slice q1 s1.ts.length d1,.slice q2 s1.ps.length d2,.slice q3 s1.ps.length d3⟩) (fun w' hw'=>by obtain⟨q1,d1,q2,d2,q3,d3,e,-⟩:=(hw'.an (V:=bw s1) (w0:=w) (F:=F) (D:=D1) (y:=x1) ak bO).gx;exact⟨q1,d1,q2,d2,q3,d3,e⟩) ?_
 rintro⟨r1,rc1,r2,rc2,r3,rc3,rfl⟩
 dsimp only[gw]
 by_cases he:e1=0
 ·subst he
  rw[if_neg (fun h=>h rfl)]
  by_cases hbad:a1=1∨a1=2
  ·rw[if_pos hbad]
   repeat'(first|refine ar ?_|(refine bC ?_ ?_<;>intro hc_))
   all_goals exact pp
  ·rw[if_neg hbad]
   have n1:a1≠1:=fun h=>hbad (.inl h)
   have n2:a1≠2:=fun h=>hbad (.inr h)
   repeat'(first|refine ar ?_|(refine bC ?_ ?_<;>intro hc_))
   refine bh.iB 5 [.aW b6 [.slice r1 s1.ts.length rc1,.slice r2 s1.ps.length rc2,.slice r3 s1.ps.length rc3,.int .i64 s1.bR] nZ] [Ext w] bz aU ?_
   repeat'(first|refine CZ ?_|(refine bA.lD ?_;refine bA.he rfl rfl (HE.jG rfl rfl rfl rfl rfl er Pk Pk) (fun _=>bz) (fun _=>aU) ?_;rintro bl _)|(refine bA.dA 118 ?_;refine bA.he rfl rfl (HE.eU rfl rfl (fun w' hw'=>gq _ _ _ w')) (fun _=>bz) (fun _=>aU) ?_;rintro⟨⟩ _)|(refine bA.dA 113 ?_;refine bA.he rfl rfl (HE.bV (V:=bw s1) (V2:=bw (aS s1 [1])) (tf:=fun y=>.agg (gw (aS s1 [1]) y).toArray) (w0:=w) (F:=F) (D:=D1) (y:=⟨.slice r1 s1.ts.length rc1,.slice r2 s1.ps.length rc2,.slice r3 s1.ps.length rc3⟩) (bw.fr _) (bw.lt _) (bw.mo _) ak bO (fun _=>aH) rfl rfl (fun w' hw' hh=>oF _ (fun k=>k=bl) s1 ⟨.slice r1 s1.ts.length rc1,.slice r2 s1.ps.length rc2,.slice r3 s1.ps.length rc3⟩ (.slice (some ⟨bl,0,none⟩) 1 1) [1] w' hh (dJ (hw'.m (.aW bl [.int .i64 1] fR) bO).1) (by show s1.ts.length+1≤_;omega))) (fun _=>bz) (fun _=>aU) ?_;rintro⟨D9,x9⟩ _;refine db.pure (φ:=∃q1 d1 q2 d2 q3 d3,x9=⟨.slice q1 (aS s1 [1]).ts.length d1,.slice q2 (aS s1 [1]).ps.length d2,.slice q3 (aS s1 [1]).ps.length d3⟩) (fun w' hw'=>by obtain⟨q1,d1,q2,d2,q3,d3,e,-⟩:=(hw'.an (V:=bw (aS s1 [1])) (w0:=w) (F:=F) (D:=D9) (y:=x9) ak bO).gx;exact⟨q1,d1,q2,d2,q3,d3,e⟩) ?_;rintro⟨v1,vc1,v2,vc2,v3,vc3,rfl⟩;dsimp only[gw])|(refine bA.iO rfl (gj.iu [.slice v1 (aS s1 [1]).ts.length vc1,.slice v2 (aS s1 [1]).ps.length vc2,.slice v3 (aS s1 [1]).ps.length vc3,.int .i64 (aS s1 [1]).bR] [.slice v1 (aS s1 [1]).ts.length vc1,.slice v2 (aS s1 [1]).ps.length vc2,.slice v3 (aS s1 [1]).ps.length vc3,.int .i64 (aS s1 [1]).bR,.slice p4 c.fs.length c4,.slice p5 c.results.length c5,.int .i64 0] rfl rfl rfl rfl rfl rfl aH rfl rfl) ?_;rintro⟨⟩ _)|refine db.any O9 ?_|exact cw.fin rfl|refine cw.skip O9 ?_|refine cw.go ?_ ?_)
   all_goals
    repeat'(first|refine ar ?_|(refine bC ?_ ?_<;>intro hc_))
    refine My ?_
    exact fun w' hw'=>gG.ao (s:=(aS s1 [1])) (D:=D9) ⟨.slice v1 (aS s1 [1]).ts.length vc1,.slice v2 (aS s1 [1]).ps.length vc2,.slice v3 (aS s1 [1]).ps.length vc3⟩ h hw' ak bO
 ·rw[if_pos he]
  repeat'(first|refine ar ?_|(refine bC ?_ ?_<;>intro hc_))
  all_goals exact pp
end Go.Proofs.YtdkcljdfbemnbaaGreatDoor
