import Derived.Test.YtdkcljdfbemnbaaGreatDoorJOa
namespace Go.Proofs.YtdkcljdfbemnbaaGreatDoor
open Go.RowKit _root_.Go.Proofs.Tryz
set_option maxHeartbeats 16000000
open List renaming append_nil→PS,cons_append→Pq,getElem?_eq_getElem→Pw,length_map→PV,nil_append→Pp,nil_sublist→PN,range→PH,take_length→PA
open Nat renaming le_trans→PE,lt_of_lt_of_le→PB,zero_add→Ps,zero_le→Pu
open Value renaming bool→Po,int→Pm,slice→Pn
set_option maxRecDepth 100000
theorem aC.FD {β:Type} {w w1 w':World} {tf:β→Value} {φ:β→Prop} {M1:β→List bu} {e:Ending} (hx:Ext w w1) (h:aC [] w1 tf φ M1 e w'):aC [] w tf φ M1 e w':=by
 obtain⟨x,e1,h1,h2,h3,h4⟩:=h
 refine⟨x,e1,h1,h2,hx.any.trans h3,fun k hk hlt=>h4 k hk (PB hlt hx.size)⟩
theorem bh.oA {Q:Exit→Act→World→Prop} {n:Nat} {c:Code} {E:Env} {M:List bu} {R:List (World→Prop)} (h:∀w1,Ok M R w1→bh Q n c E [] [Ext w1]):bh Q n c E M R:=⟨fun w1 hw=>(h w1 hw).h w1 (Ok.start w1)⟩
theorem aa.oA {ops:Array Oper} {Q:Exit→Act→World→Prop} {n:Nat} {l:List Oper} {E:Env} {M:List bu} {R:List (World→Prop)} (h:∀w1,Ok M R w1→aa ops Q n l E [] [Ext w1]):aa ops Q n l E M R:=⟨fun w1 hw=>(h w1 hw).h w1 (Ok.start w1)⟩
variable (os:Os) {H:Type} {F:Nat→Prop} {w:World}
theorem gQ.IS {b T s:Nat} {cs:List Value} (h:gQ w b cs T) (__hs:cs.length=s):∀j,j<s→w.cell? ⟨b,0+j,none⟩=cs[j]?:=fun j hj=>by
 rw[Ps,Pw Pi]
 exact h.cell (Pw Pi)
def EG (T:Nat) (m:af) (i:Int) (w:World):Ending→World→Prop:=gD w (fun z:Value×List Value×(Nat→Prop)=>.tuple #[z.1,.int .i64 (tu m i).1,.int .i64 (tu m i).2]) (fun z=>iC T z.1 z.2.1 z.2.2 ((kA m i).getD []))
abbrev rl:Nat:=71
theorem BT (F:Nat→Prop) (m:af) (cs:List Value) (i:Int) (w:World) (hm:au F w cs m) (hF:∀k,F k→k<w.heap.size) (h0:fK w) (hB:sw m):Calls G.P 23 #[.agg cs.toArray,.int .i64 i] w (EG rl m i w):=by
 have hm0:=hm
 have hloc:∀r,nX m i=r→nU m i=r.map (kr m i):=fun r h=>by unfold nU;rw[h]
 obtain⟨v0,v1,v2,v3,v4,v5,v6,v7,v8,v9,rfl,r0,r1,r2,r3,r4,r5,r6,r7,r8,r9,g0⟩:=hm;obtain⟨p0,c0,rfl,l0⟩:=r0.slice;obtain⟨p1,c1,rfl,l1⟩:=r1.slice;obtain⟨p2,c2,rfl,l2⟩:=r2.slice;obtain⟨p3,c3,rfl,l3⟩:=r3.slice;obtain⟨p4,c4,rfl,l4⟩:=r4.slice;obtain⟨p5,c5,rfl,l5⟩:=r5.slice;obtain⟨p6,c6,rfl,l6⟩:=r6.slice;obtain⟨p7,c7,rfl,l7⟩:=r7.slice;obtain⟨p8,c8,rfl,l8⟩:=r8.slice;obtain⟨p9,c9,rfl,l9⟩:=r9.slice
 unfold EG gD kA
 cases ht:nX m i with
 |none=>
  have eC:tu m i=(0,11):=by unfold tu;rw[ht]
  rw[eC,if_neg Ph]
  refine ae (l:=[_,_]) func23 rfl ntmps23 rfl (Ok.start w) ?_
  repeat'(first|refine ar ?_|(refine aF fun b_=>?_)|fail)
  refine aa.he (HE.bJ (M0:=[]) nK.nil rfl rfl (fun w' hw'=>by have:=nz F m ([Pn p0 m.types.length c0,Pn p1 m.imports.length c1,Pn p2 m.funcs.length c2,Pn p3 m.tables.length c3,Pn p4 m.bQ.length c4,Pn p5 m.globals.length c5,Pn p6 m.aJ.length c6,Po m.aI,Pm .i64 m.start,Pn p7 m.elems.length c7,Pn p8 m.bg.length c8,Pn p9 m.bE.length c9]:List Value) i w' (hm0.aN (show Ext w w' from hw'.at) (fun _ _ _ h=>h)) (fun k hk=>PB (hF k hk) (show Ext w w' from hw'.at).size) hB;rw[hloc _ ht]at this;exact this)) rfl ?_
  rintro u _
  dsimp only[Pq,Pp,Option.map,Option.getD,Option.isSome]
  repeat'(first|refine ar ?_|fail)
  all_goals exact rx
 |some f=>
  obtain⟨hf,j,rfl,hj⟩:=m6 ht
  have hfl:=hB.ty f hf
  have hll:=hB.loc j hj
  have hlen:=hB.len j hj
  have hlab:=hB.kU j hj
  have eC:tu m j=if(fN (ix m.funcs j).body).2≠0 then fN (ix m.funcs j).body else Dv m (kr m j f) (ix m.funcs j).body (ix m.funcs j).body.length 0 (jP f.results):=by unfold tu;rw[ht];rfl
  have eS:Hw m j=A0 m (kr m j f) (ix m.funcs j).body (ix m.funcs j).body.length 0 (jP f.results):=by unfold Hw;rw[ht];rfl
  have hlocl:(kr m j f).length≤1048976:=by
   have:(kr m j f).length=f.params.length+(ix m.funcs j).locals.length:=by simp[kr]
   omega
  rw[eS]
  obtain⟨b,o,rfl,hF9,cs5,⟨u0,u1,rfl,q0,q1,q2⟩,hc⟩:=r2.el hj;obtain⟨x0,y0,rfl,z0⟩:=q0.slice;obtain⟨x1,y1,rfl,z1⟩:=q1.slice
  obtain⟨xs,hxs⟩:∃xs,(ix m.funcs j).body=xs:=⟨_,rfl⟩
  rw[hxs]at eC q1 hlen hlab hc ⊢
  refine ae (l:=[_,_]) func23 rfl ntmps23 rfl (Ok.start w) ?_
  refine MQ ?_
  repeat'(first|refine ar ?_|(refine aF fun b_=>?_)|fail)
  obtain⟨bm,rfl⟩:∃y:Nat,y=b_:=⟨_,rfl⟩
  refine aa.he (HE.bJ (M0:=[]) nK.nil rfl rfl (fun w' hw'=>by have:=nz F m ([Pn p0 m.types.length c0,Pn p1 m.imports.length c1,Pn (some ⟨b,o,none⟩) m.funcs.length c2,Pn p3 m.tables.length c3,Pn p4 m.bQ.length c4,Pn p5 m.globals.length c5,Pn p6 m.aJ.length c6,Po m.aI,Pm .i64 m.start,Pn p7 m.elems.length c7,Pn p8 m.bg.length c8,Pn p9 m.bE.length c9]:List Value) j w' (hm0.aN (show Ext w w' from hw'.at) (fun _ _ _ h=>h)) (fun k hk=>PB (hF k hk) (show Ext w w' from hw'.at).size) hB;rw[hloc _ ht]at this;exact this)) rfl ?_
  rintro u _
  dsimp only[Pq,Pp,Option.map,Option.getD,Option.isSome]
  generalize kr m j f=locals at*
  refine aa.pure (φ:=∃p c,u=.slice p locals.length c) (fun w' hw'=>?_) ?_
  ·obtain⟨p,c,e,_⟩:=aw (hw'.own (v:=u));exact⟨p,c,e⟩
  rintro⟨lp,lc,rfl⟩
  by_cases hck:(fN xs).2=0
  case neg=>
   rw[if_pos hck]at eC
   rw[eC,if_neg hck]
   repeat'(first|refine ar ?_|(refine aa.aj (f:=29) ?_;refine aa.he (HE.ze (F:=F) (r:=some f) ak hF rfl rfl (fun w' hw'=>by have:=oW F m ([Pn p0 m.types.length c0,Pn p1 m.imports.length c1,Pn (some ⟨b,o,none⟩) m.funcs.length c2,Pn p3 m.tables.length c3,Pn p4 m.bQ.length c4,Pn p5 m.globals.length c5,Pn p6 m.aJ.length c6,Po m.aI,Pm .i64 m.start,Pn p7 m.elems.length c7,Pn p8 m.bg.length c8,Pn p9 m.bE.length c9]:List Value) j w' (hm0.aN (show Ext w w' from hw'.at) (fun _ _ _ h=>h)) (fun k hk=>PB (hF k hk) (show Ext w w' from hw'.at).size);rw[ht]at this;exact this)) rfl ?_;rintro⟨D_,p_,c_,q_,d_⟩ hD_;dsimp only)|(refine ay fun b_=>?_)|(refine oy fun b_=>?_)|refine N5 ?_|fail)
   all_goals exact rx
  rw[if_neg (by rw[hck];decide)]at eC
  rw[eC]
  repeat'(first|refine ar ?_|(refine aa.aj (f:=29) ?_;refine aa.he (HE.ze (F:=F) (r:=some f) ak hF rfl rfl (fun w' hw'=>by have:=oW F m ([Pn p0 m.types.length c0,Pn p1 m.imports.length c1,Pn (some ⟨b,o,none⟩) m.funcs.length c2,Pn p3 m.tables.length c3,Pn p4 m.bQ.length c4,Pn p5 m.globals.length c5,Pn p6 m.aJ.length c6,Po m.aI,Pm .i64 m.start,Pn p7 m.elems.length c7,Pn p8 m.bg.length c8,Pn p9 m.bE.length c9]:List Value) j w' (hm0.aN (show Ext w w' from hw'.at) (fun _ _ _ h=>h)) (fun k hk=>PB (hF k hk) (show Ext w w' from hw'.at).size);rw[ht]at this;exact this)) rfl ?_;rintro⟨D_,p_,c_,q_,d_⟩ hD_;dsimp only)|(refine ay fun b_=>?_)|(refine oy fun b_=>?_)|refine N5 ?_|fail)
  refine aa.oA (fun w1 hw1=>?_)
  have hx1:Ext w w1:=hw1.at
  have hm1:au (fun _=>True) w1 ([Pn p0 m.types.length c0,Pn p1 m.imports.length c1,Pn (some ⟨b,o,none⟩) m.funcs.length c2,Pn p3 m.tables.length c3,Pn p4 m.bQ.length c4,Pn p5 m.globals.length c5,Pn p6 m.aJ.length c6,Po m.aI,Pm .i64 m.start,Pn p7 m.elems.length c7,Pn p8 m.bg.length c8,Pn p9 m.bE.length c9]:List Value) m:=(hm0.aN hx1 (fun _ _ _ h=>h)).mono (fun _ _ _=>trivial)
  have hl1:ai (fun _=>True) w1 (.slice lp locals.length lc) locals:=(dK (hw1.m (.own 0 fR 1 (.slice lp locals.length lc) locals.length (aY locals)) bO).1 Pi).mono (fun _ _ _=>trivial)
  have hq1:ai (fun _=>True) w1 (.slice q_ f.results.length d_) f.results:=((hw1.get (p:=sZ ((some f).getD dF) ⟨D_,p_,c_,q_,d_⟩) ak).2).mono (fun _ _ _=>trivial)
  have hbm1:=(show gQ w1 bm ([Pn p0 m.types.length c0,Pn p1 m.imports.length c1,Pn (some ⟨b,o,none⟩) m.funcs.length c2,Pn p3 m.tables.length c3,Pn p4 m.bQ.length c4,Pn p5 m.globals.length c5,Pn p6 m.aJ.length c6,Po m.aI,Pm .i64 m.start,Pn p7 m.elems.length c7,Pn p8 m.bg.length c8,Pn p9 m.bE.length c9]:List Value) jI from(hw1.m (.aW bm ([Pn p0 m.types.length c0,Pn p1 m.imports.length c1,Pn (some ⟨b,o,none⟩) m.funcs.length c2,Pn p3 m.tables.length c3,Pn p4 m.bQ.length c4,Pn p5 m.globals.length c5,Pn p6 m.aJ.length c6,Po m.aI,Pm .i64 m.start,Pn p7 m.elems.length c7,Pn p8 m.bg.length c8,Pn p9 m.bE.length c9]:List Value) jI) bO).1).IS (s:=12) rfl
  have hb1:fF (fun _=>True) w1 (.slice x1 xs.length y1) xs:=(q1.aN hx1 (fun _ _ _ h=>h)).mono (fun _ _ _=>trivial)
  have h01:=h0.ext hx1
  have hT:nb m:=hB.ty.b Ph
  clear hm0 q1 hc hloc
  refine aa.he (HE.qG (V:=cG (DQ f.results)) (w0:=w1) (F:=fun _=>True) (tf:=fun y=>.agg (eO (DQ f.results) y).toArray) (cG.fr _) (cG.lt _) (cG.mo _) ak rfl rfl (fun w' hw'=>Ed _ f.results _ w' (kk hq1 hw'.at _))) rfl ?_
  rintro⟨D1,yy⟩ _
  refine aa.pure (φ:=∃a1 n1 c1 a2 n2 c2 a3 n3 c3 a4 n4 c4 a5 n5 c5,∃z:List vI,yy=⟨⟨.slice a1 n1 c1,.slice a2 n2 c2,.slice a3 n3 c3⟩,.slice a4 n4 c4,.slice a5 n5 c5,z⟩) (fun w' hw'=>cG.sh (hw'.an (V:=cG (DQ f.results)) (w0:=w1) (F:=fun _=>True) (D:=D1) (y:=yy) ak bO)) ?_
  rintro⟨aa1,an1,ac1,aa2,an2,ac2,aa3,an3,ac3,aa4,an4,ac4,aa5,an5,ac5,az,rfl⟩
  dsimp only[eO]
  repeat'(first|refine ar ?_|(refine kX fun b_=>?_)|fail)
  obtain⟨b14,rfl⟩:∃y:Nat,y=b_:=⟨_,rfl⟩
  refine bh.map (fun w' h=>h.qh rl) ?_
  dsimp only[iC,Pq,Pp]
  refine bh.Fw (σ:=Nat×dv×(Nat→Prop)×jC×Value×List Value×(Nat→Prop)×List (Bool×List Int)) (fun q=>[(2,.pointer (some ⟨bm,0,none⟩)),(7,.slice lp locals.length lc),(11,.slice x1 xs.length y1),(14,.pointer (some ⟨b14,0,none⟩)),(15,q.2.2.2.2.1),(16,.int .i64 q.1)])
   (fun q=>.aW b14 (eO (bP q.2.1) q.2.2.2.1) sA::bu.an (cG (bP q.2.1)) w1 (fun _=>True) q.2.2.1 q.2.2.2.1::iC rl q.2.2.2.2.1 q.2.2.2.2.2.1 q.2.2.2.2.2.2.1 q.2.2.2.2.2.2.2) (fun _=>[Ext w1])
   (fun q=>q.1≤xs.length∧pO 1048576 f.results q.1 q.2.1∧Dv m locals xs (xs.length - q.1) q.1 q.2.1=Dv m locals xs xs.length 0 (jP f.results)∧q.2.2.2.2.2.2.2++A0 m locals xs (xs.length - q.1) q.1 q.2.1=A0 m locals xs xs.length 0 (jP f.results)) (fun q=>xs.length - q.1)
   (0,jP f.results,D1,⟨⟨.slice aa1 an1 ac1,.slice aa2 an2 ac2,.slice aa3 an3 ac3⟩,.slice aa4 an4 ac4,.slice aa5 an5 ac5,az⟩,.slice none 0 0,[],(fun _=>False),[]) bH ?_ aU ⟨Nat.zero_le _,pO.new f.results hfl.2,by rw[Nat.sub_zero],by rw[Nat.sub_zero];rfl⟩ ?_
  ·dsimp only[eO,iC,Pq,Pp]
   rw[F0]
   exact dV
  rintro⟨k,c,D1,yy,ov,tc,DS,l⟩ ⟨hk,hb,hgo,hL⟩
  dsimp only at hk hb hgo hL ⊢
  dsimp only[iC,Pq,Pp]
  by_cases hlt:k<xs.length
  case neg=>
   obtain rfl:k=xs.length:=by omega
   rw[Nat.sub_self]at hgo hL
   rw[show A0 m locals xs 0 xs.length c=[]from rfl,PS]at hL
   rw[←hgo,←hL,show Dv m locals xs 0 xs.length c=(0,0)from rfl,if_pos rfl]
   repeat'(first|refine ar ?_|fail)
   all_goals first|omega|exact ah.AB rfl rfl rfl rfl fun w' hw'=>aC.FD hx1 (aC.sF (x:=(ov,tc,DS)) trivial (hw'.dc (M':=iC rl ov tc DS l) dV (fun _ h=>h)) (List.Sublist.refl _) ak)
  have hLl:l.length≤400:=by
   have:=congrArg List.length hL
   rw[List.length_append,oZ,oZ]at this
   omega
  obtain⟨ib,io,rfl,-,hins⟩:=hb1.at hlt
  obtain⟨pt,ct,pl,cl,hti,hli,hc9⟩:=(hins k hlt).cells
  have hll:=hlab k hlt
  obtain⟨rC,hrC⟩:∃r,fD c m locals (ix xs k)=r:=⟨_,rfl⟩
  obtain⟨cC,e⟩:=rC
  have hgs:=zM hlt hrC
  have hss:=AP hlt hrC
  rw[hss]at hL
  rw[hgo]at hgs
  have hB2:IJ c m locals (ix xs k):=hb.bounds hB.ty Ph Ph hfl.2 Pi hll
  have hnx:=fun(e0:e=0) (ho:dB cC.ao=false)=>hb.next (m:=m) (locals:=locals) (x:=ix xs k) hB.ty Ph (by rw[hrC];exact e0) (by rw[hrC];exact ho)
  rw[hrC]at hnx
  have hbk:=hb.ka
  have hts:=hbk.ts
  have hal:=zx hbk.bk hbk.wf.ok hbk.wf.ao hbk.fit m locals (ix xs k)
  unfold GQ at hc9
  generalize ix xs k=x at*
  have hap:=fun D w' (hw':Ext w1 w') (hD:∀k,D k→k<w'.heap.size) y hh=>As (AF (fun _=>True) w1 D) c y m ([Pn p0 m.types.length c0,Pn p1 m.imports.length c1,Pn (some ⟨b,o,none⟩) m.funcs.length c2,Pn p3 m.tables.length c3,Pn p4 m.bQ.length c4,Pn p5 m.globals.length c5,Pn p6 m.aJ.length c6,Po m.aI,Pm .i64 m.start,Pn p7 m.elems.length c7,Pn p8 m.bg.length c8,Pn p9 m.bE.length c9]:List Value) locals x lp pt pl lc ct cl w' hh (GZ hm1 hw' D) (kk hl1 hw' D) (kk hti hw' D) (kk hli hw' D) (fun k hk=>hk.elim (fun h=>PB h.2 hw'.size) (hD k)) hT hbk.wf hbk.wf.ok hbk.bk hB2
  obtain⟨rR,hrR⟩:∃r,pQ (bP c) m locals x=r:=⟨_,rfl⟩
  rw[hrC]at hal
  rw[hrR]at hap hal
  obtain⟨cR,e'⟩:=rR
  obtain⟨he1,he2⟩:=hal
  dsimp only at he1 he2
  subst he1
  refine bh.pure (φ:=∃a1 c1 a2 n2 c2 a3 n3 c3 a4 n4 c4 a5 n5 c5,∃z:List vI,yy=⟨⟨.slice a1 c.ao.ts.length c1,.slice a2 n2 c2,.slice a3 n3 c3⟩,.slice a4 n4 c4,.slice a5 n5 c5,z⟩) (fun w' hw'=>by obtain⟨p1,c1,p2,c2,p3,c3,p4,c4,p5,c5,e,-⟩:=(hw'.an (V:=cG (bP c)) (w0:=w1) (F:=fun _=>True) (D:=D1) (y:=yy) ak bO).gx;exact⟨p1,c1,p2,_,c2,p3,_,c3,p4,_,c4,p5,_,c5,_,e⟩) ?_
  rintro⟨aa1,ac1,aa2,an2,ac2,aa3,an3,ac3,aa4,an4,ac4,aa5,an5,ac5,az,rfl⟩
  dsimp only[eO]
  repeat'(first|refine ar ?_|fail)
  refine aa.iP 0 fR 1 ?_
  refine aa.he (HE.zw c.ao.ts rfl rfl (fun _=>aH) (fun w' hw'=>(hw'.an (V:=cG (bP c)) (w0:=w1) (F:=fun _=>True) (D:=D1) (y:=⟨⟨.slice aa1 c.ao.ts.length ac1,.slice aa2 an2 ac2,.slice aa3 an3 ac3⟩,.slice aa4 an4 ac4,.slice aa5 an5 ac5,az⟩) ak bO).1.1) rfl rfl rfl Pk Pk Pk (by show(0+c.ao.ts.length)*8≤_;omega) Pi (fun _ _=>Pu _)) rfl ?_
  simp only[Ps,Pp]
  rintro _ ⟨pu,cu,rfl⟩
  repeat'(first|refine ar ?_|(refine aa.aj (f:=36) ?_;refine aa.av (v:=.bool c.live) rfl rfl rfl (fun w' hw'=>Aq _ c ⟨⟨.slice aa1 c.ao.ts.length ac1,.slice aa2 an2 ac2,.slice aa3 an3 ac3⟩,.slice aa4 an4 ac4,.slice aa5 an5 ac5,az⟩ w' (hw'.an (V:=cG (bP c)) (w0:=w1) (F:=fun _=>True) (D:=D1) (y:=⟨⟨.slice aa1 c.ao.ts.length ac1,.slice aa2 an2 ac2,.slice aa3 an3 ac3⟩,.slice aa4 an4 ac4,.slice aa5 an5 ac5,az⟩) ak bO) hbk.bk hbk.wf) ?_)|(refine fC fun b_ _=>?_)|fail)
  refine MM ?_
  intro ov2 _
  refine aa.map (fun w' hw'=>Ok.steps c.live c.ao.ts hw' jH jH rfl rfl Pi) ?_
  repeat'(first|refine ar ?_|fail)
  refine bh.cI [.aW b14 [.slice aa1 c.ao.ts.length ac1,.slice aa2 an2 ac2,.slice aa3 an3 ac3,.int .i64 (bP c).ao.bR,.slice aa4 an4 ac4,.slice aa5 an5 ac5,.int .i64 0] sA] [Ext w1] bz aU ?_
  refine aP.qy 1 rfl (Yl.ji rfl rfl rfl ak Pk Pk hbm1) ?_
  refine aP.qa 0 rfl ?_
  refine aP.qa 2 rfl ?_
  refine aP.qa 3 rfl ?_
  refine aP.qa 4 rfl ?_
  refine aP.qy 5 rfl (Yl.idx (i:=k) rfl rfl rfl rfl rfl Pi Pi) ?_
  refine aP.qy 6 rfl (Yl.ji rfl rfl rfl ak Pk Pk hc9) ?_
  repeat'(first|refine aP.any O9 ?_|exact aB.fin rfl|refine aB.skip O9 ?_|refine aB.go ?_ ?_)
  refine ax.dA 37 ?_;refine ax.he rfl rfl (HE.bV (V:=cG (bP c)) (V2:=fY (cR,e)) (tf:=fun x=>.tuple #[.agg x.2.toArray,.int .i64 e]) (w0:=w1) (F:=fun _=>True) (D:=D1) (y:=⟨⟨.slice aa1 c.ao.ts.length ac1,.slice aa2 an2 ac2,.slice aa3 an3 ac3⟩,.slice aa4 an4 ac4,.slice aa5 an5 ac5,az⟩) (fY.fr _) (fY.lt _) (fY.mo _) ak bO (fun _=>aH) rfl rfl (fun w' hw' hh=>by have h5:=(hw'.m (bu.an (cG (bP c)) w1 (fun _=>True) D1 ⟨⟨.slice aa1 c.ao.ts.length ac1,.slice aa2 an2 ac2,.slice aa3 an3 ac3⟩,.slice aa4 an4 ac4,.slice aa5 an5 ac5,az⟩) bO).2;have h6:=hap D1 w' hw'.at h5 _ hh;exact h6)) (fun _=>bz) (fun _=>aU) ?_;rintro⟨D7,y7,l7⟩ _;refine aP.pure (φ:=fH l7) (fun w' hw'=>(hw'.an (V:=fY (cR,e)) (w0:=w1) (F:=fun _=>True) (D:=D7) (y:=(y7,l7)) ak bO).1) ?_;rintro⟨q1,q2,q3,q4,q5,q6,q7,q8,q9,q10,q11,q12,q13,q14,q15,q16,q17,rfl⟩;dsimp only
  refine aP.qa 8 rfl ?_
  refine aP.qa 9 rfl ?_
  refine aP.qa 10 rfl ?_
  repeat'(first|refine aP.any O9 ?_|exact aB.fin rfl|refine aB.skip O9 ?_|refine aB.go ?_ ?_)
  refine ax.yf sA ?_;refine ax.he rfl rfl (HE.alloc (t:=sA) [.slice none 0 0,.slice none 0 0,.slice none 0 0,.int .i64 0,.slice none 0 0,.slice none 0 0,.int .i64 0] rfl rfl) (fun _=>bz) (fun _=>aU) ?_;intro b18 _
  repeat'(first|refine aP.any O9 ?_|exact aB.fin rfl|refine aB.skip O9 ?_|refine aB.go ?_ ?_)
  (refine ax.nj ?_;refine ax.jO rfl (gj.bn _ rfl rfl rfl rfl rfl rfl aH rfl) (fun _=>bz) (fun _=>aU) ?_;rintro⟨⟩ _)
  refine aP.qa 13 rfl ?_
  refine aP.nil O9 ?_
  rotate_left
  refine ax.yf sA ?_;refine ax.he rfl rfl (HE.alloc (t:=sA) [.slice none 0 0,.slice none 0 0,.slice none 0 0,.int .i64 0,.slice none 0 0,.slice none 0 0,.int .i64 0] rfl rfl) (fun _=>bz) (fun _=>aU) ?_;intro b18 _
  repeat'(first|refine aP.any O9 ?_|exact aB.fin rfl|refine aB.skip O9 ?_|refine aB.go ?_ ?_)
  refine ax.dA 37 ?_;refine ax.he rfl rfl (HE.bV (V:=cG (bP c)) (V2:=fY (cR,e)) (tf:=fun x=>.tuple #[.agg x.2.toArray,.int .i64 e]) (w0:=w1) (F:=fun _=>True) (D:=D1) (y:=⟨⟨.slice aa1 c.ao.ts.length ac1,.slice aa2 an2 ac2,.slice aa3 an3 ac3⟩,.slice aa4 an4 ac4,.slice aa5 an5 ac5,az⟩) (fY.fr _) (fY.lt _) (fY.mo _) ak bO (fun _=>aH) rfl rfl (fun w' hw' hh=>by have h5:=(hw'.m (bu.an (cG (bP c)) w1 (fun _=>True) D1 ⟨⟨.slice aa1 c.ao.ts.length ac1,.slice aa2 an2 ac2,.slice aa3 an3 ac3⟩,.slice aa4 an4 ac4,.slice aa5 an5 ac5,az⟩) bO).2;have h6:=hap D1 w' hw'.at h5 _ hh;exact h6)) (fun _=>bz) (fun _=>aU) ?_;rintro⟨D7,y7,l7⟩ _;refine aP.pure (φ:=fH l7) (fun w' hw'=>(hw'.an (V:=fY (cR,e)) (w0:=w1) (F:=fun _=>True) (D:=D7) (y:=(y7,l7)) ak bO).1) ?_;rintro⟨q1,q2,q3,q4,q5,q6,q7,q8,q9,q10,q11,q12,q13,q14,q15,q16,q17,rfl⟩;dsimp only
  refine aP.qa 8 rfl ?_
  refine aP.qa 9 rfl ?_
  refine aP.qa 10 rfl ?_
  repeat'(first|refine aP.any O9 ?_|exact aB.fin rfl|refine aB.skip O9 ?_|refine aB.go ?_ ?_)
  (refine ax.nj ?_;refine ax.jO rfl (gj.bn _ rfl rfl rfl rfl rfl rfl aH rfl) (fun _=>bz) (fun _=>aU) ?_;rintro⟨⟩ _)
  refine aP.qa 13 rfl ?_
  refine aP.nil O9 ?_
  all_goals
   by_cases he:e=0
   case neg=>
    rw[if_pos he]at hgs
    rw[hgs,if_neg he]
    repeat'(first|refine ar ?_|fail)
    exact t6
   subst he
   obtain rfl:=he2 rfl
   rw[if_neg Ph]at hgs
   repeat'(first|refine ar ?_|fail)
   refine aa.pure (φ:=∃a1 n1 c1 a2 n2 c2 a3 n3 c3 a4 n4 c4 a5 n5 c5,∃z:List vI,y7=⟨⟨.slice a1 n1 c1,.slice a2 n2 c2,.slice a3 n3 c3⟩,.slice a4 n4 c4,.slice a5 n5 c5,z⟩∧[.slice q1 q2 q3,.slice q4 q5 q6,.slice q7 q8 q9,.int .i64 q10,.slice q11 q12 q13,.slice q14 q15 q16,.int .i64 q17]=eO (bP cC) y7) (fun w' hw'=>by have hv:=hw'.an (V:=fY (bP cC,0)) (w0:=w1) (F:=fun _=>True) (D:=D7) (y:=(y7,[.slice q1 q2 q3,.slice q4 q5 q6,.slice q7 q8 q9,.int .i64 q10,.slice q11 q12 q13,.slice q14 q15 q16,.int .i64 q17])) ak bO;obtain⟨h1,h2⟩:=hv.2 rfl;obtain⟨a1,n1,c1,a2,n2,c2,a3,n3,c3,a4,n4,c4,a5,n5,c5,z,e⟩:=h2.sh;exact⟨a1,n1,c1,a2,n2,c2,a3,n3,c3,a4,n4,c4,a5,n5,c5,z,e,h1⟩) ?_
   rintro⟨ea1,en1,ec1,ea2,en2,ec2,ea3,en3,ec3,ea4,en4,ec4,ea5,en5,ec5,ez,rfl,hq⟩
   dsimp only[eO]at hq
   simp only[List.cons.injEq,Pn.injEq,Pm.injEq,and_true,true_and]at hq
   obtain⟨⟨rfl,rfl,rfl⟩,⟨rfl,rfl,rfl⟩,⟨rfl,rfl,rfl⟩,rfl,⟨rfl,rfl,rfl⟩,⟨rfl,rfl,rfl⟩,rfl⟩:=hq
   refine aa.tp (V:=fY (bP cC,0)) (V2:=cG (bP cC)) (w0:=w1) (F:=fun _=>True) (D:=D7) (⟨⟨.slice q1 q2 q3,.slice q4 q5 q6,.slice q7 q8 q9⟩,.slice q11 q12 q13,.slice q14 q15 q16,ez⟩:jC) aH (fun D w h=>(h.2 rfl).2) ?_
   obtain⟨ob,hob⟩:∃b,dB cC.ao=b:=⟨_,rfl⟩
   have hov:=fun w' (hw':bw cC.ao (AF (fun _=>True) w1 D7) w' ⟨.slice q1 q2 q3,.slice q4 q5 q6,.slice q7 q8 q9⟩)=>BM _ cC.ao _ w' hw'
   rw[hob]at hgs hov
   cases ob with
   |true=>
    rw[if_pos rfl]at hgs
    rw[hgs,if_neg (show¬((6:Int)=0)by decide)]
    repeat'(first|refine ar ?_|refine N2 ?_|fail)
    exact t6
   |false=>
    rw[if_neg Ph]at hgs
    repeat'(first|refine ar ?_|refine N2 ?_|fail)
    exact ah.Fz (k+1,cC,D7,⟨⟨.slice q1 q2 q3,.slice q4 q5 q6,.slice q7 q8 q9⟩,.slice q11 q12 q13,.slice q14 q15 q16,ez⟩,ov2,tc++[Po c.live,Pn pu c.ao.ts.length cu],(fun k=>DS k∨(Pn pu c.ao.ts.length cu).ownBlock=some k),l++[(c.live,c.ao.ts)]) bH (by dsimp only[eO,iC,Pq,Pp];rw[show(l++[(c.live,c.ao.ts)]).length=l.length+1 from by simp];exact dV) aU ⟨by show k+1≤xs.length;omega,hnx rfl hob,hgs.symm,by dsimp only;rw[List.append_assoc];exact hL⟩ (by show xs.length - (k+1)<xs.length - k;omega)
def mD:sY (Bool×List Int):=fun F w b o x=>∃p c,w.cell? ⟨b,o,none⟩=some (.bool x.1)∧w.cell? ⟨b,o+1,none⟩=some (.slice p x.2.length c)∧ai F w (.slice p x.2.length c) x.2
theorem mD.fr:Fr mD:=fun⟨p,c,h1,h2,h3⟩ hc hF hd=>⟨p,c,hc.cell (hd _ (fy h1) hF) h1,hc.cell (hd _ (fy h2) hF) h2,h3.aN hc hd⟩
theorem mD.ce:Ce mD:=fun⟨_,_,h1,_⟩=>fy h1
theorem mD.mo:Mo mD:=fun⟨p,c,h1,h2,h3⟩ hd=>⟨p,c,h1,h2,h3.mono hd⟩
abbrev gB (F:Nat→Prop) (w:World) (v:Value) (l:List (Bool×List Int)):Prop:=gF 2 1000000 mD F w v l
theorem gB.aN {F S:Nat→Prop} {w w':World} {v:Value} {l:List (Bool×List Int)} (h:gB F w v l) (hc:bX S w w') (hd:∀k,k<w.heap.size→F k→¬S k):gB F w' v l:=gF.aN mD.fr mD.ce h hc hd
theorem gB.ext {w w':World} {v:Value} {l:List (Bool×List Int)} (h:gB F w v l) (hc:Ext w w'):gB F w' v l:=h.aN hc (fun _ _ _ h=>h)
theorem zo {B T:Nat} {D F:Nat→Prop} {w:World} {lv:Value} {tc:List Value} {l:List (Bool×List Int)} (h:w.ownsRow B T 2 lv l.length tc) (hs:ep D w (tc,l)) (hl:l.length≤1000000) (hF:∀k,B≤k→F k) (hD:∀k,D k→F k):gB F w lv l:=by
 obtain⟨p,c,rfl,_,_,hg⟩:=aw h
 refine⟨p,c,rfl,hl,?_⟩
 by_cases h0:l.length=0
 ·exact t7
 obtain⟨g,rfl,hgB,-⟩:=hg Pi
 refine .inr ⟨g,0,rfl,hF g hgB,fun i hi=>?_⟩
 obtain⟨p',c',e1,e2,e3⟩:=hs.2 i hi
 dsimp only at e1 e2 e3
 rw[Ps]
 exact⟨p',c',dP h e1,dP h e2,e3.mono fun k _ hk=>hD k hk⟩
theorem B6 {α:Type} [Inhabited α] {xs ys:List α} {j:Nat} (hx:j<xs.length) (hy:j<ys.length) (h:xs.take j=ys.take j):xs.take (j+1)=ys.take (j+1)↔ix xs j=ix ys j:=by
 rw[bN hx,bN hy,h]
 constructor
 ·intro h;simpa using h
 ·intro h;rw[h]
theorem uX (F F':Nat→Prop) (a b:List (Bool×List Int)) (v u:Value) (w:World) (h:gB F w v a) (h':gB F' w u b):Calls G.P 14 #[v,u] w fun e w'=>e=.returned (.bool (decide (a=b)))∧Ext w w':=by
 obtain⟨p,c,rfl,hl⟩:=h.slice
 obtain⟨q,d,rfl,hl'⟩:=h'.slice
 refine ae (l:=[_,_]) func14 rfl ntmps14 rfl (Ok.start w) ?_
 by_cases hlen:a.length=b.length
 ·repeat'(first|refine ar ?_|fail)
  all_goals first|omega|skip
  refine bh.loop (σ:=Nat) (fun j=>[(0,.slice p a.length c),(1,.slice q b.length d),(5,.int .i64 j)]) (fun _=>[]) (fun _=>[Ext w]) (fun j=>j≤a.length∧a.take j=b.take j) (fun j=>a.length - j) 0 bH bz aU ⟨by omega,by simp⟩ ?_
  rintro j ⟨hj,heq⟩
  by_cases hjl:j<a.length
  ·obtain⟨b7,o7,rfl,-,hc⟩:=h.at hjl
   obtain⟨b8,o8,rfl,-,hc'⟩:=h'.at (show j<b.length by omega)
   have hst:=B6 hjl (show j<b.length by omega) heq
   obtain⟨px,cx,hcx,hcx2,hIx⟩:=hc j hjl
   obtain⟨py,cy,hcy,hcy2,hIy⟩:=hc' j Pi
   obtain⟨x,hx⟩:∃x,ix a j=x:=⟨_,rfl⟩
   obtain⟨y,hy⟩:∃y,ix b j=y:=⟨_,rfl⟩
   rw[hx]at hcx hcx2 hIx hst
   rw[hy]at hcy hcy2 hIy hst
   obtain⟨x1,xl⟩:=x
   obtain⟨y1,yl⟩:=y
   dsimp only at hcx hcx2 hIx hcy hcy2 hIy
   by_cases he1:x1=y1
   ·subst he1
    by_cases he:xl=yl
    ·subst he
     cases x1
     all_goals
      repeat'(first|refine ar ?_|fail)
      refine Mq ?_
      refine cq ?_
      refine aq.kR (v:=.bool true) rfl rfl rfl rfl (fun w' hw'=>by have:=qe F F' xl xl (.slice px xl.length cx) (.slice py xl.length cy) w' (hIx.aN (show Ext w w' from hw'.at) (fun _ _ _ h=>h)) (hIy.aN (show Ext w w' from hw'.at) (fun _ _ _ h=>h));rw[decide_eq_true rfl]at this;exact this) ?_
      refine cq ?_
      repeat'(first|refine ar ?_|fail)
      all_goals exact ah.next (j+1) bH bz aU ⟨by omega,hst.2 rfl⟩ Pi
    ·have hne:¬a=b:=fun e=>he (by have:ix a j=ix b j:=(by rw[e]);rw[hx,hy]at this;cases this;rfl)
     rw[decide_eq_false hne]
     cases x1
     all_goals
      repeat'(first|refine ar ?_|fail)
      refine Mq ?_
      refine cq ?_
      refine aq.kR (v:=.bool false) rfl rfl rfl rfl (fun w' hw'=>by have:=qe F F' xl yl (.slice px xl.length cx) (.slice py yl.length cy) w' (hIx.aN (show Ext w w' from hw'.at) (fun _ _ _ h=>h)) (hIy.aN (show Ext w w' from hw'.at) (fun _ _ _ h=>h));rw[decide_eq_false he]at this;exact this) ?_
      refine cq ?_
      repeat'(first|refine ar ?_|fail)
      all_goals exact gt
   ·have hne:¬a=b:=fun e=>he1 (by have:ix a j=ix b j:=(by rw[e]);rw[hx,hy]at this;cases this;rfl)
    rw[decide_eq_false hne]
    cases x1<;>cases y1
    all_goals first|exact absurd rfl he1|skip
    all_goals
     repeat'(first|refine ar ?_|fail)
     refine Mq ?_
     refine cq ?_
     repeat'(first|refine ar ?_|fail)
     all_goals exact gt
  ·obtain rfl:j=a.length:=by omega
   rw[PA,hlen,PA]at heq
   repeat'(first|refine ar ?_|fail)
   all_goals exact dl
 ·repeat'(first|refine ar ?_|fail)
  all_goals exact f8
theorem tO (F:Nat→Prop) (l:List (Bool×List Int)) (v:Value) (w:World) (h:gB F w v l):Calls G.P 15 #[v] w (bD (fun D w u=>gB D w u l) (fun u:Value=>u) F w):=by
 obtain⟨p,c,rfl,hl⟩:=h.slice
 refine ae (l:=[_]) func15 rfl ntmps15 rfl (Ok.start w) ?_
 repeat'(first|refine ar ?_|fail)
 refine bh.iP w.heap.size rl 2 ?_
 refine bh.loop (σ:=Nat×Value×List Value) (fun s=>[(0,.slice p l.length c),(3,s.2.1),(4,.int .i64 s.1)]) (fun s=>[.own w.heap.size rl 2 s.2.1 s.1 s.2.2]) (fun _=>[Ext w]) (fun s=>s.1≤l.length∧ep F w (s.2.2,l.take s.1)) (fun s=>l.length - s.1) (0,.slice none 0 0,[]) bH bz aU ⟨Nat.zero_le _,ep.nil _ _⟩ ?_
 rintro⟨j,ov,tc⟩ ⟨hj,hst⟩
 dsimp only at hj hst ⊢
 by_cases hjl:j<l.length
 ·obtain⟨b7,o7,rfl,-,hc⟩:=h.at hjl
  obtain⟨px,cx,hcx,hcx2,hIx⟩:=hc j hjl
  have hnx:ep F w (tc++[.bool (ix l j).1,.slice px (ix l j).2.length cx],l.take (j+1)):=by
   rw[bN hjl]
   exact(ep.snoc hst hIx).mono fun _ h=>h.elim id id
  repeat'(first|refine ar ?_|fail)
  refine bh.cI [] [Ext w] bz aU ?_
  repeat'(first|refine pN ?_|(refine ax.lD ?_;refine ax.he rfl rfl (HE.jG rfl rfl rfl rfl rfl er Pk Pk) (fun _=>bz) (fun _=>aU) ?_;rintro b3 _)|(refine ax.rr ?_;refine ax.he rfl rfl (HE.app rfl rfl (fun _=>aH) aH rfl rfl rfl Pk Pk Pk Pk Pk Pk Pi nW) (fun _=>bz) (fun _=>aU) ?_;rintro v2 _)|refine aP.nil O9 ?_|refine aP.any O9 ?_|exact aB.fin rfl|refine aB.skip O9 ?_|refine aB.go ?_ ?_)
  all_goals repeat'(first|refine ar ?_|fail)
  all_goals exact ah.next (j+1,v2,tc++[.bool (ix l j).1,.slice px (ix l j).2.length cx]) bH bz aU ⟨by show j+1≤_;omega,hnx⟩ (by show l.length - (j+1)<l.length - j;omega)
 ·obtain rfl:j=l.length:=by omega
  rw[PA]at hst
  repeat'(first|refine ar ?_|fail)
  all_goals exact ah.aG rfl rfl fun w' hw'=>⟨⟨ov,rfl,zo (F:=fun k=>F k∨w.heap.size≤k) (hw'.m (.own w.heap.size rl 2 ov l.length tc) bO).1 (ep.fr hst (show Ext w w' from hw'.at) (fun _ _ _ h=>h)) hl (fun _ h=>.inr h) (fun _ h=>.inl h)⟩,hw'.at⟩
def sG (k:Int):cv:=⟨k,0,0,0,0,0,0,[],[]⟩
def FI (k:Int):List Value:=[.int .i64 k,.int .i64 0,.int .i64 0,.int .u64 0,.int .i64 0,.int .i64 0,.int .i64 0,.slice none 0 0,.slice none 0 0]
theorem ue {b T:Nat} (ks:List Int) (h:gQ w b (ks.flatMap FI) T) (hk:∀k∈ks,0≤k∧k≤1000000) (__hl:ks.length≤1000) {F:Nat→Prop} (hF:F b):fF F w (.slice (some ⟨b,0,none⟩) ks.length ks.length) (ks.map sG):=by
 refine⟨_,_,by rw[PV],by rw[PV];omega,.inr ⟨b,0,rfl,hF,fun i hi=>?_⟩⟩
 rw[PV]at hi
 have hi2:ix (ks.map sG) i=sG (ix ks i):=by rw[cz (by simpa using hi),cz hi,List.getElem_map]
 have hc:∀j,j<9→w.cell? ⟨b,0+i*9+j,none⟩=(FI (ix ks i))[j]?:=fun j hj=>by
  have h1:=jz FI (fun _=>rfl) ks i j hi hj
  have h2:(FI (ix ks i))[j]?=some (FI (ix ks i))[j]:=Pw hj
  rw[h2]at h1
  rw[h2,Ps]
  exact h.cell h1
 rw[hi2]
 exact⟨hc 0 Pi,hc 1 Pi,hc 2 Pi,hc 3 Pi,hc 4 Pi,hc 5 Pi,hc 6 Pi,⟨_,hc 7 Pi,ai.cH _ _⟩,⟨_,hc 8 Pi,ai.cH _ _⟩,by have:=hk _ (Ih hi);show eP (ix ks i);unfold eP;omega,by show eP 0;unfold eP;omega⟩
def DK (f:aO) (xs:List cv):af:=⟨[f],[],[⟨0,[],xs⟩],[],[],[],[],false,0,[],[],[]⟩
theorem HT.Ib (m:af):vJ (fun D w cs=>au D w cs m):=fun h hc hd=>h.aN hc hd
theorem rB (F:Nat→Prop) (f:aO) (xs:List cv) (p q bp:Option Addr) (c d bc:Nat) (w:World) (hf:dH f F w (.slice p f.params.length c,.slice q f.results.length d)) (hb:fF F w (.slice bp xs.length bc) xs):Calls G.P 17 #[.agg #[.slice p f.params.length c,.slice q f.results.length d],.slice bp xs.length bc] w (bD (fun D w cs=>au D w cs (DK f xs)) (fun cs:List Value=>.agg cs.toArray) F w):=by
 refine ae (l:=[_,_]) func17 rfl ntmps17 rfl (Ok.start w) ?_
 repeat'(first|refine ar ?_|(refine aF fun b_=>?_)|(refine aa.eh (t:=jI) ?_;refine aa.alloc (t:=jI) [.slice none 0 0,.slice none 0 0,.slice none 0 0,.slice none 0 0,.slice none 0 0,.slice none 0 0,.slice none 0 0,.bool false,.int .i64 0,.slice none 0 0,.slice none 0 0,.slice none 0 0] rfl rfl rfl fun b_=>?_)|fail)
 refine MR ?_
 intro k1 _
 repeat'(first|refine ar ?_|fail)
 refine MR ?_
 intro k2 _
 repeat'(first|refine ar ?_|fail)
 refine MT ?_
 intro w' hw'
 have hx:Ext w w':=hw'.at
 obtain⟨B1,n1⟩:=hw'.tT (b:=k1) (w0:=w) ak bO
 obtain⟨B2,n2⟩:=hw'.tT (b:=k2) (w0:=w) ak bO
 refine⟨⟨_,rfl,_,_,_,_,_,_,_,_,_,_,rfl,⟨_,_,rfl,by show(1:Nat)≤_;omega,.inr ⟨k1,0,rfl,.inr n1,fun i hi=>?_⟩⟩,gF.nil,⟨_,_,rfl,by show(1:Nat)≤_;omega,.inr ⟨k2,0,rfl,.inr n2,fun i hi=>?_⟩⟩,gF.nil,gF.nil,gF.nil,gF.nil,gF.nil,gF.nil,gF.nil,by show eP 0;unfold eP;omega⟩,hx⟩
 ·obtain rfl:i=0:=by have:i<1:=hi;omega
  exact⟨[.slice p f.params.length c,.slice q f.results.length d],⟨_,_,rfl,(hf.1.aN hx (fun _ _ _ h=>h)).mono fun _ _ h=>.inl h,(hf.2.aN hx (fun _ _ _ h=>h)).mono fun _ _ h=>.inl h⟩,zE B1 rfl⟩
 ·obtain rfl:i=0:=by have:i<1:=hi;omega
  exact⟨[.int .i64 0,.slice none 0 0,.slice bp xs.length bc],⟨_,_,rfl,ai.cH _ _,(hb.aN hx (fun _ _ _ h=>h)).mono fun _ _ h=>.inl h,by show eP 0;unfold eP;omega⟩,zE B2 rfl⟩
def Cq (m:af) (cs:List Value):Prop:=∃p0 c0 p1 c1 p2 c2 p3 c3 p4 c4 p5 c5 p6 c6 p7 c7 p8 c8 p9 c9,cs=([Pn p0 m.types.length c0,Pn p1 m.imports.length c1,Pn p2 m.funcs.length c2,Pn p3 m.tables.length c3,Pn p4 m.bQ.length c4,Pn p5 m.globals.length c5,Pn p6 m.aJ.length c6,Po m.aI,Pm .i64 m.start,Pn p7 m.elems.length c7,Pn p8 m.bg.length c8,Pn p9 m.bE.length c9]:List Value)
theorem au.sh {cs:List Value} {m:af} (h:au F w cs m):Cq m cs:=by
 obtain⟨v0,v1,v2,v3,v4,v5,v6,v7,v8,v9,rfl,r0,r1,r2,r3,r4,r5,r6,r7,r8,r9,g0⟩:=h
 obtain⟨p0,c0,rfl,-⟩:=r0.slice
 obtain⟨p1,c1,rfl,-⟩:=r1.slice
 obtain⟨p2,c2,rfl,-⟩:=r2.slice
 obtain⟨p3,c3,rfl,-⟩:=r3.slice
 obtain⟨p4,c4,rfl,-⟩:=r4.slice
 obtain⟨p5,c5,rfl,-⟩:=r5.slice
 obtain⟨p6,c6,rfl,-⟩:=r6.slice
 obtain⟨p7,c7,rfl,-⟩:=r7.slice
 obtain⟨p8,c8,rfl,-⟩:=r8.slice
 obtain⟨p9,c9,rfl,-⟩:=r9.slice
 exact⟨p0,c0,p1,c1,p2,c2,p3,c3,p4,c4,p5,c5,p6,c6,p7,c7,p8,c8,p9,c9,rfl⟩
theorem Bt {f:aO} {xs:List cv} (hf:f.params.length≤1048576∧f.results.length≤1048576) (hx:xs.length≤400) (hl:∀k,k<xs.length→(ix xs k).labels.length≤1048576):sw (DK f xs):=by
 refine⟨fun g hg=>?_,fun j hj=>?_,fun j hj=>?_,fun j hj=>?_⟩
 ·rw[show(DK f xs).types=[f]from rfl,List.mem_singleton]at hg;subst hg;exact hf
 all_goals obtain rfl:j=0:=by(have:j<1:=hj);omega
 ·exact Pu _
 ·exact hx
 ·exact hl
def fI:aO:=⟨[1],[1]⟩
def mA:af:=DK fI ([32,11].map sG)
def mB:af:=DK fI ([11].map sG)
def mC:af:=DK fI ([0,11].map sG)
theorem J2:tu mA 0=(0,0):=by kernel_rfl
theorem J5:tu mB 0=(0,13):=by kernel_rfl
theorem J3:kA mA 0=some [(true,[]),(true,[1])]:=by kernel_rfl
theorem J7:kA mC 0=some [(true,[]),(false,[])]:=by kernel_rfl
theorem Jf:sw mA:=Bt Ph Ph Ph
theorem J4:sw mB:=Bt Ph Ph Ph
theorem J6:sw mC:=Bt Ph Ph Ph
theorem Ok.Hk {M:List bu} {R:List (World→Prop)} {w:World} {T:Nat} {lv:Value} {tc:List Value} {D:Nat→Prop} {l:List (Bool×List Int)} (h:Ok (iC T lv tc D l++M) R w) (hl:l.length≤1000000):Ok M ((fun w=>gB (fun _=>True) w lv l)::R) w:=
 h.pack.freeze (p:=fun w=>gB (fun _=>True) w lv l) Rm.head (fun _w' (h:Ok _ [] _w')=>zo (h.m (.own 0 T 2 lv l.length tc) (by simp[iC])).1 (h.m (.kq ep ep.fr D (tc,l)) (by simp[iC])).1 hl (fun _ _=>trivial) (fun _ _=>trivial))
theorem rY (w:World) (h0:fK w):Calls G.P 6 #[] w fun e w'=>e=.returned (.bool true)∧Ext w w':=by
 refine ae (l:=[]) func6 rfl ntmps6 rfl (Ok.start w) ?_
 repeat'(first|refine ar ?_|fail)
 refine MR ?_
 intro k1 _
 repeat'(first|refine ar ?_|fail)
 refine MR ?_
 intro k2 _
 repeat'(first|refine ar ?_|(refine aa.eh (t:=sy) ?_;refine aa.alloc (t:=sy) [.slice none 0 0,.slice none 0 0] rfl rfl rfl fun b_=>?_)|fail)
 obtain⟨bf,rfl⟩:∃y:Nat,y=b_:=⟨_,rfl⟩
 refine MR ?_
 intro k3 _
 refine aa.oA (fun w1 hw1=>?_)
 have x1:Ext w w1:=hw1.at
 have F1:dH fI (fun k=>k<w1.heap.size) w1 (.slice (some ⟨k1,0,none⟩) 1 1,.slice (some ⟨k2,0,none⟩) 1 1):=⟨ai.mono (F:=fun _=>True) (kP [1] hw1 (w0:=w) ak (hD:=fun _ _=>trivial)) (fun _ hk _=>hk),ai.mono (F:=fun _=>True) (kP [1] hw1 (w0:=w) ak (hD:=fun _ _=>trivial)) (fun _ hk _=>hk)⟩
 obtain⟨hbf,-⟩:=hw1.tT (b:=bf) (w0:=w) ak bO
 have c1:=hbf.IS (s:=2) rfl
 obtain⟨hkA,-⟩:=hw1.tT (b:=k3) (w0:=w) ak bO
 have BA:fF (fun k=>k<w1.heap.size) w1 (.slice (some ⟨k3,0,none⟩) 2 2) (([32,11]:List Int).map sG):=ue [32,11] hkA Ph Ph hkA.lt
 refine aa.lj (Cs bf 0 [.slice (some ⟨k1,0,none⟩) 1 1,.slice (some ⟨k2,0,none⟩) 1 1]) (jr c1 rfl ak) ?_
 refine aa.he (HE.zD (V:=fun D w (cs:List Value)=>au D w cs mA) (tf:=fun cs=>.agg cs.toArray) (w0:=w1) (F:=fun k=>k<w1.heap.size) (HT.Ib mA) ak (fun _ h=>h) rfl rfl (fun w' hw'=>rB _ fI (([32,11]:List Int).map sG) _ _ _ _ _ _ w' (dH.fr fI F1 (show Ext w1 w' from hw'.at) (fun _ _ _ h=>h)) (BA.aN (show Ext w1 w' from hw'.at) (fun _ _ _ h=>h)))) rfl ?_
 rintro⟨D1,cs1⟩ _
 refine aa.pure (φ:=Cq mA cs1) (fun w' hw'=>(hw'.get (p:=fun w=>au D1 w cs1 mA) ak).sh) ?_
 rintro⟨a0,d0,a1,d1,a2,d2,a3,d3,a4,d4,a5,d5,a6,d6,a7,d7,a8,d8,a9,d9,rfl⟩
 dsimp only
 repeat'(first|refine ar ?_|(refine aa.eh (t:=jI) ?_;refine aa.alloc (t:=jI) [.slice none 0 0,.slice none 0 0,.slice none 0 0,.slice none 0 0,.slice none 0 0,.slice none 0 0,.slice none 0 0,.bool false,.int .i64 0,.slice none 0 0,.slice none 0 0,.slice none 0 0] rfl rfl rfl fun b_=>?_)|fail)
 obtain⟨ba,rfl⟩:∃y:Nat,y=b_:=⟨_,rfl⟩
 repeat'(first|refine ar ?_|fail)
 refine MR ?_
 intro k4 _
 refine aa.oA (fun w2 hw2=>?_)
 have x2:Ext w w2:=x1.trans (show Ext w1 w2 from hw2.at)
 have F2:dH fI (fun k=>k<w2.heap.size) w2 (.slice (some ⟨k1,0,none⟩) 1 1,.slice (some ⟨k2,0,none⟩) 1 1):=(dH.fr fI F1 (show Ext w1 w2 from hw2.at) (fun _ _ _ h=>h)).mono (fun k hk=>PB hk (show Ext w1 w2 from hw2.at).size)
 have c2:∀j,j<2→w2.cell? ⟨bf,0+j,none⟩=([.slice (some ⟨k1,0,none⟩) 1 1,.slice (some ⟨k2,0,none⟩) 1 1]:List Value)[j]?:=fun j hj=>by have:=c1 j hj;rw[Pw hj]at this ⊢;exact(show Ext w1 w2 from hw2.at).cell this
 have mA2:au (fun _=>True) w2 ([Pn a0 mA.types.length d0,Pn a1 mA.imports.length d1,Pn a2 mA.funcs.length d2,Pn a3 mA.tables.length d3,Pn a4 mA.bQ.length d4,Pn a5 mA.globals.length d5,Pn a6 mA.aJ.length d6,Po mA.aI,Pm .i64 mA.start,Pn a7 mA.elems.length d7,Pn a8 mA.bg.length d8,Pn a9 mA.bE.length d9]:List Value) mA:=(hw2.get (p:=fun w=>au D1 w ([Pn a0 mA.types.length d0,Pn a1 mA.imports.length d1,Pn a2 mA.funcs.length d2,Pn a3 mA.tables.length d3,Pn a4 mA.bQ.length d4,Pn a5 mA.globals.length d5,Pn a6 mA.aJ.length d6,Po mA.aI,Pm .i64 mA.start,Pn a7 mA.elems.length d7,Pn a8 mA.bg.length d8,Pn a9 mA.bE.length d9]:List Value) mA) ak).mono (fun _ _ _=>trivial)
 obtain⟨hbA,-⟩:=hw2.tT (b:=ba) (w0:=w1) ak bO
 have cA2:=hbA.IS (s:=12) rfl
 obtain⟨hkB,-⟩:=hw2.tT (b:=k4) (w0:=w1) ak bO
 have BB:fF (fun k=>k<w2.heap.size) w2 (.slice (some ⟨k4,0,none⟩) 1 1) (([11]:List Int).map sG):=ue [11] hkB Ph Ph hkB.lt
 refine aa.lj (Cs bf 0 [.slice (some ⟨k1,0,none⟩) 1 1,.slice (some ⟨k2,0,none⟩) 1 1]) (jr c2 rfl ak) ?_
 refine aa.he (HE.zD (V:=fun D w (cs:List Value)=>au D w cs mB) (tf:=fun cs=>.agg cs.toArray) (w0:=w2) (F:=fun k=>k<w2.heap.size) (HT.Ib mB) ak (fun _ h=>h) rfl rfl (fun w' hw'=>rB _ fI (([11]:List Int).map sG) _ _ _ _ _ _ w' (dH.fr fI F2 (show Ext w2 w' from hw'.at) (fun _ _ _ h=>h)) (BB.aN (show Ext w2 w' from hw'.at) (fun _ _ _ h=>h)))) rfl ?_
 rintro⟨D2,cs2⟩ _
 refine aa.pure (φ:=Cq mB cs2) (fun w' hw'=>(hw'.get (p:=fun w=>au D2 w cs2 mB) ak).sh) ?_
 rintro⟨e0,u0,e1,u1,e2,u2,e3,u3,e4,u4,e5,u5,e6,u6,e7,u7,e8,u8,e9,u9,rfl⟩
 dsimp only
 repeat'(first|refine ar ?_|(refine aa.eh (t:=jI) ?_;refine aa.alloc (t:=jI) [.slice none 0 0,.slice none 0 0,.slice none 0 0,.slice none 0 0,.slice none 0 0,.slice none 0 0,.slice none 0 0,.bool false,.int .i64 0,.slice none 0 0,.slice none 0 0,.slice none 0 0] rfl rfl rfl fun b_=>?_)|fail)
 obtain⟨bb,rfl⟩:∃y:Nat,y=b_:=⟨_,rfl⟩
 repeat'(first|refine ar ?_|fail)
 refine MR ?_
 intro k5 _
 refine aa.oA (fun w3 hw3=>?_)
 have x3:Ext w w3:=x2.trans (show Ext w2 w3 from hw3.at)
 have F3:dH fI (fun k=>k<w3.heap.size) w3 (.slice (some ⟨k1,0,none⟩) 1 1,.slice (some ⟨k2,0,none⟩) 1 1):=(dH.fr fI F2 (show Ext w2 w3 from hw3.at) (fun _ _ _ h=>h)).mono (fun k hk=>PB hk (show Ext w2 w3 from hw3.at).size)
 have c3:∀j,j<2→w3.cell? ⟨bf,0+j,none⟩=([.slice (some ⟨k1,0,none⟩) 1 1,.slice (some ⟨k2,0,none⟩) 1 1]:List Value)[j]?:=fun j hj=>by have:=c2 j hj;rw[Pw hj]at this ⊢;exact(show Ext w2 w3 from hw3.at).cell this
 have mA3:au (fun _=>True) w3 ([Pn a0 mA.types.length d0,Pn a1 mA.imports.length d1,Pn a2 mA.funcs.length d2,Pn a3 mA.tables.length d3,Pn a4 mA.bQ.length d4,Pn a5 mA.globals.length d5,Pn a6 mA.aJ.length d6,Po mA.aI,Pm .i64 mA.start,Pn a7 mA.elems.length d7,Pn a8 mA.bg.length d8,Pn a9 mA.bE.length d9]:List Value) mA:=mA2.aN (show Ext w2 w3 from hw3.at) (fun _ _ _ h=>h)
 have cA3:∀j,j<12→w3.cell? ⟨ba,0+j,none⟩=([Pn a0 mA.types.length d0,Pn a1 mA.imports.length d1,Pn a2 mA.funcs.length d2,Pn a3 mA.tables.length d3,Pn a4 mA.bQ.length d4,Pn a5 mA.globals.length d5,Pn a6 mA.aJ.length d6,Po mA.aI,Pm .i64 mA.start,Pn a7 mA.elems.length d7,Pn a8 mA.bg.length d8,Pn a9 mA.bE.length d9]:List Value)[j]?:=fun j hj=>by have:=cA2 j hj;rw[Pw hj]at this ⊢;exact(show Ext w2 w3 from hw3.at).cell this
 have mB3:au (fun _=>True) w3 ([Pn e0 mB.types.length u0,Pn e1 mB.imports.length u1,Pn e2 mB.funcs.length u2,Pn e3 mB.tables.length u3,Pn e4 mB.bQ.length u4,Pn e5 mB.globals.length u5,Pn e6 mB.aJ.length u6,Po mB.aI,Pm .i64 mB.start,Pn e7 mB.elems.length u7,Pn e8 mB.bg.length u8,Pn e9 mB.bE.length u9]:List Value) mB:=(hw3.get (p:=fun w=>au D2 w ([Pn e0 mB.types.length u0,Pn e1 mB.imports.length u1,Pn e2 mB.funcs.length u2,Pn e3 mB.tables.length u3,Pn e4 mB.bQ.length u4,Pn e5 mB.globals.length u5,Pn e6 mB.aJ.length u6,Po mB.aI,Pm .i64 mB.start,Pn e7 mB.elems.length u7,Pn e8 mB.bg.length u8,Pn e9 mB.bE.length u9]:List Value) mB) ak).mono (fun _ _ _=>trivial)
 obtain⟨hbB,-⟩:=hw3.tT (b:=bb) (w0:=w2) ak bO
 have cB3:=hbB.IS (s:=12) rfl
 obtain⟨hkC,-⟩:=hw3.tT (b:=k5) (w0:=w2) ak bO
 have BC:fF (fun k=>k<w3.heap.size) w3 (.slice (some ⟨k5,0,none⟩) 2 2) (([0,11]:List Int).map sG):=ue [0,11] hkC Ph Ph hkC.lt
 refine aa.lj (Cs bf 0 [.slice (some ⟨k1,0,none⟩) 1 1,.slice (some ⟨k2,0,none⟩) 1 1]) (jr c3 rfl ak) ?_
 refine aa.he (HE.zD (V:=fun D w (cs:List Value)=>au D w cs mC) (tf:=fun cs=>.agg cs.toArray) (w0:=w3) (F:=fun k=>k<w3.heap.size) (HT.Ib mC) ak (fun _ h=>h) rfl rfl (fun w' hw'=>rB _ fI (([0,11]:List Int).map sG) _ _ _ _ _ _ w' (dH.fr fI F3 (show Ext w3 w' from hw'.at) (fun _ _ _ h=>h)) (BC.aN (show Ext w3 w' from hw'.at) (fun _ _ _ h=>h)))) rfl ?_
 rintro⟨D3,cs3⟩ _
 refine aa.pure (φ:=Cq mC cs3) (fun w' hw'=>(hw'.get (p:=fun w=>au D3 w cs3 mC) ak).sh) ?_
 rintro⟨i0,j0,i1,j1,i2,j2,i3,j3,i4,j4,i5,j5,i6,j6,i7,j7,i8,j8,i9,j9,rfl⟩
 dsimp only
 repeat'(first|refine ar ?_|(refine aa.eh (t:=jI) ?_;refine aa.alloc (t:=jI) [.slice none 0 0,.slice none 0 0,.slice none 0 0,.slice none 0 0,.slice none 0 0,.slice none 0 0,.slice none 0 0,.bool false,.int .i64 0,.slice none 0 0,.slice none 0 0,.slice none 0 0] rfl rfl rfl fun b_=>?_)|fail)
 obtain⟨bc,rfl⟩:∃y:Nat,y=b_:=⟨_,rfl⟩
 refine bh.oA (fun w4 h4=>?_)
 have x4:Ext w w4:=x3.trans (show Ext w3 w4 from h4.at)
 have mA4:au (fun _=>True) w4 ([Pn a0 mA.types.length d0,Pn a1 mA.imports.length d1,Pn a2 mA.funcs.length d2,Pn a3 mA.tables.length d3,Pn a4 mA.bQ.length d4,Pn a5 mA.globals.length d5,Pn a6 mA.aJ.length d6,Po mA.aI,Pm .i64 mA.start,Pn a7 mA.elems.length d7,Pn a8 mA.bg.length d8,Pn a9 mA.bE.length d9]:List Value) mA:=mA3.aN (show Ext w3 w4 from h4.at) (fun _ _ _ h=>h)
 have cA4:∀j,j<12→w4.cell? ⟨ba,0+j,none⟩=([Pn a0 mA.types.length d0,Pn a1 mA.imports.length d1,Pn a2 mA.funcs.length d2,Pn a3 mA.tables.length d3,Pn a4 mA.bQ.length d4,Pn a5 mA.globals.length d5,Pn a6 mA.aJ.length d6,Po mA.aI,Pm .i64 mA.start,Pn a7 mA.elems.length d7,Pn a8 mA.bg.length d8,Pn a9 mA.bE.length d9]:List Value)[j]?:=fun j hj=>by have:=cA3 j hj;rw[Pw hj]at this ⊢;exact(show Ext w3 w4 from h4.at).cell this
 have mB4:au (fun _=>True) w4 ([Pn e0 mB.types.length u0,Pn e1 mB.imports.length u1,Pn e2 mB.funcs.length u2,Pn e3 mB.tables.length u3,Pn e4 mB.bQ.length u4,Pn e5 mB.globals.length u5,Pn e6 mB.aJ.length u6,Po mB.aI,Pm .i64 mB.start,Pn e7 mB.elems.length u7,Pn e8 mB.bg.length u8,Pn e9 mB.bE.length u9]:List Value) mB:=mB3.aN (show Ext w3 w4 from h4.at) (fun _ _ _ h=>h)
 have cB4:∀j,j<12→w4.cell? ⟨bb,0+j,none⟩=([Pn e0 mB.types.length u0,Pn e1 mB.imports.length u1,Pn e2 mB.funcs.length u2,Pn e3 mB.tables.length u3,Pn e4 mB.bQ.length u4,Pn e5 mB.globals.length u5,Pn e6 mB.aJ.length u6,Po mB.aI,Pm .i64 mB.start,Pn e7 mB.elems.length u7,Pn e8 mB.bg.length u8,Pn e9 mB.bE.length u9]:List Value)[j]?:=fun j hj=>by have:=cB3 j hj;rw[Pw hj]at this ⊢;exact(show Ext w3 w4 from h4.at).cell this
 have mC4:au (fun _=>True) w4 ([Pn i0 mC.types.length j0,Pn i1 mC.imports.length j1,Pn i2 mC.funcs.length j2,Pn i3 mC.tables.length j3,Pn i4 mC.bQ.length j4,Pn i5 mC.globals.length j5,Pn i6 mC.aJ.length j6,Po mC.aI,Pm .i64 mC.start,Pn i7 mC.elems.length j7,Pn i8 mC.bg.length j8,Pn i9 mC.bE.length j9]:List Value) mC:=(h4.get (p:=fun w=>au D3 w ([Pn i0 mC.types.length j0,Pn i1 mC.imports.length j1,Pn i2 mC.funcs.length j2,Pn i3 mC.tables.length j3,Pn i4 mC.bQ.length j4,Pn i5 mC.globals.length j5,Pn i6 mC.aJ.length j6,Po mC.aI,Pm .i64 mC.start,Pn i7 mC.elems.length j7,Pn i8 mC.bg.length j8,Pn i9 mC.bE.length j9]:List Value) mC) ak).mono (fun _ _ _=>trivial)
 obtain⟨hbC,-⟩:=h4.tT (b:=bc) (w0:=w3) ak bO
 have cC4:=hbC.IS (s:=12) rfl
 have h04:=h0.ext x4
 refine bh.cI [] [Ext w4] (PN _) aU ?_
 refine aP.qy 0 rfl (Yl.ji rfl rfl rfl ak Pk Pk cA4) ?_
 refine aP.qy 1 rfl (Yl.ji rfl rfl rfl ak Pk Pk cA4) ?_
 repeat'(first|refine aP.any O9 ?_|exact aB.fin rfl|refine aB.skip O9 ?_|refine aB.go ?_ ?_)
 refine ax.dA 8 ?_
 refine ax.he rfl rfl (HE.tC (m:=mA) rfl rfl (fun w' hw'=>oN (fun _=>True) mA ([Pn a0 mA.types.length d0,Pn a1 mA.imports.length d1,Pn a2 mA.funcs.length d2,Pn a3 mA.tables.length d3,Pn a4 mA.bQ.length d4,Pn a5 mA.globals.length d5,Pn a6 mA.aJ.length d6,Po mA.aI,Pm .i64 mA.start,Pn a7 mA.elems.length d7,Pn a8 mA.bg.length d8,Pn a9 mA.bE.length d9]:List Value) w' (mA4.aN (show Ext w4 w' from hw'.at) (fun _ _ _ h=>h)) (by unfold tl;decide))) (fun _=>PN _) (fun _=>aU) ?_
 rintro⟨B1,s1⟩ _
 repeat'(first|refine aP.any O9 ?_|exact aB.fin rfl|refine aB.skip O9 ?_|refine aB.go ?_ ?_)
 refine ax.dA 7 ?_
 refine ax.he rfl rfl (HE.eU (v:=.tuple #[.int .i64 0,.int .i64 0]) rfl rfl (fun w' hw'=>by have:=tz mA ([Pn a0 mA.types.length d0,Pn a1 mA.imports.length d1,Pn a2 mA.funcs.length d2,Pn a3 mA.tables.length d3,Pn a4 mA.bQ.length d4,Pn a5 mA.globals.length d5,Pn a6 mA.aJ.length d6,Po mA.aI,Pm .i64 mA.start,Pn a7 mA.elems.length d7,Pn a8 mA.bg.length d8,Pn a9 mA.bE.length d9]:List Value) B1 s1 0 w' (mA4.aN (show Ext w4 w' from hw'.at) (fun _ _ _ h=>h)) (hw'.get (p:=fun w=>bK B1 mA w s1) ak) (h04.ext hw'.at) Jf;rw[J2]at this;exact this)) (fun _=>PN _) (fun _=>aU) ?_
 rintro⟨⟩ _
 refine aP.qa 4 rfl ?_
 refine aP.qa 5 rfl ?_
 refine aP.qa 6 rfl ?_
 refine aP.qa 7 rfl ?_
 refine aP.qa 8 rfl ?_
 refine aP.nil O9 ?_
 repeat'(first|refine ar ?_|fail)
 refine bh.cI [] [Ext w4] (PN _) aU ?_
 refine aP.qy 0 rfl (Yl.ji rfl rfl rfl ak Pk Pk cB4) ?_
 refine aP.qy 1 rfl (Yl.ji rfl rfl rfl ak Pk Pk cB4) ?_
 repeat'(first|refine aP.any O9 ?_|exact aB.fin rfl|refine aB.skip O9 ?_|refine aB.go ?_ ?_)
 refine ax.dA 8 ?_
 refine ax.he rfl rfl (HE.tC (m:=mB) rfl rfl (fun w' hw'=>oN (fun _=>True) mB ([Pn e0 mB.types.length u0,Pn e1 mB.imports.length u1,Pn e2 mB.funcs.length u2,Pn e3 mB.tables.length u3,Pn e4 mB.bQ.length u4,Pn e5 mB.globals.length u5,Pn e6 mB.aJ.length u6,Po mB.aI,Pm .i64 mB.start,Pn e7 mB.elems.length u7,Pn e8 mB.bg.length u8,Pn e9 mB.bE.length u9]:List Value) w' (mB4.aN (show Ext w4 w' from hw'.at) (fun _ _ _ h=>h)) (by unfold tl;decide))) (fun _=>PN _) (fun _=>aU) ?_
 rintro⟨B2,s2⟩ _
 repeat'(first|refine aP.any O9 ?_|exact aB.fin rfl|refine aB.skip O9 ?_|refine aB.go ?_ ?_)
 refine ax.dA 7 ?_
 refine ax.he rfl rfl (HE.eU (v:=.tuple #[.int .i64 0,.int .i64 13]) rfl rfl (fun w' hw'=>by have:=tz mB ([Pn e0 mB.types.length u0,Pn e1 mB.imports.length u1,Pn e2 mB.funcs.length u2,Pn e3 mB.tables.length u3,Pn e4 mB.bQ.length u4,Pn e5 mB.globals.length u5,Pn e6 mB.aJ.length u6,Po mB.aI,Pm .i64 mB.start,Pn e7 mB.elems.length u7,Pn e8 mB.bg.length u8,Pn e9 mB.bE.length u9]:List Value) B2 s2 0 w' (mB4.aN (show Ext w4 w' from hw'.at) (fun _ _ _ h=>h)) (hw'.get (p:=fun w=>bK B2 mB w s2) ak) (h04.ext hw'.at) J4;rw[J5]at this;exact this)) (fun _=>PN _) (fun _=>aU) ?_
 rintro⟨⟩ _
 refine aP.qa 4 rfl ?_
 refine aP.qa 5 rfl ?_
 refine aP.qa 6 rfl ?_
 refine aP.qa 7 rfl ?_
 refine aP.qa 8 rfl ?_
 refine aP.nil O9 ?_
 repeat'(first|refine ar ?_|fail)
 refine bh.cI [] [Ext w4] (PN _) aU ?_
 refine aP.qy 0 rfl (Yl.ji rfl rfl rfl ak Pk Pk cA4) ?_
 refine aP.qy 1 rfl (Yl.ji rfl rfl rfl ak Pk Pk cA4) ?_
 repeat'(first|refine aP.any O9 ?_|exact aB.fin rfl|refine aB.skip O9 ?_|refine aB.go ?_ ?_)
 refine ax.dA 8 ?_
 refine ax.he rfl rfl (HE.tC (m:=mA) rfl rfl (fun w' hw'=>oN (fun _=>True) mA ([Pn a0 mA.types.length d0,Pn a1 mA.imports.length d1,Pn a2 mA.funcs.length d2,Pn a3 mA.tables.length d3,Pn a4 mA.bQ.length d4,Pn a5 mA.globals.length d5,Pn a6 mA.aJ.length d6,Po mA.aI,Pm .i64 mA.start,Pn a7 mA.elems.length d7,Pn a8 mA.bg.length d8,Pn a9 mA.bE.length d9]:List Value) w' (mA4.aN (show Ext w4 w' from hw'.at) (fun _ _ _ h=>h)) (by unfold tl;decide))) (fun _=>PN _) (fun _=>aU) ?_
 rintro⟨B3,s3⟩ _
 repeat'(first|refine aP.any O9 ?_|exact aB.fin rfl|refine aB.skip O9 ?_|refine aB.go ?_ ?_)
 refine ax.dA 10 ?_
 refine ax.he rfl rfl (HE.bJ (M0:=[]) nK.nil rfl rfl (fun w' hw'=>by have:=pV mA ([Pn a0 mA.types.length d0,Pn a1 mA.imports.length d1,Pn a2 mA.funcs.length d2,Pn a3 mA.tables.length d3,Pn a4 mA.bQ.length d4,Pn a5 mA.globals.length d5,Pn a6 mA.aJ.length d6,Po mA.aI,Pm .i64 mA.start,Pn a7 mA.elems.length d7,Pn a8 mA.bg.length d8,Pn a9 mA.bE.length d9]:List Value) B3 s3 0 w' (mA4.aN (show Ext w4 w' from hw'.at) (fun _ _ _ h=>h)) (hw'.get (p:=fun w=>bK B3 mA w s3) ak) (h04.ext hw'.at) Jf;rw[J3]at this;exact this)) (fun _=>PN _) (fun _=>aU) ?_
 rintro⟨la,ta,Da⟩ _
 dsimp only[iC,Option.getD,Option.isSome,Pq,Pp]
 refine aP.qa 4 rfl ?_
 refine aP.qa 5 rfl ?_
 refine aP.qa 6 rfl ?_
 refine aP.qa 7 rfl ?_
 refine aP.qa 8 rfl ?_
 refine aP.nil O9 ?_
 repeat'(first|refine ar ?_|fail)
 refine bh.cI [] [Ext w4] (PN _) aU ?_
 refine aP.qy 0 rfl (Yl.ji rfl rfl rfl ak Pk Pk cC4) ?_
 refine aP.qy 1 rfl (Yl.ji rfl rfl rfl ak Pk Pk cC4) ?_
 repeat'(first|refine aP.any O9 ?_|exact aB.fin rfl|refine aB.skip O9 ?_|refine aB.go ?_ ?_)
 refine ax.dA 8 ?_
 refine ax.he rfl rfl (HE.tC (m:=mC) rfl rfl (fun w' hw'=>oN (fun _=>True) mC ([Pn i0 mC.types.length j0,Pn i1 mC.imports.length j1,Pn i2 mC.funcs.length j2,Pn i3 mC.tables.length j3,Pn i4 mC.bQ.length j4,Pn i5 mC.globals.length j5,Pn i6 mC.aJ.length j6,Po mC.aI,Pm .i64 mC.start,Pn i7 mC.elems.length j7,Pn i8 mC.bg.length j8,Pn i9 mC.bE.length j9]:List Value) w' (mC4.aN (show Ext w4 w' from hw'.at) (fun _ _ _ h=>h)) (by unfold tl;decide))) (fun _=>PN _) (fun _=>aU) ?_
 rintro⟨B4,s4⟩ _
 repeat'(first|refine aP.any O9 ?_|exact aB.fin rfl|refine aB.skip O9 ?_|refine aB.go ?_ ?_)
 refine ax.dA 10 ?_
 refine ax.he rfl rfl (HE.bJ (M0:=[]) nK.nil rfl rfl (fun w' hw'=>by have:=pV mC ([Pn i0 mC.types.length j0,Pn i1 mC.imports.length j1,Pn i2 mC.funcs.length j2,Pn i3 mC.tables.length j3,Pn i4 mC.bQ.length j4,Pn i5 mC.globals.length j5,Pn i6 mC.aJ.length j6,Po mC.aI,Pm .i64 mC.start,Pn i7 mC.elems.length j7,Pn i8 mC.bg.length j8,Pn i9 mC.bE.length j9]:List Value) B4 s4 0 w' (mC4.aN (show Ext w4 w' from hw'.at) (fun _ _ _ h=>h)) (hw'.get (p:=fun w=>bK B4 mC w s4) ak) (h04.ext hw'.at) J6;rw[J7]at this;exact this)) (fun _=>PN _) (fun _=>aU) ?_
 rintro⟨lc,tc,Dc⟩ _
 dsimp only[iC,Option.getD,Option.isSome,Pq,Pp]
 refine aP.qa 4 rfl ?_
 refine aP.qa 5 rfl ?_
 refine aP.qa 6 rfl ?_
 refine aP.qa 7 rfl ?_
 refine aP.qa 8 rfl ?_
 refine aP.nil O9 ?_
 repeat'(first|refine ar ?_|fail)
 refine aa.map (fun w' h=>Ok.Hk (T:=qw) (lv:=lc) (tc:=tc) (D:=Dc) (l:=[(true,[]),(false,[])]) h Ph) ?_
 refine aa.map (fun w' h=>Ok.Hk (T:=qw) (lv:=la) (tc:=ta) (D:=Da) (l:=[(true,[]),(true,[1])]) (M:=[]) h Ph) ?_
 refine aa.oA (fun w5 h5=>?_)
 have x5:Ext w w5:=x4.trans (show Ext w4 w5 from h5.at)
 have hA5:gB (fun k=>k<w5.heap.size) w5 la [(true,[]),(true,[1])]:=gF.mono mD.mo mD.ce (h5.get (p:=fun w=>gB (fun _=>True) w la [(true,[]),(true,[1])]) ak) (fun _ h _=>h)
 have hC5:gB (fun _=>True) w5 lc [(true,[]),(false,[])]:=h5.get (p:=fun w=>gB (fun _=>True) w lc [(true,[]),(false,[])]) ak
 obtain⟨pc,cc,rfl⟩:∃p c,lc=.slice p 2 c:=by obtain⟨p,c,e,-⟩:=hC5.slice;exact⟨p,c,e⟩
 obtain⟨bq,oq,rfl,-,hq⟩:=hC5.at (i:=1) Ph
 obtain⟨_,_,hq1,-,-⟩:=hq 1 Ph
 refine aa.J0 Pk (HE.zD (V:=fun D w (u:Value)=>gB D w u [(true,[]),(true,[1])]) (tf:=fun u=>u) (w0:=w5) (F:=fun k=>k<w5.heap.size) (fun h hc hd=>gB.aN h hc hd) ak (fun _ h=>h) rfl rfl (fun w' hw'=>tO _ _ la w' (hA5.ext hw'.at))) rfl ?_
 rintro⟨D6,v6⟩ _
 dsimp only
 repeat'(first|refine ar ?_|fail)
 refine aa.J0 Pk (HE.jG rfl rfl rfl rfl rfl er Pk Pk) rfl ?_
 intro k6 _
 repeat'(first|refine ar ?_|fail)
 refine aa.J0 Pk (HE.jG rfl rfl rfl rfl rfl er Pk Pk) rfl ?_
 intro k7 _
 repeat'(first|refine ar ?_|fail)
 refine aa.cB (v:=.bool true) rfl rfl rfl rfl (fun w' hw'=>by
  obtain⟨e6,-⟩:=hw'.tT (b:=k6) (w0:=w5) ak bO
  obtain⟨e7,-⟩:=hw'.tT (b:=k7) (w0:=w5) ak bO
  have hs:gB (fun _=>True) w' (.slice (some ⟨k7,0,none⟩) 2 2) [(true,[]),(true,[1])]:=⟨_,_,rfl,by show(2:Nat)≤_;omega,.inr ⟨k7,0,rfl,trivial,fun i hi=>by
   have hi2:i<2:=hi
   rcases(show i=0∨i=1 by omega)with rfl|rfl
   ·exact⟨none,0,e7.cell (j:=0) rfl,e7.cell (j:=1) rfl,ai.cH _ _⟩
   ·exact⟨some ⟨k6,0,none⟩,1,e7.cell (j:=2) rfl,e7.cell (j:=3) rfl,(dJ e6).mono fun _ _ _=>trivial⟩⟩⟩
  have:=uX D6 (fun _=>True) _ _ v6 _ w' (hw'.get (p:=fun w=>gB D6 w v6 [(true,[]),(true,[1])]) ak) hs
  rw[decide_eq_true rfl]at this;exact this) ?_
 refine aa.lj (cl bq (oq+1*2) (.bool false)) (fun w2 h=>(show Ext w5 w2 from h _ ak).cell hq1) ?_
 repeat'(first|refine ar ?_|fail)
 refine aa.yg Pk (Yl.idx (i:=1) rfl rfl rfl rfl rfl Ph Ph) rfl ?_
 repeat'(first|refine ar ?_|fail)
 all_goals exact ah.aG rfl rfl fun w' hw'=>⟨rfl,x5.trans hw'.at⟩
theorem Ay (F:Nat→Prop) (m:af) (cs:List Value) (i:Int) (w:World) (hm:au F w cs m) (hF:∀k,F k→k<w.heap.size) (h0:fK w) (hB:sw m):Calls G.P 11 #[.agg cs.toArray,.int .i64 i] w (xP rl (kA m i) w):=by
 have hm0:=hm
 obtain⟨v0,v1,v2,v3,v4,v5,v6,v7,v8,v9,rfl,r0,r1,r2,r3,r4,r5,r6,r7,r8,r9,g0⟩:=hm;obtain⟨p0,c0,rfl,l0⟩:=r0.slice;obtain⟨p1,c1,rfl,l1⟩:=r1.slice;obtain⟨p2,c2,rfl,l2⟩:=r2.slice;obtain⟨p3,c3,rfl,l3⟩:=r3.slice;obtain⟨p4,c4,rfl,l4⟩:=r4.slice;obtain⟨p5,c5,rfl,l5⟩:=r5.slice;obtain⟨p6,c6,rfl,l6⟩:=r6.slice;obtain⟨p7,c7,rfl,l7⟩:=r7.slice;obtain⟨p8,c8,rfl,l8⟩:=r8.slice;obtain⟨p9,c9,rfl,l9⟩:=r9.slice
 unfold xP gD
 have hi:(kA m i).isSome=decide ((tu m i).2=0):=by
  unfold kA
  by_cases h:(tu m i).2=0
  ·rw[if_pos h,decide_eq_true h];rfl
  ·rw[if_neg h,decide_eq_false h];rfl
 rw[hi]
 refine ae (l:=[_,_]) func11 rfl ntmps11 rfl (Ok.start w) ?_
 repeat'(first|refine ar ?_|(refine aF fun b_=>?_)|fail)
 refine aa.he (HE.bJ (M0:=[]) nK.nil rfl rfl (fun w' hw'=>BT F m ([Pn p0 m.types.length c0,Pn p1 m.imports.length c1,Pn p2 m.funcs.length c2,Pn p3 m.tables.length c3,Pn p4 m.bQ.length c4,Pn p5 m.globals.length c5,Pn p6 m.aJ.length c6,Po m.aI,Pm .i64 m.start,Pn p7 m.elems.length c7,Pn p8 m.bg.length c8,Pn p9 m.bE.length c9]:List Value) i w' (hm0.aN (show Ext w w' from hw'.at) (fun _ _ _ h=>h)) (fun k hk=>PB (hF k hk) (show Ext w w' from hw'.at).size) (h0.ext hw'.at) hB)) rfl ?_
 rintro⟨lv,tc,D⟩ _
 dsimp only[iC,Pq,Pp]
 by_cases h:(tu m i).2=0
 ·rw[decide_eq_true h]
  repeat'(first|refine ar ?_|fail)
  all_goals exact ah.ie rfl rfl rfl fun w' hw'=>aC.sF (x:=(lv,tc,D)) trivial hw' (by dsimp only[iC];exact bz) ak
 ·rw[decide_eq_false h]
  repeat'(first|refine ar ?_|fail)
  all_goals exact ah.ie rfl rfl rfl fun w' hw'=>aC.sF (x:=(lv,tc,D)) trivial hw' (by dsimp only[iC];exact bz) ak
structure A1 (m:af):Prop where
 types:m.types.length≤100
 imports:m.imports.length≤100
 funcs:m.funcs.length≤20
 globals:m.globals.length≤100
 elems:m.elems.length≤100
 loc:∀j,j<m.funcs.length→(ix m.funcs j).locals.length≤400
 len:∀j,j<m.funcs.length→(ix m.funcs j).body.length≤400
theorem DB (m:af) (cs:List Value) (w:World) (hm:au (fun _=>True) w cs m):Calls G.P 5 #[.agg cs.toArray] w (wW (A1 m) w):=by
 obtain⟨v0,v1,v2,v3,v4,v5,v6,v7,v8,v9,rfl,r0,r1,r2,r3,r4,r5,r6,r7,r8,r9,g0⟩:=hm;obtain⟨p0,c0,rfl,l0⟩:=r0.slice;obtain⟨p1,c1,rfl,l1⟩:=r1.slice;obtain⟨p2,c2,rfl,l2⟩:=r2.slice;obtain⟨p3,c3,rfl,l3⟩:=r3.slice;obtain⟨p4,c4,rfl,l4⟩:=r4.slice;obtain⟨p5,c5,rfl,l5⟩:=r5.slice;obtain⟨p6,c6,rfl,l6⟩:=r6.slice;obtain⟨p7,c7,rfl,l7⟩:=r7.slice;obtain⟨p8,c8,rfl,l8⟩:=r8.slice;obtain⟨p9,c9,rfl,l9⟩:=r9.slice
 refine ae (l:=[_]) func5 rfl ntmps5 rfl (Ok.start w) ?_
 repeat'(first|refine ar ?_|(refine bC ?_ ?_<;>intro hc_))
 refine aa.box ([Pn p0 m.types.length c0,Pn p1 m.imports.length c1,Pn p2 m.funcs.length c2,Pn p3 m.tables.length c3,Pn p4 m.bQ.length c4,Pn p5 m.globals.length c5,Pn p6 m.aJ.length c6,Po m.aI,Pm .i64 m.start,Pn p7 m.elems.length c7,Pn p8 m.bg.length c8,Pn p9 m.bE.length c9]:List Value) rfl rfl rfl fun bm=>?_
 repeat'(first|refine ar ?_|(refine bC ?_ ?_<;>intro hc_))
 refine bh.loop (σ:=Nat×Int) (fun s=>[(1,.pointer (some ⟨bm,0,none⟩)),(3,.int .i64 s.2),(4,.int .i64 s.1)]) (fun _=>[.aW bm ([Pn p0 m.types.length c0,Pn p1 m.imports.length c1,Pn p2 m.funcs.length c2,Pn p3 m.tables.length c3,Pn p4 m.bQ.length c4,Pn p5 m.globals.length c5,Pn p6 m.aJ.length c6,Po m.aI,Pm .i64 m.start,Pn p7 m.elems.length c7,Pn p8 m.bg.length c8,Pn p9 m.bE.length c9]:List Value) jI]) (fun _=>[Ext w]) (fun s=>s.1≤m.funcs.length∧s.1≤100∧0≤s.2∧s.2≤(s.1:Int)*20000000000000∧∀j,j<s.1→((ix m.funcs j).locals.length:Int)+(ix m.funcs j).body.length≤s.2) (fun s=>m.funcs.length - s.1) (0,0) bH bz aU ⟨Nat.zero_le _,Pu _,by decide,by decide,fun j hj=>absurd hj (Nat.not_lt_zero _)⟩ ?_
 rintro⟨i,q⟩ ⟨hi,hi2,hq0,hq,hall⟩
 dsimp only at hi hi2 hq0 hq hall ⊢
 by_cases hlt:i<m.funcs.length∧i<100
 ·obtain⟨hj,hj2⟩:=hlt
  have hnx:∀j,j<i+1→((ix m.funcs j).locals.length:Int)+(ix m.funcs j).body.length≤q+(ix m.funcs i).body.length+(ix m.funcs i).locals.length:=fun j h=>by
   rcases Nat.lt_or_ge j i with h1|h1
   ·have:=hall j h1;omega
   ·obtain rfl:j=i:=by omega
    omega
  obtain⟨b,o,rfl,hF9,cs5,⟨u0,u1,rfl,q0,q1,q2⟩,hc⟩:=r2.el hj;obtain⟨x0,y0,rfl,z0⟩:=q0.slice;obtain⟨x1,y1,rfl,z1⟩:=q1.slice
  refine bh.lj (Cs b (o+i*3) _) (jr hc rfl ak) ?_
  repeat'(first|refine ar ?_|(refine bC ?_ ?_<;>intro hc_))
  all_goals first|(exfalso;omega)|skip
  all_goals exact ah.next (i+1,q+(ix m.funcs i).body.length+(ix m.funcs i).locals.length) bH bz aU ⟨by dsimp only;omega,by dsimp only;omega,by dsimp only;omega,by dsimp only;omega,hnx⟩ O6
 ·repeat'(first|refine ar ?_|(refine bC ?_ ?_<;>intro hc_))
  all_goals first|(exfalso;omega)|refine ah.aG rfl rfl fun w' hw'=>⟨⟨_,rfl,fun h_=>?_⟩,hw'.at⟩
  all_goals first|(cases h_;done)|(have hh_:=of_decide_eq_true h_;exact⟨by omega,by omega,by omega,by omega,by omega,fun j hj=>by have:=hall j Pi;omega,fun j hj=>by have:=hall j Pi;omega⟩)
structure Co (m:af):Prop where
 ty:Gi 1048576 m
 tables:m.tables.length≤1048576
 bQ:m.bQ.length≤1048576
 aJ:m.aJ.length≤1048576
 kU:∀j,j<m.funcs.length→∀k,k<(ix m.funcs j).body.length→(ix (ix m.funcs j).body k).labels.length≤1048576
theorem A1.lens {m:af} (h:A1 m) (hK:Co m) (__hd:m.bg.length≤17592186044416):tl m:=by
 have:=h.types;have:=h.imports;have:=h.funcs;have:=h.globals;have:=h.elems;have:=hK.tables;have:=hK.bQ;have:=hK.aJ
 unfold tl
 refine⟨by omega,by omega,by omega,by omega,by omega,by omega,by omega,by omega,by omega⟩
theorem A1.body {m:af} (h:A1 m) (hK:Co m):sw m:=⟨hK.ty,h.loc,h.len,hK.kU⟩
theorem Cf {m:af} (h:A1 m) (i:Int):((kA m i).getD []).length≤400:=by
 unfold kA
 by_cases he:(tu m i).2=0
 ·rw[if_pos he]
  show(Hw m i).length≤400
  unfold Hw
  cases ht:nX m i with
  |none=>exact Pu _
  |some f=>
   obtain⟨-,j,rfl,hj⟩:=m6 ht
   show(A0 _ _ _ _ _ _).length≤400
   rw[oZ]
   exact h.len j hj
 ·rw[if_neg he];exact Pu _
theorem rA (m:af) (cs:List Value) (i:Int) (w:World) (hm:au (fun _=>True) w cs m) (hK:Co m) (h0:fK w):Calls G.P 4 #[.agg cs.toArray,.int .i64 i] w fun e w'=>e=.returned (.bool true)∧Ext w w':=by
 have hm0:=hm
 have hmL:au (fun k=>k<w.heap.size) w cs m:=hm.mono fun _ hk _=>hk
 obtain⟨v0,v1,v2,v3,v4,v5,v6,v7,v8,v9,rfl,r0,r1,r2,r3,r4,r5,r6,r7,r8,r9,g0⟩:=hm;obtain⟨p0,c0,rfl,l0⟩:=r0.slice;obtain⟨p1,c1,rfl,l1⟩:=r1.slice;obtain⟨p2,c2,rfl,l2⟩:=r2.slice;obtain⟨p3,c3,rfl,l3⟩:=r3.slice;obtain⟨p4,c4,rfl,l4⟩:=r4.slice;obtain⟨p5,c5,rfl,l5⟩:=r5.slice;obtain⟨p6,c6,rfl,l6⟩:=r6.slice;obtain⟨p7,c7,rfl,l7⟩:=r7.slice;obtain⟨p8,c8,rfl,l8⟩:=r8.slice;obtain⟨p9,c9,rfl,l9⟩:=r9.slice
 refine ae (l:=[_,_]) func4 rfl ntmps4 rfl (Ok.start w) ?_
 repeat'(first|refine ar ?_|(refine aF fun b_=>?_)|fail)
 obtain⟨bm,rfl⟩:∃y:Nat,y=b_:=⟨_,rfl⟩
 refine aa.he (HE.IY (P:=A1 m) rfl rfl (fun w' hw'=>DB m ([Pn p0 m.types.length c0,Pn p1 m.imports.length c1,Pn p2 m.funcs.length c2,Pn p3 m.tables.length c3,Pn p4 m.bQ.length c4,Pn p5 m.globals.length c5,Pn p6 m.aJ.length c6,Po m.aI,Pm .i64 m.start,Pn p7 m.elems.length c7,Pn p8 m.bg.length c8,Pn p9 m.bE.length c9]:List Value) w' (hm0.aN (show Ext w w' from hw'.at) (fun _ _ _ h=>h)))) rfl ?_
 intro fb hfb
 cases fb with
 |false=>
  repeat'(first|refine ar ?_|(refine aa.aj (f:=6) ?_;refine aa.av rfl rfl rfl (fun w' hw'=>rY w' (h0.ext hw'.at)) ?_)|fail)
  all_goals exact gt
 |true=>
  have hLQ:=(hfb rfl).lens hK Pi
  have hB:=(hfb rfl).body hK
  have hlen:=Cf (hfb rfl) i
  obtain⟨tr,htr⟩:∃r,kA m i=r:=⟨_,rfl⟩
  obtain⟨lo,hlo⟩:∃r,nU m i=r:=⟨_,rfl⟩
  have hlol:(lo.getD []).length≤1048976:=by
   rw[←hlo];unfold nU
   cases ht:nX m i with
   |none=>exact Pu _
   |some f=>
    obtain⟨hf,j,rfl,hj⟩:=m6 ht
    have h1:=hB.ty f hf
    have h2:=hB.loc j hj
    show(kr m j f).length≤_
    have:(kr m j f).length=f.params.length+(ix m.funcs j).locals.length:=by simp[kr]
    omega
  have hT1:=fun B sv w' (hs:bK B m w' sv) (hx:Ext w w')=>pV m ([Pn p0 m.types.length c0,Pn p1 m.imports.length c1,Pn p2 m.funcs.length c2,Pn p3 m.tables.length c3,Pn p4 m.bQ.length c4,Pn p5 m.globals.length c5,Pn p6 m.aJ.length c6,Po m.aI,Pm .i64 m.start,Pn p7 m.elems.length c7,Pn p8 m.bg.length c8,Pn p9 m.bE.length c9]:List Value) B sv i w' (hm0.aN hx (fun _ _ _ h=>h)) hs (h0.ext hx) hB
  have hT2:=fun w' (hx:Ext w w')=>Ay (fun k=>k<w.heap.size) m ([Pn p0 m.types.length c0,Pn p1 m.imports.length c1,Pn p2 m.funcs.length c2,Pn p3 m.tables.length c3,Pn p4 m.bQ.length c4,Pn p5 m.globals.length c5,Pn p6 m.aJ.length c6,Po m.aI,Pm .i64 m.start,Pn p7 m.elems.length c7,Pn p8 m.bg.length c8,Pn p9 m.bE.length c9]:List Value) i w' (hmL.aN hx (fun _ _ _ h=>h)) (fun k hk=>PB hk hx.size) (h0.ext hx) hB
  have hL1:=fun B sv w' (hs:bK B m w' sv) (hx:Ext w w')=>oa (fun _=>True) B m ([Pn p0 m.types.length c0,Pn p1 m.imports.length c1,Pn p2 m.funcs.length c2,Pn p3 m.tables.length c3,Pn p4 m.bQ.length c4,Pn p5 m.globals.length c5,Pn p6 m.aJ.length c6,Po m.aI,Pm .i64 m.start,Pn p7 m.elems.length c7,Pn p8 m.bg.length c8,Pn p9 m.bE.length c9]:List Value) sv i w' (hm0.aN hx (fun _ _ _ h=>h)) hs hB
  have hL2:=fun w' (hx:Ext w w')=>nz (fun k=>k<w.heap.size) m ([Pn p0 m.types.length c0,Pn p1 m.imports.length c1,Pn p2 m.funcs.length c2,Pn p3 m.tables.length c3,Pn p4 m.bQ.length c4,Pn p5 m.globals.length c5,Pn p6 m.aJ.length c6,Po m.aI,Pm .i64 m.start,Pn p7 m.elems.length c7,Pn p8 m.bg.length c8,Pn p9 m.bE.length c9]:List Value) i w' (hmL.aN hx (fun _ _ _ h=>h)) (fun k hk=>PB hk hx.size) hB
  rw[htr]at hT1 hT2 hlen
  rw[hlo]at hL1 hL2
  repeat'(first|refine ar ?_|fail)
  refine aa.he (HE.tC (m:=m) rfl rfl (fun w' hw'=>oN (fun _=>True) m ([Pn p0 m.types.length c0,Pn p1 m.imports.length c1,Pn p2 m.funcs.length c2,Pn p3 m.tables.length c3,Pn p4 m.bQ.length c4,Pn p5 m.globals.length c5,Pn p6 m.aJ.length c6,Po m.aI,Pm .i64 m.start,Pn p7 m.elems.length c7,Pn p8 m.bg.length c8,Pn p9 m.bE.length c9]:List Value) w' (hm0.aN (show Ext w w' from hw'.at) (fun _ _ _ h=>h)) hLQ)) rfl ?_
  rintro⟨B,sv⟩ _
  dsimp only
  repeat'(first|refine ar ?_|fail)
  refine aa.he (HE.bJ (M0:=[]) nK.nil rfl rfl (fun w' hw'=>hT1 B sv w' (hw'.get (p:=fun w=>bK B m w sv) ak) hw'.at)) rfl ?_
  rintro⟨la,ta,Da⟩ _
  dsimp only[Pp]
  refine aa.map (fun w' h=>Ok.Hk (T:=qw) (lv:=la) (tc:=ta) (D:=Da) (l:=tr.getD []) h Pi) ?_
  repeat'(first|refine ar ?_|fail)
  refine aa.he (HE.bJ (M0:=[]) nK.nil rfl rfl (fun w' hw'=>hT2 w' hw'.at)) rfl ?_
  rintro⟨lb,tb,Db⟩ _
  dsimp only[Pp]
  refine aa.map (fun w' h=>Ok.Hk (T:=rl) (lv:=lb) (tc:=tb) (D:=Db) (l:=tr.getD []) h Pi) ?_
  repeat'(first|refine ar ?_|fail)
  refine aa.he (HE.bJ (M0:=[]) nK.nil rfl rfl (fun w' hw'=>hL1 B sv w' (hw'.get (p:=fun w=>bK B m w sv) ak) hw'.at)) rfl ?_
  rintro ua _
  dsimp only[Pq,Pp]
  repeat'(first|refine ar ?_|fail)
  refine aa.he (HE.bJ (M0:=[]) nK.nil rfl rfl (fun w' hw'=>hL2 w' hw'.at)) rfl ?_
  rintro ub _
  dsimp only[Pq,Pp]
  repeat'(first|refine ar ?_|fail)
  refine aa.oA (fun w5 h5=>?_)
  have x5:Ext w w5:=h5.at
  have hA5:gB (fun k=>k<w5.heap.size) w5 la (tr.getD []):=gF.mono mD.mo mD.ce (h5.get (p:=fun w=>gB (fun _=>True) w la (tr.getD [])) ak) (fun _ h _=>h)
  have hB5:gB (fun _=>True) w5 lb (tr.getD []):=h5.get (p:=fun w=>gB (fun _=>True) w lb (tr.getD [])) ak
  have hU5:=dK (h5.m (.own 0 fR 1 ua (lo.getD []).length (aY (lo.getD []))) bO).1 Pi
  have hV5:=dK (h5.m (.own 0 fR 1 ub (lo.getD []).length (aY (lo.getD []))) bO).1 Pi
  refine aa.he (HE.zD (V:=fun D w (u:Value)=>gB D w u (tr.getD [])) (tf:=fun u=>u) (w0:=w5) (F:=fun k=>k<w5.heap.size) (fun h hc hd=>gB.aN h hc hd) ak (fun _ h=>h) rfl rfl (fun w' hw'=>tO _ _ la w' (hA5.ext hw'.at))) rfl ?_
  rintro⟨D6,v6⟩ _
  dsimp only
  repeat'(first|refine ar ?_|fail)
  refine aa.av (v:=.bool true) rfl rfl rfl (fun w' hw'=>by
   have:=uX D6 (fun _=>True) (tr.getD []) (tr.getD []) v6 lb w' (hw'.get (p:=fun w=>gB D6 w v6 (tr.getD [])) ak) (hB5.ext hw'.at)
   rw[decide_eq_true rfl]at this;exact this) ?_
  simp only[List.getElem_toArray,List.getElem_cons_succ,List.getElem_cons_zero]
  generalize tr.isSome=t1
  generalize lo.isSome=t2
  cases t1<;>cases t2
  all_goals
   refine ar ?_
   refine aa.cB (v:=.bool true) rfl rfl rfl rfl (fun w' hw'=>by
    have:=qe _ _ (lo.getD []) (lo.getD []) ua ub w' (hU5.aN (show Ext w5 w' from hw'.at) (fun _ _ _ h=>h)) (hV5.aN (show Ext w5 w' from hw'.at) (fun _ _ _ h=>h))
    rw[decide_eq_true rfl]at this;exact this) ?_
   refine ar ?_
   refine aa.cB (v:=.bool true) rfl rfl rfl rfl (fun w' hw'=>rY w' (h0.ext (x5.trans hw'.at))) ?_
   repeat'(first|refine ar ?_|fail)
   exact ah.aG rfl rfl fun w' hw'=>⟨rfl,x5.trans hw'.at⟩
open Go.ChangeShapes Go.WideShapes Go.ChangeAt Go.RowKit Go.Deep
def pd (N:Nat) (w:World) (t:TypeId) (cs:List Value):Prop:=
 ∃(H:Type) (enc:TypeId×Value→H) (spare:Nat→Bool) (held:Bool) (fuel:Nat) (x:DataW H×List MemPlace),DataW.trod enc G.P w 0 spare held fuel t cs=some x∧Rows.uptoBulk x.1≤N
section
variable {H:Type} {N:Nat} {w:World} {t e:TypeId} {cs:List Value}
theorem EW (d:DataW H):1≤Rows.uptoBulk d:=by
 cases d with
 |lit l=>cases l<;>simp[Rows.uptoBulk]
 |_=>simp[Rows.uptoBulk]
theorem rq {d:DataW H} {l:List (DataW H)} (h:d∈l):Rows.uptoBulk d≤Rows.uptoBulkAll l:=by
 induction l with
 |nil=>cases h
 |cons x r ih=>
  simp only[Rows.uptoBulkAll]
  rcases List.mem_cons.1 h with rfl|h
  ·omega
  ·have:=ih h;omega
theorem EV (l:List (DataW H)):l.length≤Rows.uptoBulkAll l:=by
 induction l with
 |nil=>simp[Rows.uptoBulkAll]
 |cons x r ih=>have:=EW x;simp only[Rows.uptoBulkAll,List.length_cons];omega
theorem pd.struct {fs:Array Field} (ht:G.P.underlying t=some (.struct fs)) (h:pd N w t cs):∀(i:Nat) (f:Field),fs[i]?=some f→pd N w f.type ((cs.drop f.offset).take (G.P.cellsOf f.type)):=by
 obtain⟨H,enc,spare,held,fuel,x,h,hw⟩:=h
 obtain⟨xs,n,rfl,rfl,hl,hx,hf⟩:=DataW.trod_struct ht h
 intro i f hi
 have h1:=hf i f hi
 have hlt:i<xs.length:=by rw[hx];exact(Array.getElem?_eq_some_iff.1 hi).1
 rw[Pw hlt]at h1
 refine⟨H,enc,spare,held,n,xs[i],h1,PE (rq (l:=xs.map (·.1)) (List.mem_map.2 ⟨xs[i],List.getElem_mem hlt,rfl⟩)) ?_⟩
 simp only[Rows.uptoBulk]at hw
 omega
theorem pd.slice {s:Nat} (ht:G.P.underlying t=some (.slice e)) (hc:G.P.cellsOf e=s) (h0:0<s) (h:pd N w t cs):
  ∃p len cap,cs=[.slice p len cap]∧len≤N∧(len=0∨∃b off,p=some ⟨b,off,none⟩∧∀i,i<len→∃cs',cs'.length=s∧(∀j,j<s→w.cell? ⟨b,off+i*s+j,none⟩=cs'[j]?)∧pd N w e cs'):=by
 obtain⟨H,enc,spare,held,fuel,x,h,hw⟩:=h
 rcases open_slice ht h with⟨rfl,rfl⟩|⟨a,len,cap,m,n,D,Pl,rfl,hb,hl,hm,hmm,rfl,hx⟩
 ·exact⟨_,_,_,rfl,by omega,.inl rfl⟩
 ·rw[hc]at hx
  have hlm:len≤m:=by rw[hmm];split<;>omega
  simp only[Rows.uptoBulk]at hw
  refine⟨_,len,cap,rfl,?_,?_⟩
  ·have:=EV ((PH len).map D)
   rw[PV,List.length_range]at this
   omega
  ·by_cases hz:len=0
   ·exact .inl hz
   ·right
    obtain⟨cs0,hc0,-⟩:=hx 0 Pi
    obtain⟨-,hl0,hg0⟩:=World.cells?_some hc0
    have hsp:a.spot=none:=by
     have h1:=hg0 0 h0
     rw[Nat.zero_mul,Pw Pi]at h1
     have e0:(a.add 0).add 0=a.add 0:=by unfold Addr.add;simp
     rw[e0]at h1
     exact zu h1
    refine⟨a.block,a.off,by obtain⟨_,_,s⟩:=a;cases hsp;rfl,fun i hi=>?_⟩
    obtain⟨cs',hc',htr⟩:=hx i Pi
    obtain⟨-,hl',hg'⟩:=World.cells?_some hc'
    refine⟨cs',hl',fun j hj=>?_,H,enc,spare,held,n,_,htr,?_⟩
    ·rw[←hg' j hj,xQ hsp,xQ rfl]
    ·have:=rq (d:=D i) (l:=(PH len).map D) (List.mem_map.2 ⟨i,List.mem_range.2 hi,rfl⟩)
     show Rows.uptoBulk (D i)≤N
     omega
theorem pd.iy {fs:Array Field} (hf:∀(i:Nat) (f:Field),fs[i]?=some f→pd N w f.type ((cs.drop f.offset).take (G.P.cellsOf f.type))) (i o n:Nat) {t:TypeId} (hi:(fs[i]?).map (fun f=>(f.type,f.offset))=some (t,o)) (hn:G.P.cellsOf t=n):pd N w t ((cs.drop o).take n):=by
 obtain⟨f,h1,h2⟩:=Option.map_eq_some_iff.1 hi
 simp only[Prod.mk.injEq]at h2
 obtain⟨rfl,rfl⟩:=h2
 rw[←hn]
 exact hf i f h1
theorem Jv {u:Value} (h:pd N w 49 [u]) {p:Option Addr} {n c:Nat} (e:u=.slice p n c):n≤N:=by
 obtain⟨p',n',c',e',hl,-⟩:=h.slice (s:=1) underlying49 Pb Pi
 subst e
 simp only[List.cons.injEq,Pn.injEq,and_true]at e'
 omega
theorem IA {m:af} (h:pd N w 33 cs) (hm:au (fun _=>True) w cs m):Gi N m:=by
 obtain⟨v0,v1,v2,v3,v4,v5,v6,v7,v8,v9,rfl,r0,-⟩:=hm
 have hf:=h.struct underlying33
 obtain⟨p,len,cap,e,-,hx⟩:=(show pd N w _ [v0]from pd.iy hf 0 0 1 rfl Pb).slice (s:=2) underlying22 Pb Pi
 simp only[List.cons.injEq,and_true]at e
 subst e
 obtain⟨p',c',e',-⟩:=r0.slice
 simp only[Pn.injEq]at e'
 obtain⟨rfl,rfl,rfl⟩:=e'
 intro f hfm
 obtain⟨i,hi,rfl⟩:=List.getElem_of_mem hfm
 obtain⟨b,o,rfl,-,cs2,⟨u0,u1,rfl,q0,q1⟩,hc⟩:=r0.el hi
 obtain⟨b',o',e2,hx⟩:=hx.resolve_left Pi
 cases e2
 obtain⟨cs',hl',hcc,ht⟩:=hx i hi
 match cs',hl' with
 |[a0,a1],_=>
  have e0:a0=u0:=by
   have h1:=hcc 0 Pi;have h2:=hc 0 Pi
   rw[h1]at h2;simpa using h2
  have e1:a1=u1:=by
   have h1:=hcc 1 Pi;have h2:=hc 1 Pi
   rw[h1]at h2;simpa using h2
  subst e0 e1
  have hg:=ht.struct underlying61
  rw[cz hi]at q0 q1
  obtain⟨x0,y0,z0,-⟩:=q0.slice
  obtain⟨x1,y1,z1,-⟩:=q1.slice
  exact⟨Jv (show pd N w _ [a0]from pd.iy hg 0 0 1 rfl Pb) z0,Jv (show pd N w _ [a1]from pd.iy hg 1 1 1 rfl Pb) z1⟩
end
theorem Gu {enc:TypeId×Value→H} {N:Nat} {w:World} {t:TypeId} {cs:List Value} {d:DataW H} {ps:List MemPlace} (h:DataW.Trod enc G.P w 0 (fun _=>true) true t (.agg cs.toArray) d ps) (hb:Rows.uptoBulk d≤N):pd N w t cs:=by
 obtain⟨fuel,h⟩:=h
 exact⟨H,enc,_,_,fuel,_,by simpa[Value.cells]using h,hb⟩
section
variable {H:Type} {N:Nat} {w:World} {t e:TypeId} {cs:List Value}
theorem sliceB {u:Value} {s:Nat} (ht:G.P.underlying t=some (.slice e)) (hc:G.P.cellsOf e=s) (h0:0<s) (h:pd N w t [u]) {p:Option Addr} {n c:Nat} (e:u=.slice p n c):n≤N:=by
 obtain⟨p',n',c',e',hl,-⟩:=h.slice ht hc h0
 subst e
 simp only[List.cons.injEq,Pn.injEq,and_true]at e'
 omega
theorem J1 {F:Nat→Prop} {u:Value} {xs:List cv} (h:pd N w 56 [u]) (hb:fF F w u xs):∀k,k<xs.length→(ix xs k).labels.length≤N:=by
 obtain⟨p,c,rfl,-⟩:=hb.slice
 obtain⟨p',n',c',e',-,hx⟩:=h.slice (s:=9) underlying56 Pb Pi
 simp only[List.cons.injEq,Pn.injEq,and_true]at e'
 obtain⟨rfl,rfl,rfl⟩:=e'
 intro k hk
 obtain⟨b,o,e2,hy⟩:=hx.resolve_left Pi
 subst e2
 obtain⟨b',o',e3,-,hins⟩:=hb.at hk
 cases e3
 obtain⟨lv,hlv,hI⟩:=(hins k hk).labels
 obtain⟨cs',hl',hcc,ht⟩:=hy k hk
 obtain⟨a0,a1,a2,a3,a4,a5,a6,a7,a8,rfl⟩:=Je hl'
 have e8:a8=lv:=by have h1:=hcc 8 Pi;rw[hlv]at h1;simpa using h1.symm
 subst e8
 obtain⟨q,d,z,-⟩:=hI.slice
 have hg:=ht.struct underlying69
 exact sliceB (s:=1) underlying67 Pb Pi (show pd N w _ [a8]from pd.iy hg 6 8 1 rfl Pb) z
theorem EU {m:af} (h:pd 1048576 w 33 cs) (hm:au (fun _=>True) w cs m):Co m:=by
 have hty:=IA h hm
 obtain⟨v0,v1,v2,v3,v4,v5,v6,v7,v8,v9,rfl,r0,r1,r2,r3,r4,r5,r6,r7,r8,r9,g0⟩:=hm
 have hf:=h.struct underlying33
 obtain⟨p3,c3,z3,-⟩:=r3.slice
 obtain⟨p4,c4,z4,-⟩:=r4.slice
 obtain⟨p6,c6,z6,-⟩:=r6.slice
 refine⟨hty,sliceB (s:=4) underlying25 Pb Pi (show pd 1048576 w _ [v3]from pd.iy hf 3 3 1 rfl Pb) z3,sliceB (s:=3) underlying26 Pb Pi (show pd 1048576 w _ [v4]from pd.iy hf 4 4 1 rfl Pb) z4,sliceB (s:=3) underlying28 Pb Pi (show pd 1048576 w _ [v6]from pd.iy hf 6 6 1 rfl Pb) z6,fun j hj=>?_⟩
 obtain⟨p,len,cap,e,-,hx⟩:=(show pd 1048576 w _ [v2]from pd.iy hf 2 2 1 rfl Pb).slice (s:=3) underlying24 Pb Pi
 simp only[List.cons.injEq,and_true]at e
 subst e
 obtain⟨p',c',e',-⟩:=r2.slice
 simp only[Pn.injEq]at e'
 obtain⟨rfl,rfl,rfl⟩:=e'
 obtain⟨b,o,rfl,-,cs2,⟨u0,u1,rfl,q0,q1,q2⟩,hc⟩:=r2.el hj
 obtain⟨b',o',e2,hx⟩:=hx.resolve_left Pi
 cases e2
 obtain⟨cs',hl',hcc,ht⟩:=hx j hj
 match cs',hl' with
 |[a0,a1,a2],_=>
  have e2:a2=u1:=by
   have h1:=hcc 2 Pi;have h2:=hc 2 Pi
   rw[h1]at h2;simpa using h2
  subst e2
  have hg:=ht.struct underlying58
  exact J1 (show pd 1048576 w _ [a2]from pd.iy hg 2 2 1 rfl Pb) q1
end
open Go.ChangeShapes Go.WideShapes Go.ChangeAt Go.RowKit
noncomputable def jj (os:Os):World:=
 let N:=(World.settled prog os).heap.size
 let w0:=World.holding prog os ⟨#[.cells (Lib.whiteT.map fun(z:Nat)=>Pm .u16 (z:Int)).toArray 298,.cells #[.slice (some ⟨N,0,none⟩) 7 7,.slice none 0 0,.int .i64 2] 295],#[],[]⟩
 let put (h:Array Obj) (g:Nat) (cs:Array Value):Array Obj:=h.modify g fun
  |.cells _ t frozen=>.cells cs t frozen
  |o=>o
 let h1:=put w0.heap 0 (Lib.asciiSpaceTab.map fun z=>Pm .u8 z).toArray
 let h2:=put h1 2 #[.pointer (some ⟨N+1,0,none⟩)]
 {w0 with heap:=h2}
theorem tx (args:Array Value):laidMet prog Rows.bodyTracesUptoRow.laid ((jj os).forCall (fun _ _=>0) ⟨#[],args,[]⟩).memory:=
 laidMet_of_run' 8 Pb Pb
theorem pU (enc:TypeId×Value→H):
  (Rows.OpenSpec.upto Rows.bodyTracesSpec).preRow enc prog f4 Rows.bodyTracesUptoRow.domain false Rows.bodyTracesUptoRow.laid ((jj os).forCall (fun _ _=>0) ⟨#[],#[.agg #[.slice none 0 0,.slice none 0 0,.slice none 0 0,.slice none 0 0,.slice none 0 0,.slice none 0 0,.slice none 0 0,.bool false,.int .i64 0,.slice none 0 0,.slice none 0 0,.slice none 0 0],.int .i64 0],[]⟩).memory #[.agg #[.slice none 0 0,.slice none 0 0,.slice none 0 0,.slice none 0 0,.slice none 0 0,.slice none 0 0,.slice none 0 0,.bool false,.int .i64 0,.slice none 0 0,.slice none 0 0,.slice none 0 0],.int .i64 0]:=by
 have hw:(DataW.whole enc prog ((jj os).forCall (fun _ _=>0) ⟨#[],#[.agg #[.slice none 0 0,.slice none 0 0,.slice none 0 0,.slice none 0 0,.slice none 0 0,.slice none 0 0,.slice none 0 0,.bool false,.int .i64 0,.slice none 0 0,.slice none 0 0,.slice none 0 0],.int .i64 0],[]⟩).memory f4.params.toList Rows.bodyTracesSpec.vars false (#[.agg #[.slice none 0 0,.slice none 0 0,.slice none 0 0,.slice none 0 0,.slice none 0 0,.slice none 0 0,.slice none 0 0,.bool false,.int .i64 0,.slice none 0 0,.slice none 0 0,.slice none 0 0],.int .i64 0]:Array Value).toList 8).map (fun x=>(x.1,x.2.1))=
   some ([.agg [.nil,.nil,.nil,.nil,.nil,.nil,.nil,.lit (.bool false),.lit (.int .i64 0),.nil,.nil,.nil],.lit (.int .i64 0)],[]):=by kernel_rfl
 obtain⟨⟨x1,x2,x3⟩,hx,hx1⟩:=Option.map_eq_some_iff.1 hw
 simp only[Prod.mk.injEq]at hx1
 obtain⟨rfl,rfl⟩:=hx1
 exact OpenSpec.preRow_of_cond 8 hx Pb (fun k hk=>by cases hk;kernel_rfl) Pb (tx os _)
theorem qE (started:os.Started) (H:Type) (enc:TypeId×Value→H) (F:Stop.Interp):
  ReturnsInHanded {} checked os 4 .any ((Rows.OpenSpec.upto Rows.bodyTracesSpec).preRow enc prog f4 Rows.bodyTracesUptoRow.domain false Rows.bodyTracesUptoRow.laid) (((Rows.OpenSpec.upto Rows.bodyTracesSpec).at F).post enc prog f4 false true false false):=by
 refine returnsInHanded_of_row (C:=checked) (s:=Rows.OpenSpec.upto Rows.bodyTracesSpec) own started Pb func4
  (witness_row_atRef (enc:=enc) (C:=checked) false (jj os) #[.agg #[.slice none 0 0,.slice none 0 0,.slice none 0 0,.slice none 0 0,.slice none 0 0,.slice none 0 0,.slice none 0 0,.bool false,.int .i64 0,.slice none 0 0,.slice none 0 0,.slice none 0 0],.int .i64 0] rfl Pb Pb Pb (pU os enc)) ?_
 intro W base args ds gs before hval0 hW _ hcond hsz hL hsh _
 have h0:fK W:=GJ hL hsh
 have hW':DataW.Whole enc prog f4.params.toList Rows.bodyTracesSpec.vars false W args.toList ds gs before:=hW
 obtain⟨p,q,hA0,hV,rfl,hfz,hnd⟩:=hW
 have hA:DataW.TrodAll enc prog W 0 (fun _=>true) true f4.params.toList args.toList ds p:=hA0
 obtain⟨rfl,rfl⟩:=trodVars_none hV
 have hz:∀n∈DataW.weightsEach prog f4.params.toList ds,n≤reachBytes:=fun n hn=>by
  have h1:=List.all_eq_true.1 hsz n (by rw[PS];exact su _ _ _ n hn)
  simpa using h1
 have hval:∀(j:Nat) t v,f4.params[j]?=some t→args[j]?=some v→Value.okWide prog W .any base t v:=hval0
 rw[params4]at hA hz hval
 obtain⟨v0,vs0,d0,ds0,p0,q0,hargs,rfl,rfl,h0',r0⟩:=trodAll_cons hA
 obtain⟨v1,vs1,d1,ds1,p1,q1,rfl,rfl,rfl,h1',r1⟩:=trodAll_cons r0
 obtain⟨rfl,rfl,rfl⟩:=trodAll_nil r1
 have hbk:Rows.uptoBulkAll [d0,d1]≤1048576:=by
  have h:=hcond _ rfl
  simp only[PS]at h
  exact of_decide_eq_true h
 obtain rfl:args=#[v0,v1]:=by cases args;simp_all
 obtain⟨cs0,rfl,hl0,ht0⟩:=A8 underlying33 (hval 0 _ v0 rfl rfl) h0' (fun n hn=>hz n (by simp only[DataW.weightsEach,PS,List.mem_append];first|exact hn|exact .inl hn|exact .inr hn|exact .inr (.inl hn)|exact .inr (.inr hn)|exact .inr (.inr (.inl hn))|exact .inr (.inr (.inr hn))|exact .inr (.inr (.inr (.inl hn)))|exact .inr (.inr (.inr (.inr hn)))))
 obtain⟨m0,hm0⟩:=au.of ht0 (by rw[hl0];kernel_rfl)
 obtain⟨n1,rfl,rfl,rfl,hr1⟩:=open_int underlying3 (hval 1 _ v1 rfl rfl) h1'
 refine(rA m0 cs0 n1 W hm0 (EU (Gu h0' (PE (rq Pj) hbk)) hm0) h0).mono fun e W' ⟨he,hx⟩=>?_
 subst he
 exact⟨_,rfl,yB (P:=prog) laidOut rfl (tb:=4) Pb underlying4 Pb hW' (fun _=>rfl) hx.below⟩
end Go.Proofs.YtdkcljdfbemnbaaGreatDoor
