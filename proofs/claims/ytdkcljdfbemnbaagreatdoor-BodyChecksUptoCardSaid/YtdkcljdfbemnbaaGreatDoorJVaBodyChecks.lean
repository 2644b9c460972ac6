/- Layer 24: Check and Trace of the program. -/
import Derived.Test.YtdkcljdfbemnbaaGreatDoorJOa
import Derived.Test.YtdkcljdfbemnbaaGreatDoorJRt
import Derived.Test.YtdkcljdfbemnbaaGreatDoorJLz
import Derived.Test.YtdkcljdfbemnbaaGreatDoorJGd
namespace Go.Proofs.YtdkcljdfbemnbaaGreatDoor
open Go.RowKit _root_.Go.Proofs.Tryz
set_option maxHeartbeats 16000000
open List renaming append_nil→PM,cons_append→Pj,getElem?_eq_getElem→Pq,length_map→PS,nil_append→Pi,nil_sublist→PH,range→PB,take_length→Pu
open Nat renaming le_trans→Py,lt_of_lt_of_le→Pw,zero_add→Pm,zero_le→Po
open Value renaming bool→Ph,int→Pf,slice→Pg
set_option maxRecDepth 100000
variable (os:Os) {H:Type} (F:Nat→Prop) (m:af) (cs:List Value) (B:Nat) (sv:Value) (i:Int) {M:List bu} {R:List (World→Prop)} {w:World}
theorem Ok.qb (T:Nat) (h:Ok M R w):Ok (iT T (.slice none 0 0) [] (fun _=>False) []++M) R w:=
 (h.push (q:=.kr ek ek.fr (fun _=>False) ([],[])) (bX.refl _ w) (ek.nil _ _) (fun _ hk=>hk.elim)).iN 0 T 2
theorem Hh {bx:Nat} (h:Ok (.aV bx [.slice none 0 0] Gn::M) R w):Ok (Iy bx ⟨.slice none 0 0,[],fun _=>False,[]⟩::M) R w:=by
 refine Ok.pack (L:=.aV bx [.slice none 0 0] Gn::iT rN (.slice none 0 0) [] (fun _=>False) []) ?_
 have h1:=h.qb rN
 exact h1.front (q:=.aV bx [.slice none 0 0] Gn) (Rm.tail (Rm.tail Rm.head))
def rL (m:af) (i:Int):Option (List (Bool×List Int)):=if(vG m i).2=0 then some (Iu m i)else none
def EH (T:Nat) (r:Option (List (Bool×List Int))) (w:World):Ending→World→Prop:=gV w (fun z:Value×List Value×(Nat→Prop)=>.tuple #[z.1,.bool r.isSome]) (fun z=>iT T z.1 z.2.1 z.2.2 (r.getD []))
theorem pP (w:World) (hm:av (fun _=>True) w cs m) (hs:bN B m w sv) (h0:fJ w) (hB:ss m):Calls G.P 7 #[.agg cs.toArray,sv,.int .i64 i] w fun e w'=>e=.returned (.tuple #[.int .i64 (vG m i).1,.int .i64 (vG m i).2])∧Ext w w':=by
 have hm0:=hm
 obtain⟨v0,v1,v2,v3,v4,v5,v6,v7,v8,v9,rfl,r0,r1,r2,r3,r4,r5,r6,r7,r8,r9,g0⟩:=hm;obtain⟨p0,c0,rfl,l0⟩:=r0.slice;obtain⟨p1,c1,rfl,l1⟩:=r1.slice;obtain⟨p2,c2,rfl,l2⟩:=r2.slice;obtain⟨p3,c3,rfl,l3⟩:=r3.slice;obtain⟨p4,c4,rfl,l4⟩:=r4.slice;obtain⟨p5,c5,rfl,l5⟩:=r5.slice;obtain⟨p6,c6,rfl,l6⟩:=r6.slice;obtain⟨p7,c7,rfl,l7⟩:=r7.slice;obtain⟨p8,c8,rfl,l8⟩:=r8.slice;obtain⟨p9,c9,rfl,l9⟩:=r9.slice
 refine ae (l:=[_,_,_]) func7 rfl ntmps7 rfl (Ok.start w) ?_
 repeat'(first|refine ar ?_|(refine aE fun b_=>?_)|fail)
 refine aa.map (M':=[bu.pack []]) (R':=[Ext w]) (fun w' hw'=>Ok.pack (L:=[]) (hw'.dc dU aU)) ?_
 refine aa.he (HE.bJ (M0:=[bu.pack []]) dS rfl rfl (fun w' hw'=>wY (fun _:List (Bool×List Int)=>bu.pack []) id B m ([Pg p0 m.types.length c0,Pg p1 m.imports.length c1,Pg p2 m.funcs.length c2,Pg p3 m.tables.length c3,Pg p4 m.bR.length c4,Pg p5 m.globals.length c5,Pg p6 m.aL.length c6,Ph m.aI,Pf .i64 m.start,Pg p7 m.elems.length c7,Pg p8 m.bg.length c8,Pg p9 m.bE.length c9]:List Value) sv i _ [] [] w w' hm0 hs h0 hB rfl A6 rfl hw')) rfl ?_
 rintro s _
 repeat'(first|refine ar ?_|fail)
 exact ah.iq rfl rfl rfl fun w' hw'=>⟨rfl,hw'.at⟩
theorem tr (w:World) (hm:av (fun _=>True) w cs m) (hs:bN B m w sv) (h0:fJ w) (hB:ss m):Calls G.P 10 #[.agg cs.toArray,sv,.int .i64 i] w (EH rN (rL m i) w):=by
 have hm0:=hm
 obtain⟨v0,v1,v2,v3,v4,v5,v6,v7,v8,v9,rfl,r0,r1,r2,r3,r4,r5,r6,r7,r8,r9,g0⟩:=hm;obtain⟨p0,c0,rfl,l0⟩:=r0.slice;obtain⟨p1,c1,rfl,l1⟩:=r1.slice;obtain⟨p2,c2,rfl,l2⟩:=r2.slice;obtain⟨p3,c3,rfl,l3⟩:=r3.slice;obtain⟨p4,c4,rfl,l4⟩:=r4.slice;obtain⟨p5,c5,rfl,l5⟩:=r5.slice;obtain⟨p6,c6,rfl,l6⟩:=r6.slice;obtain⟨p7,c7,rfl,l7⟩:=r7.slice;obtain⟨p8,c8,rfl,l8⟩:=r8.slice;obtain⟨p9,c9,rfl,l9⟩:=r9.slice
 unfold EH gV rL
 refine ae (l:=[_,_,_]) func10 rfl ntmps10 rfl (Ok.start w) ?_
 repeat'(first|refine ar ?_|(refine aE fun b_=>?_)|(refine aa.ed (t:=Gn) ?_;refine aa.alloc (t:=Gn) [Pg none 0 0] rfl rfl rfl fun b_=>?_)|fail)
 refine aa.map (fun w' hw'=>Hh (hw'.dc (M':=[.aV b_ [.slice none 0 0] Gn]) (R':=[Ext w]) dU aU)) ?_
 refine aa.he (HE.bJ (M0:=[Iy b_ ⟨.slice none 0 0,[],fun _=>False,[]⟩]) dS rfl rfl (fun w' hw'=>by have:=wY (Iy b_) (fun s=>s.l) B m ([Pg p0 m.types.length c0,Pg p1 m.imports.length c1,Pg p2 m.funcs.length c2,Pg p3 m.tables.length c3,Pg p4 m.bR.length c4,Pg p5 m.globals.length c5,Pg p6 m.aL.length c6,Ph m.aI,Pf .i64 m.start,Pg p7 m.elems.length c7,Pg p8 m.bg.length c8,Pg p9 m.bE.length c9]:List Value) sv i _ [.pointer (some ⟨b_,0,none⟩)] ⟨.slice none 0 0,[],fun _=>False,[]⟩ w w' hm0 hs h0 hB rfl (Ca b_) rfl hw';exact this)) rfl ?_
 rintro⟨lv,tc,D,l⟩ hl
 dsimp only[Pj,Pi]at hl ⊢
 by_cases he:(vG m i).2=0
 ·have hl':=hl he
  subst hl'
  rw[if_pos he]
  refine aa.map (fun w' h=>h.unpack) ?_
  dsimp only[iT,Pj,Pi]
  repeat'(first|refine ar ?_|fail)
  all_goals exact ah.iq rfl rfl rfl fun w' hw'=>aC.tP (x:=(lv,tc,D)) trivial hw' (by dsimp only[iT,Option.getD];exact bw) ak
 ·rw[if_neg he]
  repeat'(first|refine ar ?_|fail)
  all_goals exact ah.iq rfl rfl rfl fun w' hw'=>aC.tP (x:=(Pg none 0 0,[],fun _=>False)) trivial (hw'.qb rN) (List.sublist_append_left _ _) ak
theorem aC.FA {β:Type} {w w1 w':World} {tf:β→Value} {φ:β→Prop} {M1:β→List bu} {e:Ending} (hx:Ext w w1) (h:aC [] w1 tf φ M1 e w'):aC [] w tf φ M1 e w':=by
 obtain⟨x,e1,h1,h2,h3,h4⟩:=h
 refine⟨x,e1,h1,h2,hx.any.trans h3,fun k hk hlt=>h4 k hk (Pw hlt hx.size)⟩
theorem bh.pU {Q:Exit→Act→World→Prop} {n:Nat} {c:Code} {E:Env} {M:List bu} {R:List (World→Prop)} (h:∀w1,Ok M R w1→bh Q n c E [] [Ext w1]):bh Q n c E M R:=⟨fun w1 hw=>(h w1 hw).h w1 (Ok.start w1)⟩
theorem aa.pU {ops:Array Oper} {Q:Exit→Act→World→Prop} {n:Nat} {l:List Oper} {E:Env} {M:List bu} {R:List (World→Prop)} (h:∀w1,Ok M R w1→aa ops Q n l E [] [Ext w1]):aa ops Q n l E M R:=⟨fun w1 hw=>(h w1 hw).h w1 (Ok.start w1)⟩
theorem gO.IH {b T s:Nat} {cs:List Value} (h:gO w b cs T) (_hs:cs.length=s):∀j,j<s→w.cell? ⟨b,0+j,none⟩=cs[j]?:=fun j hj=>by
 rw[Pm,Pq Pc]
 exact h.cell (Pq Pc)
def EC (T:Nat) (m:af) (i:Int) (w:World):Ending→World→Prop:=gV w (fun z:Value×List Value×(Nat→Prop)=>.tuple #[z.1,.int .i64 (vG m i).1,.int .i64 (vG m i).2]) (fun z=>iT T z.1 z.2.1 z.2.2 ((rL m i).getD []))
abbrev tj:Nat:=71
theorem BP (w:World) (hm:av F w cs m) (hF:∀k,F k→k<w.heap.size) (h0:fJ w) (hB:ss m):Calls G.P 23 #[.agg cs.toArray,.int .i64 i] w (EC tj m i w):=by
 have hm0:=hm
 have hloc:∀r,oY m i=r→oV m i=r.map (kU m i):=fun r h=>by unfold oV;rw[h]
 obtain⟨v0,v1,v2,v3,v4,v5,v6,v7,v8,v9,rfl,r0,r1,r2,r3,r4,r5,r6,r7,r8,r9,g0⟩:=hm;obtain⟨p0,c0,rfl,l0⟩:=r0.slice;obtain⟨p1,c1,rfl,l1⟩:=r1.slice;obtain⟨p2,c2,rfl,l2⟩:=r2.slice;obtain⟨p3,c3,rfl,l3⟩:=r3.slice;obtain⟨p4,c4,rfl,l4⟩:=r4.slice;obtain⟨p5,c5,rfl,l5⟩:=r5.slice;obtain⟨p6,c6,rfl,l6⟩:=r6.slice;obtain⟨p7,c7,rfl,l7⟩:=r7.slice;obtain⟨p8,c8,rfl,l8⟩:=r8.slice;obtain⟨p9,c9,rfl,l9⟩:=r9.slice
 unfold EC gV rL
 cases ht:oY m i with
 |none=>
  have eC:vG m i=(0,11):=by unfold vG;rw[ht]
  rw[eC,if_neg Pb]
  refine ae (l:=[_,_]) func23 rfl ntmps23 rfl (Ok.start w) ?_
  repeat'(first|refine ar ?_|(refine aE fun b_=>?_)|fail)
  refine aa.he (HE.bJ (M0:=[]) oJ.nil rfl rfl (fun w' hw'=>by have:=qN F m ([Pg p0 m.types.length c0,Pg p1 m.imports.length c1,Pg p2 m.funcs.length c2,Pg p3 m.tables.length c3,Pg p4 m.bR.length c4,Pg p5 m.globals.length c5,Pg p6 m.aL.length c6,Ph m.aI,Pf .i64 m.start,Pg p7 m.elems.length c7,Pg p8 m.bg.length c8,Pg p9 m.bE.length c9]:List Value) i w' (hm0.aP (show Ext w w' from hw'.at) (fun _ _ _ h=>h)) (fun k hk=>Pw (hF k hk) (show Ext w w' from hw'.at).size) hB;rw[hloc _ ht]at this;exact this)) rfl ?_
  rintro u _
  dsimp only[Pj,Pi,Option.map,Option.getD,Option.isSome]
  repeat'(first|refine ar ?_|fail)
  all_goals exact LY
 |some f=>
  obtain⟨hf,j,rfl,hj⟩:=qX ht
  have hfl:=hB.ty f hf
  have hll:=hB.loc j hj
  have hlen:=hB.len j hj
  have hlab:=hB.kT j hj
  have eC:vG m j=if(fM (ix m.funcs j).body).2≠0 then fM (ix m.funcs j).body else Dq m (kU m j f) (ix m.funcs j).body (ix m.funcs j).body.length 0 (jR f.results):=by unfold vG;rw[ht];rfl
  have eS:Iu m j=BZ m (kU m j f) (ix m.funcs j).body (ix m.funcs j).body.length 0 (jR f.results):=by unfold Iu;rw[ht];rfl
  have hlocl:(kU m j f).length≤1048976:=by
   have:(kU m j f).length=f.params.length+(ix m.funcs j).locals.length:=by simp[kU]
   omega
  rw[eS]
  obtain⟨b,o,rfl,hF9,cs5,⟨u0,u1,rfl,q0,q1,q2⟩,hc⟩:=r2.el hj;obtain⟨x0,y0,rfl,z0⟩:=q0.slice;obtain⟨x1,y1,rfl,z1⟩:=q1.slice
  obtain⟨xs,hxs⟩:∃xs,(ix m.funcs j).body=xs:=⟨_,rfl⟩
  rw[hxs]at eC q1 hlen hlab hc ⊢
  refine ae (l:=[_,_]) func23 rfl ntmps23 rfl (Ok.start w) ?_
  refine Nq ?_
  repeat'(first|refine ar ?_|(refine aE fun b_=>?_)|fail)
  obtain⟨bm,rfl⟩:∃y:Nat,y=b_:=⟨_,rfl⟩
  refine aa.he (HE.bJ (M0:=[]) oJ.nil rfl rfl (fun w' hw'=>by have:=qN F m ([Pg p0 m.types.length c0,Pg p1 m.imports.length c1,Pg (some ⟨b,o,none⟩) m.funcs.length c2,Pg p3 m.tables.length c3,Pg p4 m.bR.length c4,Pg p5 m.globals.length c5,Pg p6 m.aL.length c6,Ph m.aI,Pf .i64 m.start,Pg p7 m.elems.length c7,Pg p8 m.bg.length c8,Pg p9 m.bE.length c9]:List Value) j w' (hm0.aP (show Ext w w' from hw'.at) (fun _ _ _ h=>h)) (fun k hk=>Pw (hF k hk) (show Ext w w' from hw'.at).size) hB;rw[hloc _ ht]at this;exact this)) rfl ?_
  rintro u _
  dsimp only[Pj,Pi,Option.map,Option.getD,Option.isSome]
  generalize kU m j f=locals at*
  refine aa.pure (φ:=∃p c,u=.slice p locals.length c) (fun w' hw'=>?_) ?_
  ·obtain⟨p,c,e,_⟩:=aw (hw'.own (v:=u));exact⟨p,c,e⟩
  rintro⟨lp,lc,rfl⟩
  by_cases hck:(fM xs).2=0
  case neg=>
   rw[if_pos hck]at eC
   rw[eC,if_neg hck]
   repeat'(first|refine ar ?_|(refine aa.aj (f:=29) ?_;refine aa.he (HE.yZ (F:=F) (r:=some f) ak hF rfl rfl (fun w' hw'=>by have:=oO F m ([Pg p0 m.types.length c0,Pg p1 m.imports.length c1,Pg (some ⟨b,o,none⟩) m.funcs.length c2,Pg p3 m.tables.length c3,Pg p4 m.bR.length c4,Pg p5 m.globals.length c5,Pg p6 m.aL.length c6,Ph m.aI,Pf .i64 m.start,Pg p7 m.elems.length c7,Pg p8 m.bg.length c8,Pg p9 m.bE.length c9]:List Value) j w' (hm0.aP (show Ext w w' from hw'.at) (fun _ _ _ h=>h)) (fun k hk=>Pw (hF k hk) (show Ext w w' from hw'.at).size);rw[ht]at this;exact this)) rfl ?_;rintro⟨D_,p_,c_,q_,d_⟩ hD_;dsimp only)|(refine ay fun b_=>?_)|(refine od fun b_=>?_)|refine N0 ?_|fail)
   all_goals exact LY
  rw[if_neg (by rw[hck];decide)]at eC
  rw[eC]
  repeat'(first|refine ar ?_|(refine aa.aj (f:=29) ?_;refine aa.he (HE.yZ (F:=F) (r:=some f) ak hF rfl rfl (fun w' hw'=>by have:=oO F m ([Pg p0 m.types.length c0,Pg p1 m.imports.length c1,Pg (some ⟨b,o,none⟩) m.funcs.length c2,Pg p3 m.tables.length c3,Pg p4 m.bR.length c4,Pg p5 m.globals.length c5,Pg p6 m.aL.length c6,Ph m.aI,Pf .i64 m.start,Pg p7 m.elems.length c7,Pg p8 m.bg.length c8,Pg p9 m.bE.length c9]:List Value) j w' (hm0.aP (show Ext w w' from hw'.at) (fun _ _ _ h=>h)) (fun k hk=>Pw (hF k hk) (show Ext w w' from hw'.at).size);rw[ht]at this;exact this)) rfl ?_;rintro⟨D_,p_,c_,q_,d_⟩ hD_;dsimp only)|(refine ay fun b_=>?_)|(refine od fun b_=>?_)|refine N0 ?_|fail)
  refine aa.pU (fun w1 hw1=>?_)
  have hx1:Ext w w1:=hw1.at
  have hm1:av (fun _=>True) w1 ([Pg p0 m.types.length c0,Pg p1 m.imports.length c1,Pg (some ⟨b,o,none⟩) m.funcs.length c2,Pg p3 m.tables.length c3,Pg p4 m.bR.length c4,Pg p5 m.globals.length c5,Pg p6 m.aL.length c6,Ph m.aI,Pf .i64 m.start,Pg p7 m.elems.length c7,Pg p8 m.bg.length c8,Pg p9 m.bE.length c9]:List Value) m:=(hm0.aP hx1 (fun _ _ _ h=>h)).mono (fun _ _ _=>trivial)
  have hl1:ai (fun _=>True) w1 (.slice lp locals.length lc) locals:=(eH (hw1.m (.own 0 fT 1 (.slice lp locals.length lc) locals.length (aZ locals)) bO).1 Pc).mono (fun _ _ _=>trivial)
  have hq1:ai (fun _=>True) w1 (.slice q_ f.results.length d_) f.results:=((hw1.get (p:=sW ((some f).getD dF) ⟨D_,p_,c_,q_,d_⟩) ak).2).mono (fun _ _ _=>trivial)
  have hbm1:=(show gO w1 bm ([Pg p0 m.types.length c0,Pg p1 m.imports.length c1,Pg (some ⟨b,o,none⟩) m.funcs.length c2,Pg p3 m.tables.length c3,Pg p4 m.bR.length c4,Pg p5 m.globals.length c5,Pg p6 m.aL.length c6,Ph m.aI,Pf .i64 m.start,Pg p7 m.elems.length c7,Pg p8 m.bg.length c8,Pg p9 m.bE.length c9]:List Value) jF from(hw1.m (.aV bm ([Pg p0 m.types.length c0,Pg p1 m.imports.length c1,Pg (some ⟨b,o,none⟩) m.funcs.length c2,Pg p3 m.tables.length c3,Pg p4 m.bR.length c4,Pg p5 m.globals.length c5,Pg p6 m.aL.length c6,Ph m.aI,Pf .i64 m.start,Pg p7 m.elems.length c7,Pg p8 m.bg.length c8,Pg p9 m.bE.length c9]:List Value) jF) bO).1).IH (s:=12) rfl
  have hb1:fE (fun _=>True) w1 (.slice x1 xs.length y1) xs:=(q1.aP hx1 (fun _ _ _ h=>h)).mono (fun _ _ _=>trivial)
  have h01:=h0.ext hx1
  have hT:m7 m:=hB.ty.b Pb
  clear hm0 q1 hc hloc
  refine aa.he (HE.qz (V:=cG (DM f.results)) (w0:=w1) (F:=fun _=>True) (tf:=fun y=>.agg (eN (DM f.results) y).toArray) (cG.fr _) (cG.lt _) (cG.mo _) ak rfl rfl (fun w' hw'=>D8 _ f.results _ w' (kl hq1 hw'.at _))) rfl ?_
  rintro⟨D1,yy⟩ _
  refine aa.pure (φ:=∃a1 n1 c1 a2 n2 c2 a3 n3 c3 a4 n4 c4 a5 n5 c5,∃z:List vC,yy=⟨⟨.slice a1 n1 c1,.slice a2 n2 c2,.slice a3 n3 c3⟩,.slice a4 n4 c4,.slice a5 n5 c5,z⟩) (fun w' hw'=>cG.sh (hw'.an (V:=cG (DM f.results)) (w0:=w1) (F:=fun _=>True) (D:=D1) (y:=yy) ak bO)) ?_
  rintro⟨aa1,an1,ac1,aa2,an2,ac2,aa3,an3,ac3,aa4,an4,ac4,aa5,an5,ac5,az,rfl⟩
  dsimp only[eN]
  repeat'(first|refine ar ?_|(refine kX fun b_=>?_)|fail)
  obtain⟨b14,rfl⟩:∃y:Nat,y=b_:=⟨_,rfl⟩
  refine bh.map (fun w' h=>h.qb tj) ?_
  dsimp only[iT,Pj,Pi]
  refine bh.Ft (σ:=Nat×dv×(Nat→Prop)×jE×Value×List Value×(Nat→Prop)×List (Bool×List Int)) (fun q=>[(2,.pointer (some ⟨bm,0,none⟩)),(7,.slice lp locals.length lc),(11,.slice x1 xs.length y1),(14,.pointer (some ⟨b14,0,none⟩)),(15,q.2.2.2.2.1),(16,.int .i64 q.1)])
   (fun q=>.aV b14 (eN (bP q.2.1) q.2.2.2.1) sx::bu.an (cG (bP q.2.1)) w1 (fun _=>True) q.2.2.1 q.2.2.2.1::iT tj q.2.2.2.2.1 q.2.2.2.2.2.1 q.2.2.2.2.2.2.1 q.2.2.2.2.2.2.2) (fun _=>[Ext w1])
   (fun q=>q.1≤xs.length∧pH 1048576 f.results q.1 q.2.1∧Dq m locals xs (xs.length - q.1) q.1 q.2.1=Dq m locals xs xs.length 0 (jR f.results)∧q.2.2.2.2.2.2.2++BZ m locals xs (xs.length - q.1) q.1 q.2.1=BZ m locals xs xs.length 0 (jR f.results)) (fun q=>xs.length - q.1)
   (0,jR f.results,D1,⟨⟨.slice aa1 an1 ac1,.slice aa2 an2 ac2,.slice aa3 an3 ac3⟩,.slice aa4 an4 ac4,.slice aa5 an5 ac5,az⟩,.slice none 0 0,[],(fun _=>False),[]) bH ?_ aU ⟨Nat.zero_le _,pH.new f.results hfl.2,by rw[Nat.sub_zero],by rw[Nat.sub_zero];rfl⟩ ?_
  ·dsimp only[eN,iT,Pj,Pi]
   rw[FU]
   exact dU
  rintro⟨k,c,D1,yy,ov,tc,DS,l⟩ ⟨hk,hb,hgo,hL⟩
  dsimp only at hk hb hgo hL ⊢
  dsimp only[iT,Pj,Pi]
  by_cases hlt:k<xs.length
  case neg=>
   obtain rfl:k=xs.length:=by omega
   rw[Nat.sub_self]at hgo hL
   rw[show BZ m locals xs 0 xs.length c=[]from rfl,PM]at hL
   rw[←hgo,←hL,show Dq m locals xs 0 xs.length c=(0,0)from rfl,if_pos rfl]
   repeat'(first|refine ar ?_|fail)
   all_goals first|omega|exact ah.Ax rfl rfl rfl rfl fun w' hw'=>aC.FA hx1 (aC.tP (x:=(ov,tc,DS)) trivial (hw'.dc (M':=iT tj ov tc DS l) dU (fun _ h=>h)) (List.Sublist.refl _) ak)
  have hLl:l.length≤400:=by
   have:=congrArg List.length hL
   rw[List.length_append,qV,qV]at this
   omega
  obtain⟨ib,io,rfl,-,hins⟩:=hb1.at hlt
  obtain⟨pt,ct,pl,cl,hti,hli,hc9⟩:=(hins k hlt).cells
  have hll:=hlab k hlt
  obtain⟨rC,hrC⟩:∃r,fC c m locals (ix xs k)=r:=⟨_,rfl⟩
  obtain⟨cC,e⟩:=rC
  have hgs:=zH hlt hrC
  have hss:=AL hlt hrC
  rw[hss]at hL
  rw[hgo]at hgs
  have hB2:IA c m locals (ix xs k):=hb.bounds hB.ty Pb Pb hfl.2 Pc hll
  have hnx:=fun(e0:e=0) (ho:dB cC.ao=false)=>hb.next (m:=m) (locals:=locals) (x:=ix xs k) hB.ty Pb (by rw[hrC];exact e0) (by rw[hrC];exact ho)
  rw[hrC]at hnx
  have hbk:=hb.kc
  have hts:=hbk.ts
  have hal:=zq hbk.bk hbk.wf.ok hbk.wf.ao hbk.fit m locals (ix xs k)
  unfold GL at hc9
  generalize ix xs k=x at*
  have hap:=fun D w' (hw':Ext w1 w') (hD:∀k,D k→k<w'.heap.size) y hh=>Ao (AF (fun _=>True) w1 D) c y m ([Pg p0 m.types.length c0,Pg p1 m.imports.length c1,Pg (some ⟨b,o,none⟩) m.funcs.length c2,Pg p3 m.tables.length c3,Pg p4 m.bR.length c4,Pg p5 m.globals.length c5,Pg p6 m.aL.length c6,Ph m.aI,Pf .i64 m.start,Pg p7 m.elems.length c7,Pg p8 m.bg.length c8,Pg p9 m.bE.length c9]:List Value) locals x lp pt pl lc ct cl w' hh (GU hm1 hw' D) (kl hl1 hw' D) (kl hti hw' D) (kl hli hw' D) (fun k hk=>hk.elim (fun h=>Pw h.2 hw'.size) (hD k)) hT hbk.wf hbk.wf.ok hbk.bk hB2
  obtain⟨rR,hrR⟩:∃r,pJ (bP c) m locals x=r:=⟨_,rfl⟩
  rw[hrC]at hal
  rw[hrR]at hap hal
  obtain⟨cR,e'⟩:=rR
  obtain⟨he1,he2⟩:=hal
  dsimp only at he1 he2
  subst he1
  refine bh.pure (φ:=∃a1 c1 a2 n2 c2 a3 n3 c3 a4 n4 c4 a5 n5 c5,∃z:List vC,yy=⟨⟨.slice a1 c.ao.ts.length c1,.slice a2 n2 c2,.slice a3 n3 c3⟩,.slice a4 n4 c4,.slice a5 n5 c5,z⟩) (fun w' hw'=>by obtain⟨p1,c1,p2,c2,p3,c3,p4,c4,p5,c5,e,-⟩:=(hw'.an (V:=cG (bP c)) (w0:=w1) (F:=fun _=>True) (D:=D1) (y:=yy) ak bO).gx;exact⟨p1,c1,p2,_,c2,p3,_,c3,p4,_,c4,p5,_,c5,_,e⟩) ?_
  rintro⟨aa1,ac1,aa2,an2,ac2,aa3,an3,ac3,aa4,an4,ac4,aa5,an5,ac5,az,rfl⟩
  dsimp only[eN]
  repeat'(first|refine ar ?_|fail)
  refine aa.iN 0 fT 1 ?_
  refine aa.he (HE.zp c.ao.ts rfl rfl (fun _=>aH) (fun w' hw'=>(hw'.an (V:=cG (bP c)) (w0:=w1) (F:=fun _=>True) (D:=D1) (y:=⟨⟨.slice aa1 c.ao.ts.length ac1,.slice aa2 an2 ac2,.slice aa3 an3 ac3⟩,.slice aa4 an4 ac4,.slice aa5 an5 ac5,az⟩) ak bO).1.1) rfl rfl rfl Pe Pe Pe (by show(0+c.ao.ts.length)*8≤_;omega) Pc (fun _ _=>Po _)) rfl ?_
  simp only[Pm,Pi]
  rintro _ ⟨pu,cu,rfl⟩
  repeat'(first|refine ar ?_|(refine aa.aj (f:=36) ?_;refine aa.au (v:=.bool c.live) rfl rfl rfl (fun w' hw'=>Al _ c ⟨⟨.slice aa1 c.ao.ts.length ac1,.slice aa2 an2 ac2,.slice aa3 an3 ac3⟩,.slice aa4 an4 ac4,.slice aa5 an5 ac5,az⟩ w' (hw'.an (V:=cG (bP c)) (w0:=w1) (F:=fun _=>True) (D:=D1) (y:=⟨⟨.slice aa1 c.ao.ts.length ac1,.slice aa2 an2 ac2,.slice aa3 an3 ac3⟩,.slice aa4 an4 ac4,.slice aa5 an5 ac5,az⟩) ak bO) hbk.bk hbk.wf) ?_)|(refine fB fun b_ _=>?_)|fail)
  refine MX ?_
  intro ov2 _
  refine aa.map (fun w' hw'=>Ok.steps c.live c.ao.ts hw' jK jK rfl rfl Pc) ?_
  repeat'(first|refine ar ?_|fail)
  refine bh.cF [.aV b14 [.slice aa1 c.ao.ts.length ac1,.slice aa2 an2 ac2,.slice aa3 an3 ac3,.int .i64 (bP c).ao.bQ,.slice aa4 an4 ac4,.slice aa5 an5 ac5,.int .i64 0] sx] [Ext w1] bw aU ?_
  refine aN.qy 1 rfl (Yl.ji rfl rfl rfl ak Pe Pe hbm1) ?_
  refine aN.qa 0 rfl ?_
  refine aN.qa 2 rfl ?_
  refine aN.qa 3 rfl ?_
  refine aN.qa 4 rfl ?_
  refine aN.qy 5 rfl (Yl.idx (i:=k) rfl rfl rfl rfl rfl Pc Pc) ?_
  refine aN.qy 6 rfl (Yl.ji rfl rfl rfl ak Pe Pe hc9) ?_
  repeat'(first|refine aN.any O3 ?_|exact aB.fin rfl|refine aB.skip O3 ?_|refine aB.go ?_ ?_)
  refine ax.dz 37 ?_;refine ax.he rfl rfl (HE.bV (V:=cG (bP c)) (V2:=fX (cR,e)) (tf:=fun x=>.tuple #[.agg x.2.toArray,.int .i64 e]) (w0:=w1) (F:=fun _=>True) (D:=D1) (y:=⟨⟨.slice aa1 c.ao.ts.length ac1,.slice aa2 an2 ac2,.slice aa3 an3 ac3⟩,.slice aa4 an4 ac4,.slice aa5 an5 ac5,az⟩) (fX.fr _) (fX.lt _) (fX.mo _) ak bO (fun _=>aH) rfl rfl (fun w' hw' hh=>by have h5:=(hw'.m (bu.an (cG (bP c)) w1 (fun _=>True) D1 ⟨⟨.slice aa1 c.ao.ts.length ac1,.slice aa2 an2 ac2,.slice aa3 an3 ac3⟩,.slice aa4 an4 ac4,.slice aa5 an5 ac5,az⟩) bO).2;have h6:=hap D1 w' hw'.at h5 _ hh;exact h6)) (fun _=>bw) (fun _=>aU) ?_;rintro⟨D7,y7,l7⟩ _;refine aN.pure (φ:=fG l7) (fun w' hw'=>(hw'.an (V:=fX (cR,e)) (w0:=w1) (F:=fun _=>True) (D:=D7) (y:=(y7,l7)) ak bO).1) ?_;rintro⟨q1,q2,q3,q4,q5,q6,q7,q8,q9,q10,q11,q12,q13,q14,q15,q16,q17,rfl⟩;dsimp only
  refine aN.qa 8 rfl ?_
  refine aN.qa 9 rfl ?_
  refine aN.qa 10 rfl ?_
  repeat'(first|refine aN.any O3 ?_|exact aB.fin rfl|refine aB.skip O3 ?_|refine aB.go ?_ ?_)
  refine ax.yb sx ?_;refine ax.he rfl rfl (HE.alloc (t:=sx) [.slice none 0 0,.slice none 0 0,.slice none 0 0,.int .i64 0,.slice none 0 0,.slice none 0 0,.int .i64 0] rfl rfl) (fun _=>bw) (fun _=>aU) ?_;intro b18 _
  repeat'(first|refine aN.any O3 ?_|exact aB.fin rfl|refine aB.skip O3 ?_|refine aB.go ?_ ?_)
  (refine ax.nf ?_;refine ax.jQ rfl (gj.bn _ rfl rfl rfl rfl rfl rfl aH rfl) (fun _=>bw) (fun _=>aU) ?_;rintro⟨⟩ _)
  refine aN.qa 13 rfl ?_
  refine NA ?_
  rotate_left
  refine ax.yb sx ?_;refine ax.he rfl rfl (HE.alloc (t:=sx) [.slice none 0 0,.slice none 0 0,.slice none 0 0,.int .i64 0,.slice none 0 0,.slice none 0 0,.int .i64 0] rfl rfl) (fun _=>bw) (fun _=>aU) ?_;intro b18 _
  repeat'(first|refine aN.any O3 ?_|exact aB.fin rfl|refine aB.skip O3 ?_|refine aB.go ?_ ?_)
  refine ax.dz 37 ?_;refine ax.he rfl rfl (HE.bV (V:=cG (bP c)) (V2:=fX (cR,e)) (tf:=fun x=>.tuple #[.agg x.2.toArray,.int .i64 e]) (w0:=w1) (F:=fun _=>True) (D:=D1) (y:=⟨⟨.slice aa1 c.ao.ts.length ac1,.slice aa2 an2 ac2,.slice aa3 an3 ac3⟩,.slice aa4 an4 ac4,.slice aa5 an5 ac5,az⟩) (fX.fr _) (fX.lt _) (fX.mo _) ak bO (fun _=>aH) rfl rfl (fun w' hw' hh=>by have h5:=(hw'.m (bu.an (cG (bP c)) w1 (fun _=>True) D1 ⟨⟨.slice aa1 c.ao.ts.length ac1,.slice aa2 an2 ac2,.slice aa3 an3 ac3⟩,.slice aa4 an4 ac4,.slice aa5 an5 ac5,az⟩) bO).2;have h6:=hap D1 w' hw'.at h5 _ hh;exact h6)) (fun _=>bw) (fun _=>aU) ?_;rintro⟨D7,y7,l7⟩ _;refine aN.pure (φ:=fG l7) (fun w' hw'=>(hw'.an (V:=fX (cR,e)) (w0:=w1) (F:=fun _=>True) (D:=D7) (y:=(y7,l7)) ak bO).1) ?_;rintro⟨q1,q2,q3,q4,q5,q6,q7,q8,q9,q10,q11,q12,q13,q14,q15,q16,q17,rfl⟩;dsimp only
  refine aN.qa 8 rfl ?_
  refine aN.qa 9 rfl ?_
  refine aN.qa 10 rfl ?_
  repeat'(first|refine aN.any O3 ?_|exact aB.fin rfl|refine aB.skip O3 ?_|refine aB.go ?_ ?_)
  (refine ax.nf ?_;refine ax.jQ rfl (gj.bn _ rfl rfl rfl rfl rfl rfl aH rfl) (fun _=>bw) (fun _=>aU) ?_;rintro⟨⟩ _)
  refine aN.qa 13 rfl ?_
  refine NA ?_
  all_goals
   by_cases he:e=0
   case neg=>
    rw[if_pos he]at hgs
    rw[hgs,if_neg he]
    repeat'(first|refine ar ?_|fail)
    exact LZ
   subst he
   obtain rfl:=he2 rfl
   rw[if_neg Pb]at hgs
   repeat'(first|refine ar ?_|fail)
   refine aa.pure (φ:=∃a1 n1 c1 a2 n2 c2 a3 n3 c3 a4 n4 c4 a5 n5 c5,∃z:List vC,y7=⟨⟨.slice a1 n1 c1,.slice a2 n2 c2,.slice a3 n3 c3⟩,.slice a4 n4 c4,.slice a5 n5 c5,z⟩∧[.slice q1 q2 q3,.slice q4 q5 q6,.slice q7 q8 q9,.int .i64 q10,.slice q11 q12 q13,.slice q14 q15 q16,.int .i64 q17]=eN (bP cC) y7) (fun w' hw'=>by have hv:=hw'.an (V:=fX (bP cC,0)) (w0:=w1) (F:=fun _=>True) (D:=D7) (y:=(y7,[.slice q1 q2 q3,.slice q4 q5 q6,.slice q7 q8 q9,.int .i64 q10,.slice q11 q12 q13,.slice q14 q15 q16,.int .i64 q17])) ak bO;obtain⟨h1,h2⟩:=hv.2 rfl;obtain⟨a1,n1,c1,a2,n2,c2,a3,n3,c3,a4,n4,c4,a5,n5,c5,z,e⟩:=h2.sh;exact⟨a1,n1,c1,a2,n2,c2,a3,n3,c3,a4,n4,c4,a5,n5,c5,z,e,h1⟩) ?_
   rintro⟨ea1,en1,ec1,ea2,en2,ec2,ea3,en3,ec3,ea4,en4,ec4,ea5,en5,ec5,ez,rfl,hq⟩
   dsimp only[eN]at hq
   simp only[List.cons.injEq,Pg.injEq,Pf.injEq,and_true,true_and]at hq
   obtain⟨⟨rfl,rfl,rfl⟩,⟨rfl,rfl,rfl⟩,⟨rfl,rfl,rfl⟩,rfl,⟨rfl,rfl,rfl⟩,⟨rfl,rfl,rfl⟩,rfl⟩:=hq
   refine aa.tk (V:=fX (bP cC,0)) (V2:=cG (bP cC)) (w0:=w1) (F:=fun _=>True) (D:=D7) (⟨⟨.slice q1 q2 q3,.slice q4 q5 q6,.slice q7 q8 q9⟩,.slice q11 q12 q13,.slice q14 q15 q16,ez⟩:jE) aH (fun D w h=>(h.2 rfl).2) ?_
   obtain⟨ob,hob⟩:∃b,dB cC.ao=b:=⟨_,rfl⟩
   have hov:=fun w' (hw':bz cC.ao (AF (fun _=>True) w1 D7) w' ⟨.slice q1 q2 q3,.slice q4 q5 q6,.slice q7 q8 q9⟩)=>BH _ cC.ao _ w' hw'
   rw[hob]at hgs hov
   cases ob with
   |true=>
    rw[if_pos rfl]at hgs
    rw[hgs,if_neg (show¬((6:Int)=0)by decide)]
    repeat'(first|refine ar ?_|refine NW ?_|fail)
    exact LZ
   |false=>
    rw[if_neg Pb]at hgs
    repeat'(first|refine ar ?_|refine NW ?_|fail)
    exact ah.Fw (k+1,cC,D7,⟨⟨.slice q1 q2 q3,.slice q4 q5 q6,.slice q7 q8 q9⟩,.slice q11 q12 q13,.slice q14 q15 q16,ez⟩,ov2,tc++[Ph c.live,Pg pu c.ao.ts.length cu],(fun k=>DS k∨(Pg pu c.ao.ts.length cu).ownBlock=some k),l++[(c.live,c.ao.ts)]) bH (by dsimp only[eN,iT,Pj,Pi];rw[show(l++[(c.live,c.ao.ts)]).length=l.length+1 from by simp];exact dU) aU ⟨by show k+1≤xs.length;omega,hnx rfl hob,hgs.symm,by dsimp only;rw[List.append_assoc];exact hL⟩ (by show xs.length - (k+1)<xs.length - k;omega)
def nT:sV (Bool×List Int):=fun F w b o x=>∃p c,w.cell? ⟨b,o,none⟩=some (.bool x.1)∧w.cell? ⟨b,o+1,none⟩=some (.slice p x.2.length c)∧ai F w (.slice p x.2.length c) x.2
theorem nT.fr:Fr nT:=fun⟨p,c,h1,h2,h3⟩ hc hF hd=>⟨p,c,hc.cell (hd _ (fw h1) hF) h1,hc.cell (hd _ (fw h2) hF) h2,h3.aP hc hd⟩
theorem nT.ce:Ce nT:=fun⟨_,_,h1,_⟩=>fw h1
theorem nT.mo:Mo nT:=fun⟨p,c,h1,h2,h3⟩ hd=>⟨p,c,h1,h2,h3.mono hd⟩
abbrev iZ (F:Nat→Prop) (w:World) (v:Value) (l:List (Bool×List Int)):Prop:=gN 2 1000000 nT F w v l
theorem iZ.aP {F S:Nat→Prop} {w w':World} {v:Value} {l:List (Bool×List Int)} (h:iZ F w v l) (hc:bX S w w') (hd:∀k,k<w.heap.size→F k→¬S k):iZ F w' v l:=gN.aP nT.fr nT.ce h hc hd
theorem iZ.ext {F:Nat→Prop} {w w':World} {v:Value} {l:List (Bool×List Int)} (h:iZ F w v l) (hc:Ext w w'):iZ F w' v l:=h.aP hc (fun _ _ _ h=>h)
theorem zk {B T:Nat} {D F:Nat→Prop} {w:World} {lv:Value} {tc:List Value} {l:List (Bool×List Int)} (h:w.ownsRow B T 2 lv l.length tc) (hs:ek D w (tc,l)) (hl:l.length≤1000000) (hF:∀k,B≤k→F k) (hD:∀k,D k→F k):iZ F w lv l:=by
 obtain⟨p,c,rfl,_,_,hg⟩:=aw h
 refine⟨p,c,rfl,hl,?_⟩
 by_cases h0:l.length=0
 ·exact wl
 obtain⟨g,rfl,hgB,-⟩:=hg Pc
 refine .inr ⟨g,0,rfl,hF g hgB,fun i hi=>?_⟩
 obtain⟨p',c',e1,e2,e3⟩:=hs.2 i hi
 dsimp only at e1 e2 e3
 rw[Pm]
 exact⟨p',c',dO h e1,dO h e2,e3.mono fun k _ hk=>hD k hk⟩
theorem BX {α:Type} [Inhabited α] {xs ys:List α} {j:Nat} (hx:j<xs.length) (hy:j<ys.length) (h:xs.take j=ys.take j):xs.take (j+1)=ys.take (j+1)↔ix xs j=ix ys j:=by
 rw[bM hx,bM hy,h]
 constructor
 ·intro h;simpa using h
 ·intro h;rw[h]
theorem BO (F F':Nat→Prop) (a b:List (Bool×List Int)) (v u:Value) (w:World) (h:iZ F w v a) (h':iZ F' w u b):Calls G.P 14 #[v,u] w fun e w'=>e=.returned (.bool (decide (a=b)))∧Ext w w':=by
 obtain⟨p,c,rfl,hl⟩:=h.slice
 obtain⟨q,d,rfl,hl'⟩:=h'.slice
 refine ae (l:=[_,_]) func14 rfl ntmps14 rfl (Ok.start w) ?_
 by_cases hlen:a.length=b.length
 ·repeat'(first|refine ar ?_|fail)
  all_goals first|omega|skip
  refine bh.loop (σ:=Nat) (fun j=>[(0,.slice p a.length c),(1,.slice q b.length d),(5,.int .i64 j)]) (fun _=>[]) (fun _=>[Ext w]) (fun j=>j≤a.length∧a.take j=b.take j) (fun j=>a.length - j) 0 bH bw aU ⟨by omega,by simp⟩ ?_
  rintro j ⟨hj,heq⟩
  by_cases hjl:j<a.length
  ·obtain⟨b7,o7,rfl,-,hc⟩:=h.at hjl
   obtain⟨b8,o8,rfl,-,hc'⟩:=h'.at (show j<b.length by omega)
   have hst:=BX hjl (show j<b.length by omega) heq
   obtain⟨px,cx,hcx,hcx2,hIx⟩:=hc j hjl
   obtain⟨py,cy,hcy,hcy2,hIy⟩:=hc' j Pc
   obtain⟨x,hx⟩:∃x,ix a j=x:=⟨_,rfl⟩
   obtain⟨y,hy⟩:∃y,ix b j=y:=⟨_,rfl⟩
   rw[hx]at hcx hcx2 hIx hst
   rw[hy]at hcy hcy2 hIy hst
   obtain⟨x1,xl⟩:=x
   obtain⟨y1,yl⟩:=y
   dsimp only at hcx hcx2 hIx hcy hcy2 hIy
   by_cases he1:x1=y1
   ·subst he1
    by_cases he:xl=yl
    ·subst he
     cases x1
     all_goals
      repeat'(first|refine ar ?_|fail)
      refine M6 ?_
      refine cq ?_
      refine aq.kP (v:=.bool true) rfl rfl rfl rfl (fun w' hw'=>by have:=uB F F' xl xl (.slice px xl.length cx) (.slice py xl.length cy) w' (hIx.aP (show Ext w w' from hw'.at) (fun _ _ _ h=>h)) (hIy.aP (show Ext w w' from hw'.at) (fun _ _ _ h=>h));rw[decide_eq_true rfl]at this;exact this) ?_
      refine cq ?_
      repeat'(first|refine ar ?_|fail)
      all_goals exact ah.next (j+1) bH bw aU ⟨by omega,hst.2 rfl⟩ Pc
    ·have hne:¬a=b:=fun e=>he (by have:ix a j=ix b j:=(by rw[e]);rw[hx,hy]at this;cases this;rfl)
     rw[decide_eq_false hne]
     cases x1
     all_goals
      repeat'(first|refine ar ?_|fail)
      refine M6 ?_
      refine cq ?_
      refine aq.kP (v:=.bool false) rfl rfl rfl rfl (fun w' hw'=>by have:=uB F F' xl yl (.slice px xl.length cx) (.slice py yl.length cy) w' (hIx.aP (show Ext w w' from hw'.at) (fun _ _ _ h=>h)) (hIy.aP (show Ext w w' from hw'.at) (fun _ _ _ h=>h));rw[decide_eq_false he]at this;exact this) ?_
      refine cq ?_
      repeat'(first|refine ar ?_|fail)
      all_goals exact ci
   ·have hne:¬a=b:=fun e=>he1 (by have:ix a j=ix b j:=(by rw[e]);rw[hx,hy]at this;cases this;rfl)
    rw[decide_eq_false hne]
    cases x1<;>cases y1
    all_goals first|exact absurd rfl he1|skip
    all_goals
     repeat'(first|refine ar ?_|fail)
     refine M6 ?_
     refine cq ?_
     repeat'(first|refine ar ?_|fail)
     all_goals exact ci
  ·obtain rfl:j=a.length:=by omega
   rw[Pu,hlen,Pu]at heq
   repeat'(first|refine ar ?_|fail)
   all_goals exact pm
 ·repeat'(first|refine ar ?_|fail)
  all_goals exact pp
theorem Bj (l:List (Bool×List Int)) (v:Value) (w:World) (h:iZ F w v l):Calls G.P 15 #[v] w (bD (fun D w u=>iZ D w u l) (fun u:Value=>u) F w):=by
 obtain⟨p,c,rfl,hl⟩:=h.slice
 refine ae (l:=[_]) func15 rfl ntmps15 rfl (Ok.start w) ?_
 repeat'(first|refine ar ?_|fail)
 refine bh.iN w.heap.size tj 2 ?_
 refine bh.loop (σ:=Nat×Value×List Value) (fun s=>[(0,.slice p l.length c),(3,s.2.1),(4,.int .i64 s.1)]) (fun s=>[.own w.heap.size tj 2 s.2.1 s.1 s.2.2]) (fun _=>[Ext w]) (fun s=>s.1≤l.length∧ek F w (s.2.2,l.take s.1)) (fun s=>l.length - s.1) (0,.slice none 0 0,[]) bH bw aU ⟨Nat.zero_le _,ek.nil _ _⟩ ?_
 rintro⟨j,ov,tc⟩ ⟨hj,hst⟩
 dsimp only at hj hst ⊢
 by_cases hjl:j<l.length
 ·obtain⟨b7,o7,rfl,-,hc⟩:=h.at hjl
  obtain⟨px,cx,hcx,hcx2,hIx⟩:=hc j hjl
  have hnx:ek F w (tc++[.bool (ix l j).1,.slice px (ix l j).2.length cx],l.take (j+1)):=by
   rw[bM hjl]
   exact(ek.snoc hst hIx).mono fun _ h=>h.elim id id
  repeat'(first|refine ar ?_|fail)
  refine bh.cF [] [Ext w] bw aU ?_
  repeat'(first|refine pG ?_|(refine ax.lD ?_;refine ax.he rfl rfl (HE.jJ rfl rfl rfl rfl rfl ep Pe Pe) (fun _=>bw) (fun _=>aU) ?_;rintro b3 _)|(refine ax.rl ?_;refine ax.he rfl rfl (HE.app rfl rfl (fun _=>aH) aH rfl rfl rfl Pe Pe Pe Pe Pe Pe Pc nP) (fun _=>bw) (fun _=>aU) ?_;rintro v2 _)|refine aN.nil O3 ?_|refine aN.any O3 ?_|exact aB.fin rfl|refine aB.skip O3 ?_|refine aB.go ?_ ?_)
  all_goals repeat'(first|refine ar ?_|fail)
  all_goals exact ah.next (j+1,v2,tc++[.bool (ix l j).1,.slice px (ix l j).2.length cx]) bH bw aU ⟨by show j+1≤_;omega,hnx⟩ (by show l.length - (j+1)<l.length - j;omega)
 ·obtain rfl:j=l.length:=by omega
  rw[Pu]at hst
  repeat'(first|refine ar ?_|fail)
  all_goals exact ah.aF rfl rfl fun w' hw'=>⟨⟨ov,rfl,zk (F:=fun k=>F k∨w.heap.size≤k) (hw'.m (.own w.heap.size tj 2 ov l.length tc) bO).1 (ek.fr hst (show Ext w w' from hw'.at) (fun _ _ _ h=>h)) hl (fun _ h=>.inr h) (fun _ h=>.inl h)⟩,hw'.at⟩
def sD (k:Int):cv:=⟨k,0,0,0,0,0,0,[],[]⟩
def FF (k:Int):List Value:=[.int .i64 k,.int .i64 0,.int .i64 0,.int .u64 0,.int .i64 0,.int .i64 0,.int .i64 0,.slice none 0 0,.slice none 0 0]
theorem tW {b T:Nat} (ks:List Int) (h:gO w b (ks.flatMap FF) T) (hk:∀k∈ks,0≤k∧k≤1000000) (_hl:ks.length≤1000) {F:Nat→Prop} (hF:F b):fE F w (.slice (some ⟨b,0,none⟩) ks.length ks.length) (ks.map sD):=by
 refine⟨_,_,by rw[PS],by rw[PS];omega,.inr ⟨b,0,rfl,hF,fun i hi=>?_⟩⟩
 rw[PS]at hi
 have hi2:ix (ks.map sD) i=sD (ix ks i):=by rw[cz (by simpa using hi),cz hi,List.getElem_map]
 have hc:∀j,j<9→w.cell? ⟨b,0+i*9+j,none⟩=(FF (ix ks i))[j]?:=fun j hj=>by
  have h1:=jA FF (fun _=>rfl) ks i j hi hj
  have h2:(FF (ix ks i))[j]?=some (FF (ix ks i))[j]:=Pq hj
  rw[h2]at h1
  rw[h2,Pm]
  exact h.cell h1
 rw[hi2]
 exact⟨hc 0 Pc,hc 1 Pc,hc 2 Pc,hc 3 Pc,hc 4 Pc,hc 5 Pc,hc 6 Pc,⟨_,hc 7 Pc,ai.cI _ _⟩,⟨_,hc 8 Pc,ai.cI _ _⟩,by have:=hk _ (H4 hi);show eO (ix ks i);unfold eO;omega,by show eO 0;unfold eO;omega⟩
def DG (f:aO) (xs:List cv):af:=⟨[f],[],[⟨0,[],xs⟩],[],[],[],[],false,0,[],[],[]⟩
theorem HI.HZ:vE (fun D w cs=>av D w cs m):=fun h hc hd=>h.aP hc hd
theorem ru (f:aO) (xs:List cv) (p q bp:Option Addr) (c d bc:Nat) (w:World) (hf:dH f F w (.slice p f.params.length c,.slice q f.results.length d)) (hb:fE F w (.slice bp xs.length bc) xs):Calls G.P 17 #[.agg #[.slice p f.params.length c,.slice q f.results.length d],.slice bp xs.length bc] w (bD (fun D w cs=>av D w cs (DG f xs)) (fun cs:List Value=>.agg cs.toArray) F w):=by
 refine ae (l:=[_,_]) func17 rfl ntmps17 rfl (Ok.start w) ?_
 repeat'(first|refine ar ?_|(refine aE fun b_=>?_)|(refine aa.ed (t:=jF) ?_;refine aa.alloc (t:=jF) [.slice none 0 0,.slice none 0 0,.slice none 0 0,.slice none 0 0,.slice none 0 0,.slice none 0 0,.slice none 0 0,.bool false,.int .i64 0,.slice none 0 0,.slice none 0 0,.slice none 0 0] rfl rfl rfl fun b_=>?_)|fail)
 refine MJ ?_
 intro k1 _
 repeat'(first|refine ar ?_|fail)
 refine MJ ?_
 intro k2 _
 repeat'(first|refine ar ?_|fail)
 refine Mj ?_
 intro w' hw'
 have hx:Ext w w':=hw'.at
 obtain⟨B1,n1⟩:=hw'.tN (b:=k1) (w0:=w) ak bO
 obtain⟨B2,n2⟩:=hw'.tN (b:=k2) (w0:=w) ak bO
 refine⟨⟨_,rfl,_,_,_,_,_,_,_,_,_,_,rfl,⟨_,_,rfl,by show(1:Nat)≤_;omega,.inr ⟨k1,0,rfl,.inr n1,fun i hi=>?_⟩⟩,gN.nil,⟨_,_,rfl,by show(1:Nat)≤_;omega,.inr ⟨k2,0,rfl,.inr n2,fun i hi=>?_⟩⟩,gN.nil,gN.nil,gN.nil,gN.nil,gN.nil,gN.nil,gN.nil,by show eO 0;unfold eO;omega⟩,hx⟩
 ·obtain rfl:i=0:=by have:i<1:=hi;omega
  exact⟨[.slice p f.params.length c,.slice q f.results.length d],⟨_,_,rfl,(hf.1.aP hx (fun _ _ _ h=>h)).mono fun _ _ h=>.inl h,(hf.2.aP hx (fun _ _ _ h=>h)).mono fun _ _ h=>.inl h⟩,zx B1 rfl⟩
 ·obtain rfl:i=0:=by have:i<1:=hi;omega
  exact⟨[.int .i64 0,.slice none 0 0,.slice bp xs.length bc],⟨_,_,rfl,ai.cI _ _,(hb.aP hx (fun _ _ _ h=>h)).mono fun _ _ h=>.inl h,by show eO 0;unfold eO;omega⟩,zx B2 rfl⟩
def Cm (m:af) (cs:List Value):Prop:=∃p0 c0 p1 c1 p2 c2 p3 c3 p4 c4 p5 c5 p6 c6 p7 c7 p8 c8 p9 c9,cs=([Pg p0 m.types.length c0,Pg p1 m.imports.length c1,Pg p2 m.funcs.length c2,Pg p3 m.tables.length c3,Pg p4 m.bR.length c4,Pg p5 m.globals.length c5,Pg p6 m.aL.length c6,Ph m.aI,Pf .i64 m.start,Pg p7 m.elems.length c7,Pg p8 m.bg.length c8,Pg p9 m.bE.length c9]:List Value)
theorem av.sh {F:Nat→Prop} {w:World} {cs:List Value} {m:af} (h:av F w cs m):Cm m cs:=by
 obtain⟨v0,v1,v2,v3,v4,v5,v6,v7,v8,v9,rfl,r0,r1,r2,r3,r4,r5,r6,r7,r8,r9,g0⟩:=h
 obtain⟨p0,c0,rfl,-⟩:=r0.slice
 obtain⟨p1,c1,rfl,-⟩:=r1.slice
 obtain⟨p2,c2,rfl,-⟩:=r2.slice
 obtain⟨p3,c3,rfl,-⟩:=r3.slice
 obtain⟨p4,c4,rfl,-⟩:=r4.slice
 obtain⟨p5,c5,rfl,-⟩:=r5.slice
 obtain⟨p6,c6,rfl,-⟩:=r6.slice
 obtain⟨p7,c7,rfl,-⟩:=r7.slice
 obtain⟨p8,c8,rfl,-⟩:=r8.slice
 obtain⟨p9,c9,rfl,-⟩:=r9.slice
 exact⟨p0,c0,p1,c1,p2,c2,p3,c3,p4,c4,p5,c5,p6,c6,p7,c7,p8,c8,p9,c9,rfl⟩
theorem Bo {f:aO} {xs:List cv} (hf:f.params.length≤1048576∧f.results.length≤1048576) (hx:xs.length≤400) (hl:∀k,k<xs.length→(ix xs k).labels.length≤1048576):ss (DG f xs):=by
 refine⟨fun g hg=>?_,fun j hj=>?_,fun j hj=>?_,fun j hj=>?_⟩
 ·rw[show(DG f xs).types=[f]from rfl,List.mem_singleton]at hg;subst hg;exact hf
 all_goals obtain rfl:j=0:=by(have:j<1:=hj);omega
 ·exact Po _
 ·exact hx
 ·exact hl
def fI:aO:=⟨[1],[1]⟩
def mA:af:=DG fI ([32,11].map sD)
def mB:af:=DG fI ([11].map sD)
def mC:af:=DG fI ([0,11].map sD)
theorem JV:vG mA 0=(0,0):=by kernel_rfl
theorem JY:vG mB 0=(0,13):=by kernel_rfl
theorem JW:rL mA 0=some [(true,[]),(true,[1])]:=by kernel_rfl
theorem J0:rL mC 0=some [(true,[]),(false,[])]:=by kernel_rfl
theorem I6:ss mA:=Bo Pb Pb Pb
theorem JX:ss mB:=Bo Pb Pb Pb
theorem JZ:ss mC:=Bo Pb Pb Pb
theorem Ok.Jl {T:Nat} {lv:Value} {tc:List Value} {D:Nat→Prop} {l:List (Bool×List Int)} (h:Ok (iT T lv tc D l++M) R w) (hl:l.length≤1000000):Ok M ((fun w=>iZ (fun _=>True) w lv l)::R) w:=
 h.pack.freeze (p:=fun w=>iZ (fun _=>True) w lv l) Rm.head (fun _w' (h:Ok _ [] _w')=>zk (h.m (.own 0 T 2 lv l.length tc) (by simp[iT])).1 (h.m (.kr ek ek.fr D (tc,l)) (by simp[iT])).1 hl (fun _ _=>trivial) (fun _ _=>trivial))
theorem rX (w:World) (h0:fJ w):Calls G.P 6 #[] w fun e w'=>e=.returned (.bool true)∧Ext w w':=by
 refine ae (l:=[]) func6 rfl ntmps6 rfl (Ok.start w) ?_
 repeat'(first|refine ar ?_|fail)
 refine MJ ?_
 intro k1 _
 repeat'(first|refine ar ?_|fail)
 refine MJ ?_
 intro k2 _
 repeat'(first|refine ar ?_|(refine aa.ed (t:=sw) ?_;refine aa.alloc (t:=sw) [.slice none 0 0,.slice none 0 0] rfl rfl rfl fun b_=>?_)|fail)
 obtain⟨bf,rfl⟩:∃y:Nat,y=b_:=⟨_,rfl⟩
 refine MJ ?_
 intro k3 _
 refine aa.pU (fun w1 hw1=>?_)
 have x1:Ext w w1:=hw1.at
 have F1:dH fI (fun k=>k<w1.heap.size) w1 (.slice (some ⟨k1,0,none⟩) 1 1,.slice (some ⟨k2,0,none⟩) 1 1):=⟨ai.mono (F:=fun _=>True) (kN [1] hw1 (w0:=w) ak (hD:=fun _ _=>trivial)) (fun _ hk _=>hk),ai.mono (F:=fun _=>True) (kN [1] hw1 (w0:=w) ak (hD:=fun _ _=>trivial)) (fun _ hk _=>hk)⟩
 obtain⟨hbf,-⟩:=hw1.tN (b:=bf) (w0:=w) ak bO
 have c1:=hbf.IH (s:=2) rfl
 obtain⟨hkA,-⟩:=hw1.tN (b:=k3) (w0:=w) ak bO
 have BA:fE (fun k=>k<w1.heap.size) w1 (.slice (some ⟨k3,0,none⟩) 2 2) (([32,11]:List Int).map sD):=tW [32,11] hkA Pb Pb hkA.lt
 refine aa.lj (Cs bf 0 [.slice (some ⟨k1,0,none⟩) 1 1,.slice (some ⟨k2,0,none⟩) 1 1]) (js c1 rfl ak) ?_
 refine aa.he (HE.Ct (V:=fun D w (cs:List Value)=>av D w cs mA) (tf:=fun cs=>.agg cs.toArray) (w0:=w1) (F:=fun k=>k<w1.heap.size) (HI.HZ mA) ak (fun _ h=>h) rfl rfl (fun w' hw'=>ru _ fI (([32,11]:List Int).map sD) _ _ _ _ _ _ w' (dH.fr fI F1 (show Ext w1 w' from hw'.at) (fun _ _ _ h=>h)) (BA.aP (show Ext w1 w' from hw'.at) (fun _ _ _ h=>h)))) rfl ?_
 rintro⟨D1,cs1⟩ _
 refine aa.pure (φ:=Cm mA cs1) (fun w' hw'=>(hw'.get (p:=fun w=>av D1 w cs1 mA) ak).sh) ?_
 rintro⟨a0,d0,a1,d1,a2,d2,a3,d3,a4,d4,a5,d5,a6,d6,a7,d7,a8,d8,a9,d9,rfl⟩
 dsimp only
 repeat'(first|refine ar ?_|(refine aa.ed (t:=jF) ?_;refine aa.alloc (t:=jF) [.slice none 0 0,.slice none 0 0,.slice none 0 0,.slice none 0 0,.slice none 0 0,.slice none 0 0,.slice none 0 0,.bool false,.int .i64 0,.slice none 0 0,.slice none 0 0,.slice none 0 0] rfl rfl rfl fun b_=>?_)|fail)
 obtain⟨ba,rfl⟩:∃y:Nat,y=b_:=⟨_,rfl⟩
 repeat'(first|refine ar ?_|fail)
 refine MJ ?_
 intro k4 _
 refine aa.pU (fun w2 hw2=>?_)
 have x2:Ext w w2:=x1.trans (show Ext w1 w2 from hw2.at)
 have F2:dH fI (fun k=>k<w2.heap.size) w2 (.slice (some ⟨k1,0,none⟩) 1 1,.slice (some ⟨k2,0,none⟩) 1 1):=(dH.fr fI F1 (show Ext w1 w2 from hw2.at) (fun _ _ _ h=>h)).mono (fun k hk=>Pw hk (show Ext w1 w2 from hw2.at).size)
 have c2:∀j,j<2→w2.cell? ⟨bf,0+j,none⟩=([.slice (some ⟨k1,0,none⟩) 1 1,.slice (some ⟨k2,0,none⟩) 1 1]:List Value)[j]?:=fun j hj=>by have:=c1 j hj;rw[Pq hj]at this ⊢;exact(show Ext w1 w2 from hw2.at).cell this
 have mA2:av (fun _=>True) w2 ([Pg a0 mA.types.length d0,Pg a1 mA.imports.length d1,Pg a2 mA.funcs.length d2,Pg a3 mA.tables.length d3,Pg a4 mA.bR.length d4,Pg a5 mA.globals.length d5,Pg a6 mA.aL.length d6,Ph mA.aI,Pf .i64 mA.start,Pg a7 mA.elems.length d7,Pg a8 mA.bg.length d8,Pg a9 mA.bE.length d9]:List Value) mA:=(hw2.get (p:=fun w=>av D1 w ([Pg a0 mA.types.length d0,Pg a1 mA.imports.length d1,Pg a2 mA.funcs.length d2,Pg a3 mA.tables.length d3,Pg a4 mA.bR.length d4,Pg a5 mA.globals.length d5,Pg a6 mA.aL.length d6,Ph mA.aI,Pf .i64 mA.start,Pg a7 mA.elems.length d7,Pg a8 mA.bg.length d8,Pg a9 mA.bE.length d9]:List Value) mA) ak).mono (fun _ _ _=>trivial)
 obtain⟨hbA,-⟩:=hw2.tN (b:=ba) (w0:=w1) ak bO
 have cA2:=hbA.IH (s:=12) rfl
 obtain⟨hkB,-⟩:=hw2.tN (b:=k4) (w0:=w1) ak bO
 have BB:fE (fun k=>k<w2.heap.size) w2 (.slice (some ⟨k4,0,none⟩) 1 1) (([11]:List Int).map sD):=tW [11] hkB Pb Pb hkB.lt
 refine aa.lj (Cs bf 0 [.slice (some ⟨k1,0,none⟩) 1 1,.slice (some ⟨k2,0,none⟩) 1 1]) (js c2 rfl ak) ?_
 refine aa.he (HE.Ct (V:=fun D w (cs:List Value)=>av D w cs mB) (tf:=fun cs=>.agg cs.toArray) (w0:=w2) (F:=fun k=>k<w2.heap.size) (HI.HZ mB) ak (fun _ h=>h) rfl rfl (fun w' hw'=>ru _ fI (([11]:List Int).map sD) _ _ _ _ _ _ w' (dH.fr fI F2 (show Ext w2 w' from hw'.at) (fun _ _ _ h=>h)) (BB.aP (show Ext w2 w' from hw'.at) (fun _ _ _ h=>h)))) rfl ?_
 rintro⟨D2,cs2⟩ _
 refine aa.pure (φ:=Cm mB cs2) (fun w' hw'=>(hw'.get (p:=fun w=>av D2 w cs2 mB) ak).sh) ?_
 rintro⟨e0,u0,e1,u1,e2,u2,e3,u3,e4,u4,e5,u5,e6,u6,e7,u7,e8,u8,e9,u9,rfl⟩
 dsimp only
 repeat'(first|refine ar ?_|(refine aa.ed (t:=jF) ?_;refine aa.alloc (t:=jF) [.slice none 0 0,.slice none 0 0,.slice none 0 0,.slice none 0 0,.slice none 0 0,.slice none 0 0,.slice none 0 0,.bool false,.int .i64 0,.slice none 0 0,.slice none 0 0,.slice none 0 0] rfl rfl rfl fun b_=>?_)|fail)
 obtain⟨bb,rfl⟩:∃y:Nat,y=b_:=⟨_,rfl⟩
 repeat'(first|refine ar ?_|fail)
 refine MJ ?_
 intro k5 _
 refine aa.pU (fun w3 hw3=>?_)
 have x3:Ext w w3:=x2.trans (show Ext w2 w3 from hw3.at)
 have F3:dH fI (fun k=>k<w3.heap.size) w3 (.slice (some ⟨k1,0,none⟩) 1 1,.slice (some ⟨k2,0,none⟩) 1 1):=(dH.fr fI F2 (show Ext w2 w3 from hw3.at) (fun _ _ _ h=>h)).mono (fun k hk=>Pw hk (show Ext w2 w3 from hw3.at).size)
 have c3:∀j,j<2→w3.cell? ⟨bf,0+j,none⟩=([.slice (some ⟨k1,0,none⟩) 1 1,.slice (some ⟨k2,0,none⟩) 1 1]:List Value)[j]?:=fun j hj=>by have:=c2 j hj;rw[Pq hj]at this ⊢;exact(show Ext w2 w3 from hw3.at).cell this
 have mA3:av (fun _=>True) w3 ([Pg a0 mA.types.length d0,Pg a1 mA.imports.length d1,Pg a2 mA.funcs.length d2,Pg a3 mA.tables.length d3,Pg a4 mA.bR.length d4,Pg a5 mA.globals.length d5,Pg a6 mA.aL.length d6,Ph mA.aI,Pf .i64 mA.start,Pg a7 mA.elems.length d7,Pg a8 mA.bg.length d8,Pg a9 mA.bE.length d9]:List Value) mA:=mA2.aP (show Ext w2 w3 from hw3.at) (fun _ _ _ h=>h)
 have cA3:∀j,j<12→w3.cell? ⟨ba,0+j,none⟩=([Pg a0 mA.types.length d0,Pg a1 mA.imports.length d1,Pg a2 mA.funcs.length d2,Pg a3 mA.tables.length d3,Pg a4 mA.bR.length d4,Pg a5 mA.globals.length d5,Pg a6 mA.aL.length d6,Ph mA.aI,Pf .i64 mA.start,Pg a7 mA.elems.length d7,Pg a8 mA.bg.length d8,Pg a9 mA.bE.length d9]:List Value)[j]?:=fun j hj=>by have:=cA2 j hj;rw[Pq hj]at this ⊢;exact(show Ext w2 w3 from hw3.at).cell this
 have mB3:av (fun _=>True) w3 ([Pg e0 mB.types.length u0,Pg e1 mB.imports.length u1,Pg e2 mB.funcs.length u2,Pg e3 mB.tables.length u3,Pg e4 mB.bR.length u4,Pg e5 mB.globals.length u5,Pg e6 mB.aL.length u6,Ph mB.aI,Pf .i64 mB.start,Pg e7 mB.elems.length u7,Pg e8 mB.bg.length u8,Pg e9 mB.bE.length u9]:List Value) mB:=(hw3.get (p:=fun w=>av D2 w ([Pg e0 mB.types.length u0,Pg e1 mB.imports.length u1,Pg e2 mB.funcs.length u2,Pg e3 mB.tables.length u3,Pg e4 mB.bR.length u4,Pg e5 mB.globals.length u5,Pg e6 mB.aL.length u6,Ph mB.aI,Pf .i64 mB.start,Pg e7 mB.elems.length u7,Pg e8 mB.bg.length u8,Pg e9 mB.bE.length u9]:List Value) mB) ak).mono (fun _ _ _=>trivial)
 obtain⟨hbB,-⟩:=hw3.tN (b:=bb) (w0:=w2) ak bO
 have cB3:=hbB.IH (s:=12) rfl
 obtain⟨hkC,-⟩:=hw3.tN (b:=k5) (w0:=w2) ak bO
 have BC:fE (fun k=>k<w3.heap.size) w3 (.slice (some ⟨k5,0,none⟩) 2 2) (([0,11]:List Int).map sD):=tW [0,11] hkC Pb Pb hkC.lt
 refine aa.lj (Cs bf 0 [.slice (some ⟨k1,0,none⟩) 1 1,.slice (some ⟨k2,0,none⟩) 1 1]) (js c3 rfl ak) ?_
 refine aa.he (HE.Ct (V:=fun D w (cs:List Value)=>av D w cs mC) (tf:=fun cs=>.agg cs.toArray) (w0:=w3) (F:=fun k=>k<w3.heap.size) (HI.HZ mC) ak (fun _ h=>h) rfl rfl (fun w' hw'=>ru _ fI (([0,11]:List Int).map sD) _ _ _ _ _ _ w' (dH.fr fI F3 (show Ext w3 w' from hw'.at) (fun _ _ _ h=>h)) (BC.aP (show Ext w3 w' from hw'.at) (fun _ _ _ h=>h)))) rfl ?_
 rintro⟨D3,cs3⟩ _
 refine aa.pure (φ:=Cm mC cs3) (fun w' hw'=>(hw'.get (p:=fun w=>av D3 w cs3 mC) ak).sh) ?_
 rintro⟨i0,j0,i1,j1,i2,j2,i3,j3,i4,j4,i5,j5,i6,j6,i7,j7,i8,j8,i9,j9,rfl⟩
 dsimp only
 repeat'(first|refine ar ?_|(refine aa.ed (t:=jF) ?_;refine aa.alloc (t:=jF) [.slice none 0 0,.slice none 0 0,.slice none 0 0,.slice none 0 0,.slice none 0 0,.slice none 0 0,.slice none 0 0,.bool false,.int .i64 0,.slice none 0 0,.slice none 0 0,.slice none 0 0] rfl rfl rfl fun b_=>?_)|fail)
 obtain⟨bc,rfl⟩:∃y:Nat,y=b_:=⟨_,rfl⟩
 refine bh.pU (fun w4 h4=>?_)
 have x4:Ext w w4:=x3.trans (show Ext w3 w4 from h4.at)
 have mA4:av (fun _=>True) w4 ([Pg a0 mA.types.length d0,Pg a1 mA.imports.length d1,Pg a2 mA.funcs.length d2,Pg a3 mA.tables.length d3,Pg a4 mA.bR.length d4,Pg a5 mA.globals.length d5,Pg a6 mA.aL.length d6,Ph mA.aI,Pf .i64 mA.start,Pg a7 mA.elems.length d7,Pg a8 mA.bg.length d8,Pg a9 mA.bE.length d9]:List Value) mA:=mA3.aP (show Ext w3 w4 from h4.at) (fun _ _ _ h=>h)
 have cA4:∀j,j<12→w4.cell? ⟨ba,0+j,none⟩=([Pg a0 mA.types.length d0,Pg a1 mA.imports.length d1,Pg a2 mA.funcs.length d2,Pg a3 mA.tables.length d3,Pg a4 mA.bR.length d4,Pg a5 mA.globals.length d5,Pg a6 mA.aL.length d6,Ph mA.aI,Pf .i64 mA.start,Pg a7 mA.elems.length d7,Pg a8 mA.bg.length d8,Pg a9 mA.bE.length d9]:List Value)[j]?:=fun j hj=>by have:=cA3 j hj;rw[Pq hj]at this ⊢;exact(show Ext w3 w4 from h4.at).cell this
 have mB4:av (fun _=>True) w4 ([Pg e0 mB.types.length u0,Pg e1 mB.imports.length u1,Pg e2 mB.funcs.length u2,Pg e3 mB.tables.length u3,Pg e4 mB.bR.length u4,Pg e5 mB.globals.length u5,Pg e6 mB.aL.length u6,Ph mB.aI,Pf .i64 mB.start,Pg e7 mB.elems.length u7,Pg e8 mB.bg.length u8,Pg e9 mB.bE.length u9]:List Value) mB:=mB3.aP (show Ext w3 w4 from h4.at) (fun _ _ _ h=>h)
 have cB4:∀j,j<12→w4.cell? ⟨bb,0+j,none⟩=([Pg e0 mB.types.length u0,Pg e1 mB.imports.length u1,Pg e2 mB.funcs.length u2,Pg e3 mB.tables.length u3,Pg e4 mB.bR.length u4,Pg e5 mB.globals.length u5,Pg e6 mB.aL.length u6,Ph mB.aI,Pf .i64 mB.start,Pg e7 mB.elems.length u7,Pg e8 mB.bg.length u8,Pg e9 mB.bE.length u9]:List Value)[j]?:=fun j hj=>by have:=cB3 j hj;rw[Pq hj]at this ⊢;exact(show Ext w3 w4 from h4.at).cell this
 have mC4:av (fun _=>True) w4 ([Pg i0 mC.types.length j0,Pg i1 mC.imports.length j1,Pg i2 mC.funcs.length j2,Pg i3 mC.tables.length j3,Pg i4 mC.bR.length j4,Pg i5 mC.globals.length j5,Pg i6 mC.aL.length j6,Ph mC.aI,Pf .i64 mC.start,Pg i7 mC.elems.length j7,Pg i8 mC.bg.length j8,Pg i9 mC.bE.length j9]:List Value) mC:=(h4.get (p:=fun w=>av D3 w ([Pg i0 mC.types.length j0,Pg i1 mC.imports.length j1,Pg i2 mC.funcs.length j2,Pg i3 mC.tables.length j3,Pg i4 mC.bR.length j4,Pg i5 mC.globals.length j5,Pg i6 mC.aL.length j6,Ph mC.aI,Pf .i64 mC.start,Pg i7 mC.elems.length j7,Pg i8 mC.bg.length j8,Pg i9 mC.bE.length j9]:List Value) mC) ak).mono (fun _ _ _=>trivial)
 obtain⟨hbC,-⟩:=h4.tN (b:=bc) (w0:=w3) ak bO
 have cC4:=hbC.IH (s:=12) rfl
 have h04:=h0.ext x4
 refine bh.cF [] [Ext w4] (PH _) aU ?_
 refine aN.qy 0 rfl (Yl.ji rfl rfl rfl ak Pe Pe cA4) ?_
 refine aN.qy 1 rfl (Yl.ji rfl rfl rfl ak Pe Pe cA4) ?_
 repeat'(first|refine aN.any O3 ?_|exact aB.fin rfl|refine aB.skip O3 ?_|refine aB.go ?_ ?_)
 refine ax.dz 8 ?_
 refine ax.he rfl rfl (HE.tw (m:=mA) rfl rfl (fun w' hw'=>oE (fun _=>True) mA ([Pg a0 mA.types.length d0,Pg a1 mA.imports.length d1,Pg a2 mA.funcs.length d2,Pg a3 mA.tables.length d3,Pg a4 mA.bR.length d4,Pg a5 mA.globals.length d5,Pg a6 mA.aL.length d6,Ph mA.aI,Pf .i64 mA.start,Pg a7 mA.elems.length d7,Pg a8 mA.bg.length d8,Pg a9 mA.bE.length d9]:List Value) w' (mA4.aP (show Ext w4 w' from hw'.at) (fun _ _ _ h=>h)) (by unfold tg;decide))) (fun _=>PH _) (fun _=>aU) ?_
 rintro⟨B1,s1⟩ _
 repeat'(first|refine aN.any O3 ?_|exact aB.fin rfl|refine aB.skip O3 ?_|refine aB.go ?_ ?_)
 refine ax.dz 7 ?_
 refine ax.he rfl rfl (HE.eK (v:=.tuple #[.int .i64 0,.int .i64 0]) rfl rfl (fun w' hw'=>by have:=pP mA ([Pg a0 mA.types.length d0,Pg a1 mA.imports.length d1,Pg a2 mA.funcs.length d2,Pg a3 mA.tables.length d3,Pg a4 mA.bR.length d4,Pg a5 mA.globals.length d5,Pg a6 mA.aL.length d6,Ph mA.aI,Pf .i64 mA.start,Pg a7 mA.elems.length d7,Pg a8 mA.bg.length d8,Pg a9 mA.bE.length d9]:List Value) B1 s1 0 w' (mA4.aP (show Ext w4 w' from hw'.at) (fun _ _ _ h=>h)) (hw'.get (p:=fun w=>bN B1 mA w s1) ak) (h04.ext hw'.at) I6;rw[JV]at this;exact this)) (fun _=>PH _) (fun _=>aU) ?_
 rintro⟨⟩ _
 refine aN.qa 4 rfl ?_
 refine aN.qa 5 rfl ?_
 refine aN.qa 6 rfl ?_
 refine aN.qa 7 rfl ?_
 refine aN.qa 8 rfl ?_
 refine NA ?_
 repeat'(first|refine ar ?_|fail)
 refine bh.cF [] [Ext w4] (PH _) aU ?_
 refine aN.qy 0 rfl (Yl.ji rfl rfl rfl ak Pe Pe cB4) ?_
 refine aN.qy 1 rfl (Yl.ji rfl rfl rfl ak Pe Pe cB4) ?_
 repeat'(first|refine aN.any O3 ?_|exact aB.fin rfl|refine aB.skip O3 ?_|refine aB.go ?_ ?_)
 refine ax.dz 8 ?_
 refine ax.he rfl rfl (HE.tw (m:=mB) rfl rfl (fun w' hw'=>oE (fun _=>True) mB ([Pg e0 mB.types.length u0,Pg e1 mB.imports.length u1,Pg e2 mB.funcs.length u2,Pg e3 mB.tables.length u3,Pg e4 mB.bR.length u4,Pg e5 mB.globals.length u5,Pg e6 mB.aL.length u6,Ph mB.aI,Pf .i64 mB.start,Pg e7 mB.elems.length u7,Pg e8 mB.bg.length u8,Pg e9 mB.bE.length u9]:List Value) w' (mB4.aP (show Ext w4 w' from hw'.at) (fun _ _ _ h=>h)) (by unfold tg;decide))) (fun _=>PH _) (fun _=>aU) ?_
 rintro⟨B2,s2⟩ _
 repeat'(first|refine aN.any O3 ?_|exact aB.fin rfl|refine aB.skip O3 ?_|refine aB.go ?_ ?_)
 refine ax.dz 7 ?_
 refine ax.he rfl rfl (HE.eK (v:=.tuple #[.int .i64 0,.int .i64 13]) rfl rfl (fun w' hw'=>by have:=pP mB ([Pg e0 mB.types.length u0,Pg e1 mB.imports.length u1,Pg e2 mB.funcs.length u2,Pg e3 mB.tables.length u3,Pg e4 mB.bR.length u4,Pg e5 mB.globals.length u5,Pg e6 mB.aL.length u6,Ph mB.aI,Pf .i64 mB.start,Pg e7 mB.elems.length u7,Pg e8 mB.bg.length u8,Pg e9 mB.bE.length u9]:List Value) B2 s2 0 w' (mB4.aP (show Ext w4 w' from hw'.at) (fun _ _ _ h=>h)) (hw'.get (p:=fun w=>bN B2 mB w s2) ak) (h04.ext hw'.at) JX;rw[JY]at this;exact this)) (fun _=>PH _) (fun _=>aU) ?_
 rintro⟨⟩ _
 refine aN.qa 4 rfl ?_
 refine aN.qa 5 rfl ?_
 refine aN.qa 6 rfl ?_
 refine aN.qa 7 rfl ?_
 refine aN.qa 8 rfl ?_
 refine NA ?_
 repeat'(first|refine ar ?_|fail)
 refine bh.cF [] [Ext w4] (PH _) aU ?_
 refine aN.qy 0 rfl (Yl.ji rfl rfl rfl ak Pe Pe cA4) ?_
 refine aN.qy 1 rfl (Yl.ji rfl rfl rfl ak Pe Pe cA4) ?_
 repeat'(first|refine aN.any O3 ?_|exact aB.fin rfl|refine aB.skip O3 ?_|refine aB.go ?_ ?_)
 refine ax.dz 8 ?_
 refine ax.he rfl rfl (HE.tw (m:=mA) rfl rfl (fun w' hw'=>oE (fun _=>True) mA ([Pg a0 mA.types.length d0,Pg a1 mA.imports.length d1,Pg a2 mA.funcs.length d2,Pg a3 mA.tables.length d3,Pg a4 mA.bR.length d4,Pg a5 mA.globals.length d5,Pg a6 mA.aL.length d6,Ph mA.aI,Pf .i64 mA.start,Pg a7 mA.elems.length d7,Pg a8 mA.bg.length d8,Pg a9 mA.bE.length d9]:List Value) w' (mA4.aP (show Ext w4 w' from hw'.at) (fun _ _ _ h=>h)) (by unfold tg;decide))) (fun _=>PH _) (fun _=>aU) ?_
 rintro⟨B3,s3⟩ _
 repeat'(first|refine aN.any O3 ?_|exact aB.fin rfl|refine aB.skip O3 ?_|refine aB.go ?_ ?_)
 refine ax.dz 10 ?_
 refine ax.he rfl rfl (HE.bJ (M0:=[]) oJ.nil rfl rfl (fun w' hw'=>by have:=tr mA ([Pg a0 mA.types.length d0,Pg a1 mA.imports.length d1,Pg a2 mA.funcs.length d2,Pg a3 mA.tables.length d3,Pg a4 mA.bR.length d4,Pg a5 mA.globals.length d5,Pg a6 mA.aL.length d6,Ph mA.aI,Pf .i64 mA.start,Pg a7 mA.elems.length d7,Pg a8 mA.bg.length d8,Pg a9 mA.bE.length d9]:List Value) B3 s3 0 w' (mA4.aP (show Ext w4 w' from hw'.at) (fun _ _ _ h=>h)) (hw'.get (p:=fun w=>bN B3 mA w s3) ak) (h04.ext hw'.at) I6;rw[JW]at this;exact this)) (fun _=>PH _) (fun _=>aU) ?_
 rintro⟨la,ta,Da⟩ _
 dsimp only[iT,Option.getD,Option.isSome,Pj,Pi]
 refine aN.qa 4 rfl ?_
 refine aN.qa 5 rfl ?_
 refine aN.qa 6 rfl ?_
 refine aN.qa 7 rfl ?_
 refine aN.qa 8 rfl ?_
 refine NA ?_
 repeat'(first|refine ar ?_|fail)
 refine bh.cF [] [Ext w4] (PH _) aU ?_
 refine aN.qy 0 rfl (Yl.ji rfl rfl rfl ak Pe Pe cC4) ?_
 refine aN.qy 1 rfl (Yl.ji rfl rfl rfl ak Pe Pe cC4) ?_
 repeat'(first|refine aN.any O3 ?_|exact aB.fin rfl|refine aB.skip O3 ?_|refine aB.go ?_ ?_)
 refine ax.dz 8 ?_
 refine ax.he rfl rfl (HE.tw (m:=mC) rfl rfl (fun w' hw'=>oE (fun _=>True) mC ([Pg i0 mC.types.length j0,Pg i1 mC.imports.length j1,Pg i2 mC.funcs.length j2,Pg i3 mC.tables.length j3,Pg i4 mC.bR.length j4,Pg i5 mC.globals.length j5,Pg i6 mC.aL.length j6,Ph mC.aI,Pf .i64 mC.start,Pg i7 mC.elems.length j7,Pg i8 mC.bg.length j8,Pg i9 mC.bE.length j9]:List Value) w' (mC4.aP (show Ext w4 w' from hw'.at) (fun _ _ _ h=>h)) (by unfold tg;decide))) (fun _=>PH _) (fun _=>aU) ?_
 rintro⟨B4,s4⟩ _
 repeat'(first|refine aN.any O3 ?_|exact aB.fin rfl|refine aB.skip O3 ?_|refine aB.go ?_ ?_)
 refine ax.dz 10 ?_
 refine ax.he rfl rfl (HE.bJ (M0:=[]) oJ.nil rfl rfl (fun w' hw'=>by have:=tr mC ([Pg i0 mC.types.length j0,Pg i1 mC.imports.length j1,Pg i2 mC.funcs.length j2,Pg i3 mC.tables.length j3,Pg i4 mC.bR.length j4,Pg i5 mC.globals.length j5,Pg i6 mC.aL.length j6,Ph mC.aI,Pf .i64 mC.start,Pg i7 mC.elems.length j7,Pg i8 mC.bg.length j8,Pg i9 mC.bE.length j9]:List Value) B4 s4 0 w' (mC4.aP (show Ext w4 w' from hw'.at) (fun _ _ _ h=>h)) (hw'.get (p:=fun w=>bN B4 mC w s4) ak) (h04.ext hw'.at) JZ;rw[J0]at this;exact this)) (fun _=>PH _) (fun _=>aU) ?_
 rintro⟨lc,tc,Dc⟩ _
 dsimp only[iT,Option.getD,Option.isSome,Pj,Pi]
 refine aN.qa 4 rfl ?_
 refine aN.qa 5 rfl ?_
 refine aN.qa 6 rfl ?_
 refine aN.qa 7 rfl ?_
 refine aN.qa 8 rfl ?_
 refine NA ?_
 repeat'(first|refine ar ?_|fail)
 refine aa.map (fun w' h=>Ok.Jl (T:=rN) (lv:=lc) (tc:=tc) (D:=Dc) (l:=[(true,[]),(false,[])]) h Pb) ?_
 refine aa.map (fun w' h=>Ok.Jl (T:=rN) (lv:=la) (tc:=ta) (D:=Da) (l:=[(true,[]),(true,[1])]) (M:=[]) h Pb) ?_
 refine aa.pU (fun w5 h5=>?_)
 have x5:Ext w w5:=x4.trans (show Ext w4 w5 from h5.at)
 have hA5:iZ (fun k=>k<w5.heap.size) w5 la [(true,[]),(true,[1])]:=gN.mono nT.mo nT.ce (h5.get (p:=fun w=>iZ (fun _=>True) w la [(true,[]),(true,[1])]) ak) (fun _ h _=>h)
 have hC5:iZ (fun _=>True) w5 lc [(true,[]),(false,[])]:=h5.get (p:=fun w=>iZ (fun _=>True) w lc [(true,[]),(false,[])]) ak
 obtain⟨pc,cc,rfl⟩:∃p c,lc=.slice p 2 c:=by obtain⟨p,c,e,-⟩:=hC5.slice;exact⟨p,c,e⟩
 obtain⟨bq,oq,rfl,-,hq⟩:=hC5.at (i:=1) Pb
 obtain⟨_,_,hq1,-,-⟩:=hq 1 Pb
 refine aa.JT Pe (HE.Ct (V:=fun D w (u:Value)=>iZ D w u [(true,[]),(true,[1])]) (tf:=fun u=>u) (w0:=w5) (F:=fun k=>k<w5.heap.size) (fun h hc hd=>iZ.aP h hc hd) ak (fun _ h=>h) rfl rfl (fun w' hw'=>Bj _ _ la w' (hA5.ext hw'.at))) rfl ?_
 rintro⟨D6,v6⟩ _
 dsimp only
 repeat'(first|refine ar ?_|fail)
 refine aa.JT Pe (HE.jJ rfl rfl rfl rfl rfl ep Pe Pe) rfl ?_
 intro k6 _
 repeat'(first|refine ar ?_|fail)
 refine aa.JT Pe (HE.jJ rfl rfl rfl rfl rfl ep Pe Pe) rfl ?_
 intro k7 _
 repeat'(first|refine ar ?_|fail)
 refine aa.cH (v:=.bool true) rfl rfl rfl rfl (fun w' hw'=>by
  obtain⟨e6,-⟩:=hw'.tN (b:=k6) (w0:=w5) ak bO
  obtain⟨e7,-⟩:=hw'.tN (b:=k7) (w0:=w5) ak bO
  have hs:iZ (fun _=>True) w' (.slice (some ⟨k7,0,none⟩) 2 2) [(true,[]),(true,[1])]:=⟨_,_,rfl,by show(2:Nat)≤_;omega,.inr ⟨k7,0,rfl,trivial,fun i hi=>by
   have hi2:i<2:=hi
   rcases(show i=0∨i=1 by omega)with rfl|rfl
   ·exact⟨none,0,e7.cell (j:=0) rfl,e7.cell (j:=1) rfl,ai.cI _ _⟩
   ·exact⟨some ⟨k6,0,none⟩,1,e7.cell (j:=2) rfl,e7.cell (j:=3) rfl,(dJ e6).mono fun _ _ _=>trivial⟩⟩⟩
  have:=BO D6 (fun _=>True) _ _ v6 _ w' (hw'.get (p:=fun w=>iZ D6 w v6 [(true,[]),(true,[1])]) ak) hs
  rw[decide_eq_true rfl]at this;exact this) ?_
 refine aa.lj (cl bq (oq+1*2) (.bool false)) (fun w2 h=>(show Ext w5 w2 from h _ ak).cell hq1) ?_
 repeat'(first|refine ar ?_|fail)
 refine aa.yg Pe (Yl.idx (i:=1) rfl rfl rfl rfl rfl Pb Pb) rfl ?_
 repeat'(first|refine ar ?_|fail)
 all_goals exact ah.aF rfl rfl fun w' hw'=>⟨rfl,x5.trans hw'.at⟩
theorem Au (w:World) (hm:av F w cs m) (hF:∀k,F k→k<w.heap.size) (h0:fJ w) (hB:ss m):Calls G.P 9 #[.agg cs.toArray,.int .i64 i] w fun e w'=>e=.returned (.tuple #[.int .i64 (vG m i).1,.int .i64 (vG m i).2])∧Ext w w':=by
 have hm0:=hm
 obtain⟨v0,v1,v2,v3,v4,v5,v6,v7,v8,v9,rfl,r0,r1,r2,r3,r4,r5,r6,r7,r8,r9,g0⟩:=hm;obtain⟨p0,c0,rfl,l0⟩:=r0.slice;obtain⟨p1,c1,rfl,l1⟩:=r1.slice;obtain⟨p2,c2,rfl,l2⟩:=r2.slice;obtain⟨p3,c3,rfl,l3⟩:=r3.slice;obtain⟨p4,c4,rfl,l4⟩:=r4.slice;obtain⟨p5,c5,rfl,l5⟩:=r5.slice;obtain⟨p6,c6,rfl,l6⟩:=r6.slice;obtain⟨p7,c7,rfl,l7⟩:=r7.slice;obtain⟨p8,c8,rfl,l8⟩:=r8.slice;obtain⟨p9,c9,rfl,l9⟩:=r9.slice
 refine ae (l:=[_,_]) func9 rfl ntmps9 rfl (Ok.start w) ?_
 repeat'(first|refine ar ?_|(refine aE fun b_=>?_)|fail)
 refine aa.he (HE.bJ (M0:=[]) oJ.nil rfl rfl (fun w' hw'=>BP F m ([Pg p0 m.types.length c0,Pg p1 m.imports.length c1,Pg p2 m.funcs.length c2,Pg p3 m.tables.length c3,Pg p4 m.bR.length c4,Pg p5 m.globals.length c5,Pg p6 m.aL.length c6,Ph m.aI,Pf .i64 m.start,Pg p7 m.elems.length c7,Pg p8 m.bg.length c8,Pg p9 m.bE.length c9]:List Value) i w' (hm0.aP (show Ext w w' from hw'.at) (fun _ _ _ h=>h)) (fun k hk=>Pw (hF k hk) (show Ext w w' from hw'.at).size) (h0.ext hw'.at) hB)) rfl ?_
 rintro⟨lv,tc,D⟩ _
 dsimp only[iT,Pj,Pi]
 repeat'(first|refine ar ?_|fail)
 exact ah.iq rfl rfl rfl fun w' hw'=>⟨rfl,hw'.at⟩
structure CX (m:af):Prop where
 types:m.types.length≤100
 imports:m.imports.length≤100
 funcs:m.funcs.length≤20
 globals:m.globals.length≤100
 elems:m.elems.length≤100
 loc:∀j,j<m.funcs.length→(ix m.funcs j).locals.length≤400
 len:∀j,j<m.funcs.length→(ix m.funcs j).body.length≤400
theorem Dx (w:World) (hm:av (fun _=>True) w cs m):Calls G.P 5 #[.agg cs.toArray] w (wQ (CX m) w):=by
 obtain⟨v0,v1,v2,v3,v4,v5,v6,v7,v8,v9,rfl,r0,r1,r2,r3,r4,r5,r6,r7,r8,r9,g0⟩:=hm;obtain⟨p0,c0,rfl,l0⟩:=r0.slice;obtain⟨p1,c1,rfl,l1⟩:=r1.slice;obtain⟨p2,c2,rfl,l2⟩:=r2.slice;obtain⟨p3,c3,rfl,l3⟩:=r3.slice;obtain⟨p4,c4,rfl,l4⟩:=r4.slice;obtain⟨p5,c5,rfl,l5⟩:=r5.slice;obtain⟨p6,c6,rfl,l6⟩:=r6.slice;obtain⟨p7,c7,rfl,l7⟩:=r7.slice;obtain⟨p8,c8,rfl,l8⟩:=r8.slice;obtain⟨p9,c9,rfl,l9⟩:=r9.slice
 refine ae (l:=[_]) func5 rfl ntmps5 rfl (Ok.start w) ?_
 repeat'(first|refine ar ?_|(refine bC ?_ ?_<;>intro hc_))
 refine aa.box ([Pg p0 m.types.length c0,Pg p1 m.imports.length c1,Pg p2 m.funcs.length c2,Pg p3 m.tables.length c3,Pg p4 m.bR.length c4,Pg p5 m.globals.length c5,Pg p6 m.aL.length c6,Ph m.aI,Pf .i64 m.start,Pg p7 m.elems.length c7,Pg p8 m.bg.length c8,Pg p9 m.bE.length c9]:List Value) rfl rfl rfl fun bm=>?_
 repeat'(first|refine ar ?_|(refine bC ?_ ?_<;>intro hc_))
 refine bh.loop (σ:=Nat×Int) (fun s=>[(1,.pointer (some ⟨bm,0,none⟩)),(3,.int .i64 s.2),(4,.int .i64 s.1)]) (fun _=>[.aV bm ([Pg p0 m.types.length c0,Pg p1 m.imports.length c1,Pg p2 m.funcs.length c2,Pg p3 m.tables.length c3,Pg p4 m.bR.length c4,Pg p5 m.globals.length c5,Pg p6 m.aL.length c6,Ph m.aI,Pf .i64 m.start,Pg p7 m.elems.length c7,Pg p8 m.bg.length c8,Pg p9 m.bE.length c9]:List Value) jF]) (fun _=>[Ext w]) (fun s=>s.1≤m.funcs.length∧s.1≤100∧0≤s.2∧s.2≤(s.1:Int)*20000000000000∧∀j,j<s.1→((ix m.funcs j).locals.length:Int)+(ix m.funcs j).body.length≤s.2) (fun s=>m.funcs.length - s.1) (0,0) bH bw aU ⟨Nat.zero_le _,Po _,by decide,by decide,fun j hj=>absurd hj (Nat.not_lt_zero _)⟩ ?_
 rintro⟨i,q⟩ ⟨hi,hi2,hq0,hq,hall⟩
 dsimp only at hi hi2 hq0 hq hall ⊢
 by_cases hlt:i<m.funcs.length∧i<100
 ·obtain⟨hj,hj2⟩:=hlt
  have hnx:∀j,j<i+1→((ix m.funcs j).locals.length:Int)+(ix m.funcs j).body.length≤q+(ix m.funcs i).body.length+(ix m.funcs i).locals.length:=fun j h=>by
   rcases Nat.lt_or_ge j i with h1|h1
   ·have:=hall j h1;omega
   ·obtain rfl:j=i:=by omega
    omega
  obtain⟨b,o,rfl,hF9,cs5,⟨u0,u1,rfl,q0,q1,q2⟩,hc⟩:=r2.el hj;obtain⟨x0,y0,rfl,z0⟩:=q0.slice;obtain⟨x1,y1,rfl,z1⟩:=q1.slice
  refine bh.lj (Cs b (o+i*3) _) (js hc rfl ak) ?_
  repeat'(first|refine ar ?_|(refine bC ?_ ?_<;>intro hc_))
  all_goals first|(exfalso;omega)|skip
  all_goals exact ah.next (i+1,q+(ix m.funcs i).body.length+(ix m.funcs i).locals.length) bH bw aU ⟨by dsimp only;omega,by dsimp only;omega,by dsimp only;omega,by dsimp only;omega,hnx⟩ O0
 ·repeat'(first|refine ar ?_|(refine bC ?_ ?_<;>intro hc_))
  all_goals first|(exfalso;omega)|refine ah.aF rfl rfl fun w' hw'=>⟨⟨_,rfl,fun h_=>?_⟩,hw'.at⟩
  all_goals first|(cases h_;done)|(have hh_:=of_decide_eq_true h_;exact⟨by omega,by omega,by omega,by omega,by omega,fun j hj=>by have:=hall j Pc;omega,fun j hj=>by have:=hall j Pc;omega⟩)
structure Ck (m:af):Prop where
 ty:Gd 1048576 m
 tables:m.tables.length≤1048576
 bR:m.bR.length≤1048576
 aL:m.aL.length≤1048576
 kT:∀j,j<m.funcs.length→∀k,k<(ix m.funcs j).body.length→(ix (ix m.funcs j).body k).labels.length≤1048576
theorem CX.lens {m:af} (h:CX m) (hK:Ck m) (_hd:m.bg.length≤17592186044416):tg m:=by
 have:=h.types;have:=h.imports;have:=h.funcs;have:=h.globals;have:=h.elems;have:=hK.tables;have:=hK.bR;have:=hK.aL
 unfold tg
 refine⟨by omega,by omega,by omega,by omega,by omega,by omega,by omega,by omega,by omega⟩
theorem CX.body {m:af} (h:CX m) (hK:Ck m):ss m:=⟨hK.ty,h.loc,h.len,hK.kT⟩
theorem rr (w:World) (hm:av (fun _=>True) w cs m) (hK:Ck m) (h0:fJ w):Calls G.P 3 #[.agg cs.toArray,.int .i64 i] w fun e w'=>e=.returned (.bool true)∧Ext w w':=by
 have hm0:=hm
 have hmL:av (fun k=>k<w.heap.size) w cs m:=hm.mono fun _ hk _=>hk
 obtain⟨v0,v1,v2,v3,v4,v5,v6,v7,v8,v9,rfl,r0,r1,r2,r3,r4,r5,r6,r7,r8,r9,g0⟩:=hm;obtain⟨p0,c0,rfl,l0⟩:=r0.slice;obtain⟨p1,c1,rfl,l1⟩:=r1.slice;obtain⟨p2,c2,rfl,l2⟩:=r2.slice;obtain⟨p3,c3,rfl,l3⟩:=r3.slice;obtain⟨p4,c4,rfl,l4⟩:=r4.slice;obtain⟨p5,c5,rfl,l5⟩:=r5.slice;obtain⟨p6,c6,rfl,l6⟩:=r6.slice;obtain⟨p7,c7,rfl,l7⟩:=r7.slice;obtain⟨p8,c8,rfl,l8⟩:=r8.slice;obtain⟨p9,c9,rfl,l9⟩:=r9.slice
 refine ae (l:=[_,_]) func3 rfl ntmps3 rfl (Ok.start w) ?_
 repeat'(first|refine ar ?_|(refine aE fun b_=>?_)|fail)
 obtain⟨bm,rfl⟩:∃y:Nat,y=b_:=⟨_,rfl⟩
 refine aa.he (HE.IM (P:=CX m) rfl rfl (fun w' hw'=>Dx m ([Pg p0 m.types.length c0,Pg p1 m.imports.length c1,Pg p2 m.funcs.length c2,Pg p3 m.tables.length c3,Pg p4 m.bR.length c4,Pg p5 m.globals.length c5,Pg p6 m.aL.length c6,Ph m.aI,Pf .i64 m.start,Pg p7 m.elems.length c7,Pg p8 m.bg.length c8,Pg p9 m.bE.length c9]:List Value) w' (hm0.aP (show Ext w w' from hw'.at) (fun _ _ _ h=>h)))) rfl ?_
 intro fb hfb
 cases fb with
 |false=>
  repeat'(first|refine ar ?_|(refine aa.aj (f:=6) ?_;refine aa.au rfl rfl rfl (fun w' hw'=>rX w' (h0.ext hw'.at)) ?_)|fail)
  all_goals exact ci
 |true=>
  have hLQ:=(hfb rfl).lens hK Pc
  have hB:=(hfb rfl).body hK
  repeat'(first|refine ar ?_|fail)
  refine bh.cF [.aV bm ([Pg p0 m.types.length c0,Pg p1 m.imports.length c1,Pg p2 m.funcs.length c2,Pg p3 m.tables.length c3,Pg p4 m.bR.length c4,Pg p5 m.globals.length c5,Pg p6 m.aL.length c6,Ph m.aI,Pf .i64 m.start,Pg p7 m.elems.length c7,Pg p8 m.bg.length c8,Pg p9 m.bE.length c9]:List Value) jF] [Ext w] bw aU ?_
  refine aN.qa 0 rfl ?_
  refine aN.qa 1 rfl ?_
  refine aN.qa 3 rfl ?_
  repeat'(first|refine aN.any O3 ?_|exact aB.fin rfl|refine aB.skip O3 ?_|refine aB.go ?_ ?_)
  refine ax.dz 8 ?_
  refine ax.he rfl rfl (HE.tw (m:=m) rfl rfl (fun w' hw'=>oE (fun _=>True) m ([Pg p0 m.types.length c0,Pg p1 m.imports.length c1,Pg p2 m.funcs.length c2,Pg p3 m.tables.length c3,Pg p4 m.bR.length c4,Pg p5 m.globals.length c5,Pg p6 m.aL.length c6,Ph m.aI,Pf .i64 m.start,Pg p7 m.elems.length c7,Pg p8 m.bg.length c8,Pg p9 m.bE.length c9]:List Value) w' (hm0.aP (show Ext w w' from hw'.at) (fun _ _ _ h=>h)) hLQ)) (fun _=>bw) (fun _=>aU) ?_
  rintro⟨B,sv⟩ _
  repeat'(first|refine aN.any O3 ?_|exact aB.fin rfl|refine aB.skip O3 ?_|refine aB.go ?_ ?_)
  refine ax.dz 7 ?_
  refine ax.he rfl rfl (HE.eK rfl rfl (fun w' hw'=>pP m ([Pg p0 m.types.length c0,Pg p1 m.imports.length c1,Pg p2 m.funcs.length c2,Pg p3 m.tables.length c3,Pg p4 m.bR.length c4,Pg p5 m.globals.length c5,Pg p6 m.aL.length c6,Ph m.aI,Pf .i64 m.start,Pg p7 m.elems.length c7,Pg p8 m.bg.length c8,Pg p9 m.bE.length c9]:List Value) B sv i w' (hm0.aP (show Ext w w' from hw'.at) (fun _ _ _ h=>h)) (hw'.get (p:=fun w=>bN B m w sv) ak) (h0.ext hw'.at) hB)) (fun _=>bw) (fun _=>aU) ?_
  rintro⟨⟩ _
  refine aN.qa 5 rfl ?_
  refine aN.qa 6 rfl ?_
  refine aN.qa 7 rfl ?_
  refine aN.qa 8 rfl ?_
  refine aN.qa 9 rfl ?_
  refine NA ?_
  repeat'(first|refine ar ?_|(refine aa.aj (f:=9) ?_;refine aa.au rfl rfl rfl (fun w' hw'=>Au (fun k=>k<w.heap.size) m ([Pg p0 m.types.length c0,Pg p1 m.imports.length c1,Pg p2 m.funcs.length c2,Pg p3 m.tables.length c3,Pg p4 m.bR.length c4,Pg p5 m.globals.length c5,Pg p6 m.aL.length c6,Ph m.aI,Pf .i64 m.start,Pg p7 m.elems.length c7,Pg p8 m.bg.length c8,Pg p9 m.bE.length c9]:List Value) i w' (hmL.aP (show Ext w w' from hw'.at) (fun _ _ _ h=>h)) (fun k hk=>Pw hk (show Ext w w' from hw'.at).size) (h0.ext hw'.at) hB) ?_)|(refine aa.cQ (f:=6) ?_;refine aa.cH pF rfl rfl rfl (fun w' hw'=>rX w' (h0.ext hw'.at)) ?_)|fail)
  all_goals first|(exfalso;omega)|exact ah.aF rfl rfl fun w' hw'=>⟨rfl,hw'.at⟩
open Go.ChangeShapes Go.WideShapes Go.ChangeAt Go.RowKit Go.Deep
def oT (N:Nat) (w:World) (t:TypeId) (cs:List Value):Prop:=
 ∃(H:Type) (enc:TypeId×Value→H) (spare:Nat→Bool) (held:Bool) (fuel:Nat) (x:DataW H×List MemPlace),DataW.trod enc G.P w 0 spare held fuel t cs=some x∧Rows.uptoBulk x.1≤N
section
variable {H:Type} {N:Nat} {w:World} {t e:TypeId} {cs:List Value}
theorem ET (d:DataW H):1≤Rows.uptoBulk d:=by
 cases d with
 |lit l=>cases l<;>simp[Rows.uptoBulk]
 |_=>simp[Rows.uptoBulk]
theorem rk {d:DataW H} {l:List (DataW H)} (h:d∈l):Rows.uptoBulk d≤Rows.uptoBulkAll l:=by
 induction l with
 |nil=>cases h
 |cons x r ih=>
  simp only[Rows.uptoBulkAll]
  rcases List.mem_cons.1 h with rfl|h
  ·omega
  ·have:=ih h;omega
theorem ES (l:List (DataW H)):l.length≤Rows.uptoBulkAll l:=by
 induction l with
 |nil=>simp[Rows.uptoBulkAll]
 |cons x r ih=>have:=ET x;simp only[Rows.uptoBulkAll,List.length_cons];omega
theorem oT.struct {fs:Array Field} (ht:G.P.underlying t=some (.struct fs)) (h:oT N w t cs):∀(i:Nat) (f:Field),fs[i]?=some f→oT N w f.type ((cs.drop f.offset).take (G.P.cellsOf f.type)):=by
 obtain⟨H,enc,spare,held,fuel,x,h,hw⟩:=h
 obtain⟨xs,n,rfl,rfl,hl,hx,hf⟩:=DataW.trod_struct ht h
 intro i f hi
 have h1:=hf i f hi
 have hlt:i<xs.length:=by rw[hx];exact(Array.getElem?_eq_some_iff.1 hi).1
 rw[Pq hlt]at h1
 refine⟨H,enc,spare,held,n,xs[i],h1,Py (rk (l:=xs.map (·.1)) (List.mem_map.2 ⟨xs[i],List.getElem_mem hlt,rfl⟩)) ?_⟩
 simp only[Rows.uptoBulk]at hw
 omega
theorem oT.slice {s:Nat} (ht:G.P.underlying t=some (.slice e)) (hc:G.P.cellsOf e=s) (h0:0<s) (h:oT N w t cs):
  ∃p len cap,cs=[.slice p len cap]∧len≤N∧(len=0∨∃b off,p=some ⟨b,off,none⟩∧∀i,i<len→∃cs',cs'.length=s∧(∀j,j<s→w.cell? ⟨b,off+i*s+j,none⟩=cs'[j]?)∧oT N w e cs'):=by
 obtain⟨H,enc,spare,held,fuel,x,h,hw⟩:=h
 rcases open_slice ht h with⟨rfl,rfl⟩|⟨a,len,cap,m,n,D,Pl,rfl,hb,hl,hm,hmm,rfl,hx⟩
 ·exact⟨_,_,_,rfl,by omega,.inl rfl⟩
 ·rw[hc]at hx
  have hlm:len≤m:=by rw[hmm];split<;>omega
  simp only[Rows.uptoBulk]at hw
  refine⟨_,len,cap,rfl,?_,?_⟩
  ·have:=ES ((PB len).map D)
   rw[PS,List.length_range]at this
   omega
  ·by_cases hz:len=0
   ·exact .inl hz
   ·right
    obtain⟨cs0,hc0,-⟩:=hx 0 Pc
    obtain⟨-,hl0,hg0⟩:=World.cells?_some hc0
    have hsp:a.spot=none:=by
     have h1:=hg0 0 h0
     rw[Nat.zero_mul,Pq Pc]at h1
     have e0:(a.add 0).add 0=a.add 0:=by unfold Addr.add;simp
     rw[e0]at h1
     exact zo h1
    refine⟨a.block,a.off,by obtain⟨_,_,s⟩:=a;cases hsp;rfl,fun i hi=>?_⟩
    obtain⟨cs',hc',htr⟩:=hx i Pc
    obtain⟨-,hl',hg'⟩:=World.cells?_some hc'
    refine⟨cs',hl',fun j hj=>?_,H,enc,spare,held,n,_,htr,?_⟩
    ·rw[←hg' j hj,xL hsp,xL rfl]
    ·have:=rk (d:=D i) (l:=(PB len).map D) (List.mem_map.2 ⟨i,List.mem_range.2 hi,rfl⟩)
     show Rows.uptoBulk (D i)≤N
     omega
theorem oT.iw {fs:Array Field} (hf:∀(i:Nat) (f:Field),fs[i]?=some f→oT N w f.type ((cs.drop f.offset).take (G.P.cellsOf f.type))) (i o n:Nat) {t:TypeId} (hi:(fs[i]?).map (fun f=>(f.type,f.offset))=some (t,o)) (hn:G.P.cellsOf t=n):oT N w t ((cs.drop o).take n):=by
 obtain⟨f,h1,h2⟩:=Option.map_eq_some_iff.1 hi
 simp only[Prod.mk.injEq]at h2
 obtain⟨rfl,rfl⟩:=h2
 rw[←hn]
 exact hf i f h1
theorem Jp {u:Value} (h:oT N w 49 [u]) {p:Option Addr} {n c:Nat} (e:u=.slice p n c):n≤N:=by
 obtain⟨p',n',c',e',hl,-⟩:=h.slice (s:=1) underlying49 O5 Pc
 subst e
 simp only[List.cons.injEq,Pg.injEq,and_true]at e'
 omega
theorem Ip {m:af} (h:oT N w 33 cs) (hm:av (fun _=>True) w cs m):Gd N m:=by
 obtain⟨v0,v1,v2,v3,v4,v5,v6,v7,v8,v9,rfl,r0,-⟩:=hm
 have hf:=h.struct underlying33
 obtain⟨p,len,cap,e,-,hx⟩:=(show oT N w _ [v0]from oT.iw hf 0 0 1 rfl O5).slice (s:=2) underlying22 O5 Pc
 simp only[List.cons.injEq,and_true]at e
 subst e
 obtain⟨p',c',e',-⟩:=r0.slice
 simp only[Pg.injEq]at e'
 obtain⟨rfl,rfl,rfl⟩:=e'
 intro f hfm
 obtain⟨i,hi,rfl⟩:=List.getElem_of_mem hfm
 obtain⟨b,o,rfl,-,cs2,⟨u0,u1,rfl,q0,q1⟩,hc⟩:=r0.el hi
 obtain⟨b',o',e2,hx⟩:=hx.resolve_left Pc
 cases e2
 obtain⟨cs',hl',hcc,ht⟩:=hx i hi
 match cs',hl' with
 |[a0,a1],_=>
  have e0:a0=u0:=by
   have h1:=hcc 0 Pc;have h2:=hc 0 Pc
   rw[h1]at h2;simpa using h2
  have e1:a1=u1:=by
   have h1:=hcc 1 Pc;have h2:=hc 1 Pc
   rw[h1]at h2;simpa using h2
  subst e0 e1
  have hg:=ht.struct underlying61
  rw[cz hi]at q0 q1
  obtain⟨x0,y0,z0,-⟩:=q0.slice
  obtain⟨x1,y1,z1,-⟩:=q1.slice
  exact⟨Jp (show oT N w _ [a0]from oT.iw hg 0 0 1 rfl O5) z0,Jp (show oT N w _ [a1]from oT.iw hg 1 1 1 rfl O5) z1⟩
end
theorem Gp {enc:TypeId×Value→H} {N:Nat} {w:World} {t:TypeId} {cs:List Value} {d:DataW H} {ps:List MemPlace} (h:DataW.Trod enc G.P w 0 (fun _=>true) true t (.agg cs.toArray) d ps) (hb:Rows.uptoBulk d≤N):oT N w t cs:=by
 obtain⟨fuel,h⟩:=h
 exact⟨H,enc,_,_,fuel,_,by simpa[Value.cells]using h,hb⟩
section
variable {H:Type} {N:Nat} {w:World} {t e:TypeId} {cs:List Value}
theorem sliceB {u:Value} {s:Nat} (ht:G.P.underlying t=some (.slice e)) (hc:G.P.cellsOf e=s) (h0:0<s) (h:oT N w t [u]) {p:Option Addr} {n c:Nat} (e:u=.slice p n c):n≤N:=by
 obtain⟨p',n',c',e',hl,-⟩:=h.slice ht hc h0
 subst e
 simp only[List.cons.injEq,Pg.injEq,and_true]at e'
 omega
theorem JU {F:Nat→Prop} {u:Value} {xs:List cv} (h:oT N w 56 [u]) (hb:fE F w u xs):∀k,k<xs.length→(ix xs k).labels.length≤N:=by
 obtain⟨p,c,rfl,-⟩:=hb.slice
 obtain⟨p',n',c',e',-,hx⟩:=h.slice (s:=9) underlying56 O5 Pc
 simp only[List.cons.injEq,Pg.injEq,and_true]at e'
 obtain⟨rfl,rfl,rfl⟩:=e'
 intro k hk
 obtain⟨b,o,e2,hy⟩:=hx.resolve_left Pc
 subst e2
 obtain⟨b',o',e3,-,hins⟩:=hb.at hk
 cases e3
 obtain⟨lv,hlv,hI⟩:=(hins k hk).labels
 obtain⟨cs',hl',hcc,ht⟩:=hy k hk
 obtain⟨a0,a1,a2,a3,a4,a5,a6,a7,a8,rfl⟩:=I5 hl'
 have e8:a8=lv:=by have h1:=hcc 8 Pc;rw[hlv]at h1;simpa using h1.symm
 subst e8
 obtain⟨q,d,z,-⟩:=hI.slice
 have hg:=ht.struct underlying69
 exact sliceB (s:=1) underlying67 O5 Pc (show oT N w _ [a8]from oT.iw hg 6 8 1 rfl O5) z
theorem ER {m:af} (h:oT 1048576 w 33 cs) (hm:av (fun _=>True) w cs m):Ck m:=by
 have hty:=Ip h hm
 obtain⟨v0,v1,v2,v3,v4,v5,v6,v7,v8,v9,rfl,r0,r1,r2,r3,r4,r5,r6,r7,r8,r9,g0⟩:=hm
 have hf:=h.struct underlying33
 obtain⟨p3,c3,z3,-⟩:=r3.slice
 obtain⟨p4,c4,z4,-⟩:=r4.slice
 obtain⟨p6,c6,z6,-⟩:=r6.slice
 refine⟨hty,sliceB (s:=4) underlying25 O5 Pc (show oT 1048576 w _ [v3]from oT.iw hf 3 3 1 rfl O5) z3,sliceB (s:=3) underlying26 O5 Pc (show oT 1048576 w _ [v4]from oT.iw hf 4 4 1 rfl O5) z4,sliceB (s:=3) underlying28 O5 Pc (show oT 1048576 w _ [v6]from oT.iw hf 6 6 1 rfl O5) z6,fun j hj=>?_⟩
 obtain⟨p,len,cap,e,-,hx⟩:=(show oT 1048576 w _ [v2]from oT.iw hf 2 2 1 rfl O5).slice (s:=3) underlying24 O5 Pc
 simp only[List.cons.injEq,and_true]at e
 subst e
 obtain⟨p',c',e',-⟩:=r2.slice
 simp only[Pg.injEq]at e'
 obtain⟨rfl,rfl,rfl⟩:=e'
 obtain⟨b,o,rfl,-,cs2,⟨u0,u1,rfl,q0,q1,q2⟩,hc⟩:=r2.el hj
 obtain⟨b',o',e2,hx⟩:=hx.resolve_left Pc
 cases e2
 obtain⟨cs',hl',hcc,ht⟩:=hx j hj
 match cs',hl' with
 |[a0,a1,a2],_=>
  have e2:a2=u1:=by
   have h1:=hcc 2 Pc;have h2:=hc 2 Pc
   rw[h1]at h2;simpa using h2
  subst e2
  have hg:=ht.struct underlying58
  exact JU (show oT 1048576 w _ [a2]from oT.iw hg 2 2 1 rfl O5) q1
end
open Go.ChangeShapes Go.WideShapes Go.ChangeAt Go.RowKit
noncomputable def jk (os:Os):World:=
 let N:=(World.settled prog os).heap.size
 let w0:=World.holding prog os ⟨#[.cells (Lib.whiteT.map fun(z:Nat)=>Pf .u16 (z:Int)).toArray 298,.cells #[.slice (some ⟨N,0,none⟩) 7 7,.slice none 0 0,.int .i64 2] 295],#[],[]⟩
 let put (h:Array Obj) (g:Nat) (cs:Array Value):Array Obj:=h.modify g fun
  |.cells _ t frozen=>.cells cs t frozen
  |o=>o
 let h1:=put w0.heap 0 (Lib.asciiSpaceTab.map fun z=>Pf .u8 z).toArray
 let h2:=put h1 2 #[.pointer (some ⟨N+1,0,none⟩)]
 {w0 with heap:=h2}
theorem tq (args:Array Value):laidMet prog Rows.bodyChecksUptoRow.laid ((jk os).forCall (fun _ _=>0) ⟨#[],args,[]⟩).memory:=
 laidMet_of_run' 8 O5 O5
theorem pO (enc:TypeId×Value→H):
  (Rows.OpenSpec.upto Rows.bodyChecksSpec).preRow enc prog f3 Rows.bodyChecksUptoRow.domain false Rows.bodyChecksUptoRow.laid ((jk os).forCall (fun _ _=>0) ⟨#[],#[.agg #[.slice none 0 0,.slice none 0 0,.slice none 0 0,.slice none 0 0,.slice none 0 0,.slice none 0 0,.slice none 0 0,.bool false,.int .i64 0,.slice none 0 0,.slice none 0 0,.slice none 0 0],.int .i64 0],[]⟩).memory #[.agg #[.slice none 0 0,.slice none 0 0,.slice none 0 0,.slice none 0 0,.slice none 0 0,.slice none 0 0,.slice none 0 0,.bool false,.int .i64 0,.slice none 0 0,.slice none 0 0,.slice none 0 0],.int .i64 0]:=by
 have hw:(DataW.whole enc prog ((jk os).forCall (fun _ _=>0) ⟨#[],#[.agg #[.slice none 0 0,.slice none 0 0,.slice none 0 0,.slice none 0 0,.slice none 0 0,.slice none 0 0,.slice none 0 0,.bool false,.int .i64 0,.slice none 0 0,.slice none 0 0,.slice none 0 0],.int .i64 0],[]⟩).memory f3.params.toList Rows.bodyChecksSpec.vars false (#[.agg #[.slice none 0 0,.slice none 0 0,.slice none 0 0,.slice none 0 0,.slice none 0 0,.slice none 0 0,.slice none 0 0,.bool false,.int .i64 0,.slice none 0 0,.slice none 0 0,.slice none 0 0],.int .i64 0]:Array Value).toList 8).map (fun x=>(x.1,x.2.1))=
   some ([.agg [.nil,.nil,.nil,.nil,.nil,.nil,.nil,.lit (.bool false),.lit (.int .i64 0),.nil,.nil,.nil],.lit (.int .i64 0)],[]):=by kernel_rfl
 obtain⟨⟨x1,x2,x3⟩,hx,hx1⟩:=Option.map_eq_some_iff.1 hw
 simp only[Prod.mk.injEq]at hx1
 obtain⟨rfl,rfl⟩:=hx1
 exact OpenSpec.preRow_of_cond 8 hx O5 (fun k hk=>by cases hk;kernel_rfl) O5 (tq os _)
theorem qw (started:os.Started) (H:Type) (enc:TypeId×Value→H) (F:Stop.Interp):
  ReturnsInHanded {} checked os 3 .any ((Rows.OpenSpec.upto Rows.bodyChecksSpec).preRow enc prog f3 Rows.bodyChecksUptoRow.domain false Rows.bodyChecksUptoRow.laid) (((Rows.OpenSpec.upto Rows.bodyChecksSpec).at F).post enc prog f3 false true false false):=by
 refine returnsInHanded_of_row (C:=checked) (s:=Rows.OpenSpec.upto Rows.bodyChecksSpec) own started O5 func3
  (witness_row_atRef (enc:=enc) (C:=checked) false (jk os) #[.agg #[.slice none 0 0,.slice none 0 0,.slice none 0 0,.slice none 0 0,.slice none 0 0,.slice none 0 0,.slice none 0 0,.bool false,.int .i64 0,.slice none 0 0,.slice none 0 0,.slice none 0 0],.int .i64 0] rfl O5 O5 O5 (pO os enc)) ?_
 intro W base args ds gs before hval0 hW _ hcond hsz hL hsh _
 have h0:fJ W:=GD hL hsh
 have hW':DataW.Whole enc prog f3.params.toList Rows.bodyChecksSpec.vars false W args.toList ds gs before:=hW
 obtain⟨p,q,hA0,hV,rfl,hfz,hnd⟩:=hW
 have hA:DataW.TrodAll enc prog W 0 (fun _=>true) true f3.params.toList args.toList ds p:=hA0
 obtain⟨rfl,rfl⟩:=trodVars_none hV
 have hz:∀n∈DataW.weightsEach prog f3.params.toList ds,n≤reachBytes:=fun n hn=>by
  have h1:=List.all_eq_true.1 hsz n (by rw[PM];exact sr _ _ _ n hn)
  simpa using h1
 have hval:∀(j:Nat) t v,f3.params[j]?=some t→args[j]?=some v→Value.okWide prog W .any base t v:=hval0
 rw[params3]at hA hz hval
 obtain⟨v0,vs0,d0,ds0,p0,q0,hargs,rfl,rfl,h0',r0⟩:=trodAll_cons hA
 obtain⟨v1,vs1,d1,ds1,p1,q1,rfl,rfl,rfl,h1',r1⟩:=trodAll_cons r0
 obtain⟨rfl,rfl,rfl⟩:=trodAll_nil r1
 have hbk:Rows.uptoBulkAll [d0,d1]≤1048576:=by
  have h:=hcond _ rfl
  simp only[PM]at h
  exact of_decide_eq_true h
 obtain rfl:args=#[v0,v1]:=by cases args;simp_all
 obtain⟨cs0,rfl,hl0,ht0⟩:=A2 underlying33 (hval 0 _ v0 rfl rfl) h0' (fun n hn=>hz n (by simp only[DataW.weightsEach,PM,List.mem_append];first|exact hn|exact .inl hn|exact .inr hn|exact .inr (.inl hn)|exact .inr (.inr hn)|exact .inr (.inr (.inl hn))|exact .inr (.inr (.inr hn))|exact .inr (.inr (.inr (.inl hn)))|exact .inr (.inr (.inr (.inr hn)))))
 obtain⟨m0,hm0⟩:=av.of ht0 (by rw[hl0];kernel_rfl)
 obtain⟨n1,rfl,rfl,rfl,hr1⟩:=open_int underlying3 (hval 1 _ v1 rfl rfl) h1'
 refine(rr m0 cs0 n1 W hm0 (ER (Gp h0' (Py (rk Pd) hbk)) hm0) h0).mono fun e W' ⟨he,hx⟩=>?_
 subst he
 exact⟨_,rfl,yw (P:=prog) laidOut rfl (tb:=4) O5 underlying4 O5 hW' (fun _=>rfl) hx.below⟩
end Go.Proofs.YtdkcljdfbemnbaaGreatDoor
