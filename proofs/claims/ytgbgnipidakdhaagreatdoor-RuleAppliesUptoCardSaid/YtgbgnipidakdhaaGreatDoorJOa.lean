/- law23.RuleApplies, where no type is longer than 2^20. Printed by gen_oa.py. -/
import Derived.Test.YtgbgnipidakdhaaGreatDoorJZk
namespace Go.Proofs.YtgbgnipidakdhaaGreatDoor
open Go.RowKit
set_option maxRecDepth 100000
theorem Fh (D:Nat→Prop) (c:fN) (y:iP) (w:World) (h:bY c D w y) (hz:c.fs.length=0):Calls G.P 30 #[.agg (er c y).toArray] w fun e w'=>e=.returned (.bool true)∧Ext w w':=by
 obtain⟨p1,c1,p2,c2,p3,c3,p4,c4,p5,c5,ey,k4,h4,kz⟩:=h.fP
 obtain⟨r,f,rv,z⟩:=y
 cases ey
 refine ae (l:=[_]) Tryz.func30 rfl Tryz.ntmps30 rfl (Ok.start w) ?_
 dsimp only[er]
 rw[hz]
 repeat'(first|refine ar ?_|(refine aC fun b_=>?_)|fail)
 all_goals first|omega|exact ah.aB rfl rfl fun w' hw'=>⟨rfl,hw'.at⟩
theorem F3 (D:Nat→Prop) (c:di) (y:iP) (w:World) (h:bY (bB c) D w y) (hb:c.broken=0) (hf:c.Wf):Calls G.P 30 #[.agg (er (bB c) y).toArray] w fun e w'=>e=.returned (.bool c.live)∧Ext w w':=by
 by_cases hn:c.fs.length=0
 ·rw[hf.ended hn]
  exact Fh D (bB c) y w h (by rw[cB];exact hn)
 ·exact xT D c y w h hb Mj
theorem aZ.nV {Q:Exit→Act→World→Prop} {n:Nat} {l:Code} {E:Env} {M M':List a8} {R:List (World→Prop)} {β β2:Type} {V:(Nat→Prop)→World→β→Prop} {V2:(Nat→Prop)→World→β2→Prop} {w0:World} {F D:Nat→Prop} {y:β} (y2:β2) (hM:Up (a8.an V w0 F D y) (a8.an V2 w0 F D y2) M M') (hp:∀D w,V D w y→V2 D w y2) (h:aZ Q n l E M' R):aZ Q n l E M R:=⟨fun w hw=>h.h w (hw.nV y2 hM hp)⟩
theorem Yl.HY {n:Nat} {E:Env} {C:World→Prop} {t t2:TypeId} {x y:Operand} {a:Bool} (hx:ev E x=some (.bool a)) (hy:ev E y=some (.bool a)) (ht:∀w,(Op.equal t (.bool a) (.bool a)).run G.P w=.ok (a==a) w:=by intro w;kernel_rfl):Yl G n (.binOp .neq t x y t2) E C (.bool false):=by
 have:=Yl.HX (G:=G) (n:=n) (E:=E) (C:=C) (t2:=t2) hx hy ht
 rwa[show(a !=a)=false from by cases a<;>rfl]at this
set_option maxHeartbeats 16000000 in
theorem sK (m:aj) (cs:List Value) (results:List Int) (qp:Option Addr) (qc:Nat) (locals:List Int) (lp:Option Addr) (lc:Nat) (l:List cJ) (bv0:Value) (w:World) (hm:ay (fun _=>True) w cs m) (hK:HC 1048576 m) (hr:af (fun _=>True) w (.slice qp results.length qc) results) (hl:af (fun _=>True) w (.slice lp locals.length lc) locals) (hbo:gR (fun _=>True) w bv0 l) (h0:fu w):Calls G.P 8 #[.agg cs.toArray,.slice qp results.length qc,.slice lp locals.length lc,bv0] w fun e w'=>e=.returned (.bool true)∧Ext w w':=by
 have hT:kx m:=hK.b Mh
 have hm0:=hm
 obtain⟨v0,v1,v2,v3,v4,v5,v6,v7,v8,v9,rfl,r0,r1,r2,r3,r4,r5,r6,r7,r8,r9,g0⟩:=hm;obtain⟨p0,c0,rfl,l0⟩:=r0.slice;obtain⟨p1,c1,rfl,l1⟩:=r1.slice;obtain⟨p2,c2,rfl,l2⟩:=r2.slice;obtain⟨p3,c3,rfl,l3⟩:=r3.slice;obtain⟨p4,c4,rfl,l4⟩:=r4.slice;obtain⟨p5,c5,rfl,l5⟩:=r5.slice;obtain⟨p6,c6,rfl,l6⟩:=r6.slice;obtain⟨p7,c7,rfl,l7⟩:=r7.slice;obtain⟨p8,c8,rfl,l8⟩:=r8.slice;obtain⟨p9,c9,rfl,l9⟩:=r9.slice
 obtain⟨pb,cb,rfl,-⟩:=hbo.slice
 refine ae (l:=[.agg (([Value.slice p0 m.types.length c0,Value.slice p1 m.imports.length c1,Value.slice p2 m.funcs.length c2,Value.slice p3 m.tables.length c3,Value.slice p4 m.da.length c4,Value.slice p5 m.globals.length c5,Value.slice p6 m.bh.length c6,Value.bool m.br,Value.int .i64 m.start,Value.slice p7 m.elems.length c7,Value.slice p8 m.bD.length c8,Value.slice p9 m.dI.length c9]:List Value)).toArray,_,_,_]) Tryz.func8 rfl Tryz.ntmps8 rfl (Ok.start w) ?_
 repeat'(first|refine ar ?_|fail)
 refine aa.box ([Value.slice p0 m.types.length c0,Value.slice p1 m.imports.length c1,Value.slice p2 m.funcs.length c2,Value.slice p3 m.tables.length c3,Value.slice p4 m.da.length c4,Value.slice p5 m.globals.length c5,Value.slice p6 m.bh.length c6,Value.bool m.br,Value.int .i64 m.start,Value.slice p7 m.elems.length c7,Value.slice p8 m.bD.length c8,Value.slice p9 m.dI.length c9]:List Value) rfl rfl rfl fun b4=>?_
 repeat'(first|refine ar ?_|fail)
 refine aa.he (HE.BN (P:=Gl m locals.length l) rfl rfl (fun w' hw'=>AU (fun _=>True) m locals l ([Value.slice p0 m.types.length c0,Value.slice p1 m.imports.length c1,Value.slice p2 m.funcs.length c2,Value.slice p3 m.tables.length c3,Value.slice p4 m.da.length c4,Value.slice p5 m.globals.length c5,Value.slice p6 m.bh.length c6,Value.bool m.br,Value.int .i64 m.start,Value.slice p7 m.elems.length c7,Value.slice p8 m.bD.length c8,Value.slice p9 m.dI.length c9]:List Value) lp lc (.slice pb l.length cb) w' (hm0.aO (show Ext w w' from hw'.at) (fun _ _ _ h=>h)) (hbo.ext hw'.at))) rfl ?_
 intro fb hfb
 cases fb with
 |false=>
  repeat'(first|refine ar ?_|refine K6 ?_|fail)
  all_goals exact am
 |true=>
  have hLQ:=(hfb rfl).1
  have h60:=(hfb rfl).2.2.1
  have hlab:=fun k hk=>((hfb rfl).2.2.2 k hk).1
  by_cases h40:20<results.length
  ·repeat'(first|refine ar ?_|refine K6 ?_|fail)
   all_goals first|(exfalso;omega)|exact ah.aB rfl rfl fun w' hw'=>⟨rfl,hw'.at⟩
  ·repeat'(first|refine ar ?_|fail)
   all_goals first|(exfalso;omega)|skip
   refine J5 ?_
   rintro⟨B,sv⟩ _
   repeat'(first|refine ar ?_|fail)
   refine aa.he (HE.bC (M0:=[]) ox.nil rfl rfl (fun w' hw'=>sx (fun _=>True) results (.slice qp results.length qc) w' (hr.aO (show Ext w w' from hw'.at) (fun _ _ _ h=>h)))) rfl ?_
   rintro⟨cp,sp,tv,pv,bv,rv,fv,DC,LC⟩ hg0
   dsimp only[aQ,aS,List.cons_append,List.nil_append]at hg0 ⊢
   repeat'(first|refine ar ?_|fail)
   refine aa.he (HE.qB (V:=bY (tU results)) (w0:=w) (F:=fun _=>True) (tf:=fun y=>.agg (er (tU results) y).toArray) (bY.fr _) (bY.lt _) (bY.mo _) ak rfl rfl (fun w' hw'=>Bt _ results _ w' (jw hr hw'.at _))) rfl ?_
   rintro⟨D1,y1⟩ _
   refine aa.pure (φ:=∃a1 n1 c1 a2 n2 c2 a3 n3 c3 a4 n4 c4 a5 n5 c5,∃z:List rU,y1=⟨⟨.slice a1 n1 c1,.slice a2 n2 c2,.slice a3 n3 c3⟩,.slice a4 n4 c4,.slice a5 n5 c5,z⟩) (fun w' hw'=>bY.sh (hw'.an (V:=bY (tU results)) (w0:=w) (F:=fun _=>True) (D:=D1) (y:=y1) ak bG)) ?_
   rintro⟨aa1,an1,ac1,aa2,an2,ac2,aa3,an3,ac3,aa4,an4,ac4,aa5,an5,ac5,az,rfl⟩
   dsimp only[er]
   repeat'(first|refine ar ?_|(refine jC fun b_=>?_)|fail)
   obtain⟨b11,rfl⟩:∃y:Nat,y=b_:=⟨_,rfl⟩
   refine aZ.Gd (σ:=Nat×di×iY×(Nat→Prop)×iP) (fun q=>[(2,.slice lp locals.length lc),(3,.slice pb l.length cb),(4,.pointer (some ⟨b4,0,none⟩)),(9,sv),(10,.pointer (some ⟨cp,0,none⟩)),(11,.pointer (some ⟨b11,0,none⟩)),(12,.int .i64 q.1)]) (fun q=>.aT b11 (er (bB q.2.1) q.2.2.2.2) uA::a8.an (bY (bB q.2.1)) w (fun _=>True) q.2.2.2.1 q.2.2.2.2::.aT b4 ([Value.slice p0 m.types.length c0,Value.slice p1 m.imports.length c1,Value.slice p2 m.funcs.length c2,Value.slice p3 m.tables.length c3,Value.slice p4 m.da.length c4,Value.slice p5 m.globals.length c5,Value.slice p6 m.bh.length c6,Value.bool m.br,Value.int .i64 m.start,Value.slice p7 m.elems.length c7,Value.slice p8 m.bD.length c8,Value.slice p9 m.dI.length c9]:List Value) kU::aQ cp q.2.1 q.2.2.1) (fun _=>[fun w=>bL B m w sv,Ext w]) (fun q=>q.1≤l.length∧q.2.2.1.Good q.2.1∧DV 1048576 results q.1 q.2.1) (fun q=>l.length - q.1) (0,jd results,⟨sp,tv,pv,bv,rv,fv,DC,LC⟩,D1,⟨⟨.slice aa1 an1 ac1,.slice aa2 an2 ac2,.slice aa3 an3 ac3⟩,.slice aa4 an4 ac4,.slice aa5 an5 ac5,az⟩) bJ ?_ aV ⟨Nat.zero_le _,hg0,DV.new results Mj⟩ ?_
   ·dsimp only[aQ,aS,er,List.cons_append,List.nil_append]
    rw[C4]
    exact dM
   rintro⟨i,c,⟨sp,tv,pv,bv,rv,fv,DC,LC⟩,D1,y1⟩ ⟨hi,hg,hs⟩
   dsimp only at hi hg hs ⊢
   dsimp only[aQ,aS,List.cons_append,List.nil_append]
   by_cases hlt:i<l.length
   case neg=>
    obtain rfl:i=l.length:=by omega
    repeat'(first|refine ar ?_|refine K6 ?_|fail)
    all_goals first|omega|exact ah.aB rfl rfl fun w' hw'=>⟨rfl,hw'.at⟩
   obtain⟨ib,io,rfl,-,hins⟩:=hbo.at hlt
   obtain⟨pt,ct,pl,cl,hti,hli,hc9⟩:=(hins i hlt).cells
   have hll:(ix l i).labels.length≤1000:=by have:=hlab i hlt;omega
   unfold HU at hc9
   generalize ix l i=x at*
   have hB:GK c m locals x:=hs.bounds hK Mh Mh Mj Mj hll
   have hk:=hs.k
   have hal:=wL hk.bk hk.wf.ok hk.wf.ao hk.fit m locals x
   have hnx:=fun cC e=>hs.next (m:=m) (locals:=locals) (x:=x) (cC:=cC) hK Mh e
   have hap:=fun D w' (hw':Ext w w') (hD:∀k,D k→k<w'.heap.size) y hh=>xw (AF (fun _=>True) w D) c y m ([Value.slice p0 m.types.length c0,Value.slice p1 m.imports.length c1,Value.slice p2 m.funcs.length c2,Value.slice p3 m.tables.length c3,Value.slice p4 m.da.length c4,Value.slice p5 m.globals.length c5,Value.slice p6 m.bh.length c6,Value.bool m.br,Value.int .i64 m.start,Value.slice p7 m.elems.length c7,Value.slice p8 m.bD.length c8,Value.slice p9 m.dI.length c9]:List Value) locals x lp pt pl lc ct cl w' hh (DL hm0 hw' D) (jw hl hw' D) (jw hti hw' D) (jw hli hw' D) (fun k hk=>hk.elim (fun h=>Nat.lt_of_lt_of_le h.2 hw'.size) (hD k)) hT hk.wf hk.wf.ok hk.bk hB
   have hac:=fun w' hw'=>zj B (fun _=>True) cp c ⟨sp,tv,pv,bv,rv,fv,DC,LC⟩ m locals sv x lp pt pl lc ct cl w' hw' hg hk.wf hk.bk hT hB
   obtain⟨rC,hrC⟩:∃r,jV c m locals x=r:=⟨_,rfl⟩
   obtain⟨rR,hrR⟩:∃r,oa (bB c) m locals x=r:=⟨_,rfl⟩
   rw[hrC]at hac hal
   rw[hrR]at hap hal
   obtain⟨cC,e⟩:=rC
   obtain⟨cR,e'⟩:=rR
   obtain⟨he1,he2⟩:=hal
   dsimp only at he1 he2
   subst he1
   refine aZ.pure (φ:=∃a1 n1 c1 a2 n2 c2 a3 n3 c3 a4 n4 c4 a5 n5 c5,∃z:List rU,y1=⟨⟨.slice a1 n1 c1,.slice a2 n2 c2,.slice a3 n3 c3⟩,.slice a4 n4 c4,.slice a5 n5 c5,z⟩) (fun w' hw'=>bY.sh (hw'.an (V:=bY (bB c)) (w0:=w) (F:=fun _=>True) (D:=D1) (y:=y1) ak bG)) ?_
   rintro⟨aa1,an1,ac1,aa2,an2,ac2,aa3,an3,ac3,aa4,an4,ac4,aa5,an5,ac5,az,rfl⟩
   dsimp only[er]
   repeat'(first|refine ar ?_|fail)
   refine aZ.cT [.aT b11 [.slice aa1 an1 ac1,.slice aa2 an2 ac2,.slice aa3 an3 ac3,.int .i64 (bB c).ao.bH,.slice aa4 an4 ac4,.slice aa5 an5 ac5,.int .i64 0] uA,.aT b4 ([Value.slice p0 m.types.length c0,Value.slice p1 m.imports.length c1,Value.slice p2 m.funcs.length c2,Value.slice p3 m.tables.length c3,Value.slice p4 m.da.length c4,Value.slice p5 m.globals.length c5,Value.slice p6 m.bh.length c6,Value.bool m.br,Value.int .i64 m.start,Value.slice p7 m.elems.length c7,Value.slice p8 m.bD.length c8,Value.slice p9 m.dI.length c9]:List Value) kU] [Ext w] bc aV ?_
   repeat'(first|refine og ?_|(refine aP.qy 5 rfl (Yl.idx (i:=i) rfl rfl rfl rfl rfl Mj Mj) ?_)|(refine aP.qy 6 rfl (Yl.nO rfl rfl rfl ak Ml Ml hc9) ?_)|(refine av.ep 26 ?_;refine av.he rfl rfl (HE.bF (V:=bY (bB c)) (V2:=fm (cR,e)) (tf:=fun x=>.tuple #[.agg x.2.toArray,.int .i64 e]) (w0:=w) (F:=fun _=>True) (D:=D1) (y:=⟨⟨.slice aa1 an1 ac1,.slice aa2 an2 ac2,.slice aa3 an3 ac3⟩,.slice aa4 an4 ac4,.slice aa5 an5 ac5,az⟩) (fm.fr _) (fm.lt _) (fm.mo _) ak bG (fun _=>aA) rfl rfl (fun w' hw' hh=>by have h5:=(hw'.m (a8.an (bY (bB c)) w (fun _=>True) D1 ⟨⟨.slice aa1 an1 ac1,.slice aa2 an2 ac2,.slice aa3 an3 ac3⟩,.slice aa4 an4 ac4,.slice aa5 an5 ac5,az⟩) bG).2;have h6:=hap D1 w' hw'.at h5 _ hh;exact h6)) (fun _=>bc) (fun _=>aV) ?_;rintro⟨D7,y7,l7⟩ _;refine aP.pure (φ:=fh l7) (fun w' hw'=>(hw'.an (V:=fm (cR,e)) (w0:=w) (F:=fun _=>True) (D:=D7) (y:=(y7,l7)) ak bG).1) ?_;rintro⟨q1,q2,q3,q4,q5,q6,q7,q8,q9,q10,q11,q12,q13,q14,q15,q16,q17,rfl⟩;dsimp only)|(refine av.zM uA ?_;refine av.he rfl rfl (HE.alloc (t:=uA) [.slice none 0 0,.slice none 0 0,.slice none 0 0,.int .i64 0,.slice none 0 0,.slice none 0 0,.int .i64 0] rfl rfl) (fun _=>bc) (fun _=>aV) ?_;intro b13 _)|(refine av.nw ?_;refine av.jf rfl (fQ.bn _ rfl rfl rfl rfl rfl rfl aA rfl) (fun _=>bc) (fun _=>aV) ?_;rintro⟨⟩ _)|refine aP.nil LX ?_|refine aP.any LX ?_|exact aN.fin rfl|refine aN.skip LX ?_|refine aN.go ?_ ?_)
   all_goals
    by_cases he:e=0
    case neg=>
     repeat'(first|refine ar ?_|(refine aa.y_ (Yl.nO rfl rfl rfl ak Ml Ml hc9) rfl ?_)|fail)
     refine aa.he (HE.bC (M0:=aQ cp c ⟨sp,tv,pv,bv,rv,fv,DC,LC⟩) dt rfl rfl (fun w' hw'=>(hac w' (C7 (hw'.cF dM (fun _ h=>h)) ak h0 ak hl hti hli)).mono fun _ _ h=>h.bad (q:=e) rfl he)) rfl ?_
     rintro _ _
     dsimp only[List.nil_append]
     repeat'(first|refine ar ?_|refine K6 ?_|fail)
     exact am
    subst he
    obtain rfl:=he2 rfl
    have hs2:=hnx cC hrC
    repeat'(first|refine ar ?_|(refine aa.y_ (Yl.nO rfl rfl rfl ak Ml Ml hc9) rfl ?_)|fail)
    refine aa.he (HE.bC (M0:=aQ cp c ⟨sp,tv,pv,bv,rv,fv,DC,LC⟩) dt rfl rfl (fun w' hw'=>(hac w' (C7 (hw'.cF dM (fun _ h=>h)) ak h0 ak hl hti hli)).mono fun _ _ h=>h.xO rfl)) rfl ?_
    rintro⟨sp7,tv7,pv7,bv7,rv7,fv7,DC7,LC7⟩ hg7
    dsimp only[aQ,aS,List.cons_append,List.nil_append]at hg7 ⊢
    repeat'(first|refine ar ?_|fail)
    refine aZ.pure (φ:=∃a1 n1 c1 a2 n2 c2 a3 n3 c3 a4 n4 c4 a5 n5 c5,∃z:List rU,y7=⟨⟨.slice a1 n1 c1,.slice a2 n2 c2,.slice a3 n3 c3⟩,.slice a4 n4 c4,.slice a5 n5 c5,z⟩∧[.slice q1 q2 q3,.slice q4 q5 q6,.slice q7 q8 q9,.int .i64 q10,.slice q11 q12 q13,.slice q14 q15 q16,.int .i64 q17]=er (bB cC) y7) (fun w' hw'=>by have hv:=hw'.an (V:=fm (bB cC,0)) (w0:=w) (F:=fun _=>True) (D:=D7) (y:=(y7,[.slice q1 q2 q3,.slice q4 q5 q6,.slice q7 q8 q9,.int .i64 q10,.slice q11 q12 q13,.slice q14 q15 q16,.int .i64 q17])) ak bG;obtain⟨h1,h2⟩:=hv.2 rfl;obtain⟨a1,n1,c1,a2,n2,c2,a3,n3,c3,a4,n4,c4,a5,n5,c5,z,e⟩:=h2.sh;exact⟨a1,n1,c1,a2,n2,c2,a3,n3,c3,a4,n4,c4,a5,n5,c5,z,e,h1⟩) ?_
    rintro⟨ea1,en1,ec1,ea2,en2,ec2,ea3,en3,ec3,ea4,en4,ec4,ea5,en5,ec5,ez,rfl,hq⟩
    dsimp only[er]at hq
    simp only[List.cons.injEq,Value.slice.injEq,Value.int.injEq,and_true,true_and]at hq
    obtain⟨⟨rfl,rfl,rfl⟩,⟨rfl,rfl,rfl⟩,⟨rfl,rfl,rfl⟩,rfl,⟨rfl,rfl,rfl⟩,⟨rfl,rfl,rfl⟩,rfl⟩:=hq
    refine aZ.nV (V:=fm (bB cC,0)) (V2:=bY (bB cC)) (w0:=w) (F:=fun _=>True) (D:=D7) (⟨⟨.slice q1 q2 q3,.slice q4 q5 q6,.slice q7 q8 q9⟩,.slice q11 q12 q13,.slice q14 q15 q16,ez⟩:iP) aA (fun D w h=>(h.2 rfl).2) ?_
    have hts4:cC.ao.ts.length≤70000000:=by have:=hs2.k.ts;have:(i+1)*1048576≤60*1048576:=Nat.mul_le_mul Mj (Nat.le_refl _);omega
    refine aZ.cT [.aT b11 [.slice q1 q2 q3,.slice q4 q5 q6,.slice q7 q8 q9,.int .i64 (bB cC).ao.bH,.slice q11 q12 q13,.slice q14 q15 q16,.int .i64 0] uA] [Ext w] bc aV ?_
    repeat'(first|refine og ?_|(refine aP.wW 13 rfl ?_ (hy:=Yl.HY rfl rfl))|(refine G4 ?_)|(refine av.ep 23 ?_;refine av.he rfl rfl (HE.dX rfl rfl (fun w' hw'=>fi cp ⟨sp7,0,none⟩ w' (hw'.c1 aA Ml))) (fun _=>bc) (fun _=>aV) ?_;rintro⟨⟩ _)|(refine av.ep 28 ?_;refine av.he rfl rfl (HE.bC (M0:=[]) ox.nil rfl rfl (fun w' hw'=>AA sp7 cC.ao (tv7,pv7) w' (hw'.cF dM (fun p hp=>absurd hp Mk)) hs2.k.wf.ao.some Mj)) (fun _=>by dsimp only[List.cons_append,List.nil_append];exact bc) (fun _=>aV) ?_;rintro u _;dsimp only[List.cons_append,List.nil_append])|(refine av.ep 27 ?_;refine av.he rfl rfl (HE.dX (v:=.bool true) rfl rfl (fun w' hw'=>by have:=zk _ _ cC.ao.ts cC.ao.ts u (.slice q1 q2 q3) w' (eQ (hw'.own (B:=0) (T:=fY) (v:=u)) Mj) (hw'.an (V:=bY (bB cC)) (w0:=w) (F:=fun _=>True) (D:=D7) (y:=⟨⟨.slice q1 q2 q3,.slice q4 q5 q6,.slice q7 q8 q9⟩,.slice q11 q12 q13,.slice q14 q15 q16,ez⟩) ak bG).1.1;rw[decide_eq_true rfl]at this;exact this)) (fun _=>bc) (fun _=>aV) ?_;rintro⟨⟩ _)|(refine av.uR 29 ?_;refine av.FN rfl rfl rfl (HE.dX (v:=.bool cC.live) rfl rfl (fun w' hw'=>AG cp cC ⟨sp7,tv7,pv7,bv7,rv7,fv7,DC7,LC7⟩ w' ((hw'.cF (M':=aQ cp cC ⟨sp7,tv7,pv7,bv7,rv7,fv7,DC7,LC7⟩) dM (fun _ h=>h)).zS (List.Sublist.refl _)) hs2.k.bk)) (fun _=>bc) (fun _=>aV) ?_;rintro⟨⟩ _)|(refine av.uR 30 ?_;refine av.FN rfl rfl rfl (HE.dX (v:=.bool cC.live) rfl rfl (fun w' hw'=>F3 _ cC ⟨⟨.slice q1 q2 q3,.slice q4 q5 q6,.slice q7 q8 q9⟩,.slice q11 q12 q13,.slice q14 q15 q16,ez⟩ w' (hw'.an (V:=bY (bB cC)) (w0:=w) (F:=fun _=>True) (D:=D7) (y:=⟨⟨.slice q1 q2 q3,.slice q4 q5 q6,.slice q7 q8 q9⟩,.slice q11 q12 q13,.slice q14 q15 q16,ez⟩) ak bG) hs2.k.bk hs2.k.wf)) (fun _=>bc) (fun _=>aV) ?_;rintro⟨⟩ _)|(refine av.uR 31 ?_;refine av.FN rfl rfl rfl (HE.dX (v:=.int .i64 cC.fs.length) rfl rfl (fun w' hw'=>Gh cp cC ⟨sp7,tv7,pv7,bv7,rv7,fv7,DC7,LC7⟩ w' ((hw'.cF (M':=aQ cp cC ⟨sp7,tv7,pv7,bv7,rv7,fv7,DC7,LC7⟩) dM (fun _ h=>h)).zS (List.Sublist.refl _)) hs2.k.bk)) (fun _=>bc) (fun _=>aV) ?_;rintro⟨⟩ _)|(refine av.uR 32 ?_;refine av.FN rfl rfl rfl (HE.dX (v:=.int .i64 cC.fs.length) rfl rfl (fun w' hw'=>by have:=FX _ (bB cC) ⟨⟨.slice q1 q2 q3,.slice q4 q5 q6,.slice q7 q8 q9⟩,.slice q11 q12 q13,.slice q14 q15 q16,ez⟩ w' (hw'.an (V:=bY (bB cC)) (w0:=w) (F:=fun _=>True) (D:=D7) (y:=⟨⟨.slice q1 q2 q3,.slice q4 q5 q6,.slice q7 q8 q9⟩,.slice q11 q12 q13,.slice q14 q15 q16,ez⟩) ak bG);rw[cB]at this;exact this)) (fun _=>bc) (fun _=>aV) ?_;rintro⟨⟩ _)|refine aP.nil LX ?_|refine aP.any LX ?_|exact aN.fin rfl|refine aN.skip LX ?_|refine aN.go ?_ ?_)
    all_goals repeat'(first|refine ar ?_|fail)
    all_goals exact ah.Ge (i+1,cC,⟨sp7,tv7,pv7,bv7,rv7,fv7,DC7,LC7⟩,D7,⟨⟨.slice q1 q2 q3,.slice q4 q5 q6,.slice q7 q8 q9⟩,.slice q11 q12 q13,.slice q14 q15 q16,ez⟩) bJ (by dsimp only[er,aQ,aS,List.cons_append,List.nil_append];exact dM) aV ⟨by show i+1≤l.length;omega,hg7,hs2⟩ (by show l.length - (i+1)<l.length - i;omega)
end Go.Proofs.YtgbgnipidakdhaaGreatDoor
