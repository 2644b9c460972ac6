/- law23.RuleOn. Printed by gen_on.py. -/
import Derived.Test.YtgbgnipidakdhaaGreatDoorJOh
namespace Go.Proofs.YtgbgnipidakdhaaGreatDoor
open Go.RowKit
set_option maxRecDepth 100000
def qk (dead:Bool):di:=if dead then gi (fL (jd [1]) 2 [] [2]).1 else(fL (jd [1]) 2 [] [2]).1
theorem om (dead:Bool):ic 1 0 (qk dead)∧(qk dead).fs.length=2∧(qk dead).results=[1]:=by
 have h1:ic 1 0 (fL (jd [1]) 2 [] [2]).1:=by
  refine⟨uP (oP _) _ _ _,rfl,by unfold bP.Fit;decide,?_,by decide⟩
  intro f hf
  have:f=⟨0,[],[1],false,true⟩∨f=⟨2,[],[2],false,true⟩:=by
   have h2:(fL (jd [1]) 2 [] [2]).1.fs=[⟨0,[],[1],false,true⟩,⟨2,[],[2],false,true⟩]:=rfl
   rw[h2]at hf
   simpa using hf
  rcases this with rfl|rfl<;>exact⟨by decide,by decide⟩
 cases dead with
 |false=>exact⟨h1,rfl,rfl⟩
 |true=>exact⟨h1.dead.1,rfl,rfl⟩
theorem B5:lS (tU [1]) 2 ⟨[],[2]⟩=(bB (qk false),0):=by
 have h:=xX (jd [1]) 2 ⟨[],[2]⟩ rfl
 rw[C4]at h
 exact Prod.ext (h.2 rfl).symm h.1.symm
theorem ic.push {K L:Nat} {c:di} (h:ic K L c) (l:List Int):ic K (L+l.length) {c with ao:=aJ c.ao l}:=
 h.ao (mZ h.wf.ao l) rfl (jR _ _) (by show(c.ao.ts++l).length≤_;rw[List.length_append];have:=h.ts;omega)
theorem ic.bounds {K L:Nat} {c:di} (h:ic K L c) {m:aj} {locals:List Int} {x:cJ} (hT:kx m) (hK:K≤100000000000) (hL:L≤500) (hfs:c.fs.length≤1000) (hres:c.results.length≤100000000000) (hll:x.labels.length≤1000):GK c m locals x:=by
 have hts:=h.ts
 refine⟨hfs,by omega,hres,fun n=>Nat.le_trans (h.fr.label n) hK,Nat.le_trans h.fr.top.1 hK,Nat.le_trans h.fr.top.2 hK,hll,fun f hf=>?_,?_⟩
 ·have:=(sW hT hf).1;omega
 ·obtain⟨r,hr⟩:∃r,ed m locals x=r:=⟨_,rfl⟩
  obtain⟨f,e⟩:=r
  have:=vd hT hr
  rw[hr];dsimp only;omega
theorem yr.up {K K':Nat} {fs:List mK} (h:yr K fs) (hk:K≤K'):yr K' fs:=fun f hf=>⟨Nat.le_trans (h f hf).1 hk,Nat.le_trans (h f hf).2 hk⟩
set_option maxHeartbeats 16000000 in
theorem vQ (m:aj) (cs:List Value) (locals:List Int) (lp:Option Addr) (lc:Nat) (stack:List Int) (sq:Option Addr) (sc:Nat) (dead:Bool) (x:cJ) (pt pl:Option Addr) (ct cl:Nat) (w:World) (hm:ay (fun _=>True) w cs m) (hT:kx m) (hl:af (fun _=>True) w (.slice lp locals.length lc) locals) (hsk:af (fun _=>True) w (.slice sq stack.length sc) stack) (hx:FK w x (.slice pt x.types.length ct) (.slice pl x.labels.length cl)) (h0:fu w):Calls G.P 5 #[.agg cs.toArray,.slice lp locals.length lc,.slice sq stack.length sc,.bool dead,.agg #[Value.int .i64 x.op,Value.int .i64 x.a,Value.int .i64 x.b,Value.int .u64 x.n,Value.int .i64 x.kind,Value.int .i64 x.val,Value.int .i64 x.index,Value.slice pt x.types.length ct,Value.slice pl x.labels.length cl]] w fun e w'=>e=.returned (.bool true)∧Ext w w':=by
 have hm0:=hm
 obtain⟨v0,v1,v2,v3,v4,v5,v6,v7,v8,v9,rfl,r0,r1,r2,r3,r4,r5,r6,r7,r8,r9,g0⟩:=hm;obtain⟨p0,c0,rfl,l0⟩:=r0.slice;obtain⟨p1,c1,rfl,l1⟩:=r1.slice;obtain⟨p2,c2,rfl,l2⟩:=r2.slice;obtain⟨p3,c3,rfl,l3⟩:=r3.slice;obtain⟨p4,c4,rfl,l4⟩:=r4.slice;obtain⟨p5,c5,rfl,l5⟩:=r5.slice;obtain⟨p6,c6,rfl,l6⟩:=r6.slice;obtain⟨p7,c7,rfl,l7⟩:=r7.slice;obtain⟨p8,c8,rfl,l8⟩:=r8.slice;obtain⟨p9,c9,rfl,l9⟩:=r9.slice
 refine ae (l:=[.agg (([Value.slice p0 m.types.length c0,Value.slice p1 m.imports.length c1,Value.slice p2 m.funcs.length c2,Value.slice p3 m.tables.length c3,Value.slice p4 m.da.length c4,Value.slice p5 m.globals.length c5,Value.slice p6 m.bh.length c6,Value.bool m.br,Value.int .i64 m.start,Value.slice p7 m.elems.length c7,Value.slice p8 m.bD.length c8,Value.slice p9 m.dI.length c9]:List Value)).toArray,_,_,_,_]) Tryz.func5 rfl Tryz.ntmps5 rfl (Ok.start w) ?_
 refine aZ.lL (fun w'=>af (fun _=>True) w' (.slice sq stack.length sc) stack) (fun w' h=>hsk.aO (show Ext w w' from h (Ext w) ak) (fun _ _ _ h=>h)) ?_
 repeat'(first|refine ar ?_|fail)
 refine aa.box ([Value.slice p0 m.types.length c0,Value.slice p1 m.imports.length c1,Value.slice p2 m.funcs.length c2,Value.slice p3 m.tables.length c3,Value.slice p4 m.da.length c4,Value.slice p5 m.globals.length c5,Value.slice p6 m.bh.length c6,Value.bool m.br,Value.int .i64 m.start,Value.slice p7 m.elems.length c7,Value.slice p8 m.bD.length c8,Value.slice p9 m.dI.length c9]:List Value) rfl rfl rfl fun b5=>?_
 repeat'(first|refine ar ?_|(refine aC fun b_=>?_)|fail)
 obtain⟨bx,rfl⟩:∃y:Nat,y=b_:=⟨_,rfl⟩
 repeat'(first|refine ar ?_|(refine eH fun b_ _=>?_)|fail)
 obtain⟨bb,rfl⟩:∃y:Nat,y=b_:=⟨_,rfl⟩
 refine aa.he (HE.BN (P:=Gl m locals.length [x]) rfl rfl (fun w' hw'=>AU (fun _=>True) m locals [x] ([Value.slice p0 m.types.length c0,Value.slice p1 m.imports.length c1,Value.slice p2 m.funcs.length c2,Value.slice p3 m.tables.length c3,Value.slice p4 m.da.length c4,Value.slice p5 m.globals.length c5,Value.slice p6 m.bh.length c6,Value.bool m.br,Value.int .i64 m.start,Value.slice p7 m.elems.length c7,Value.slice p8 m.bD.length c8,Value.slice p9 m.dI.length c9]:List Value) lp lc (.slice (some ⟨bb,0,none⟩) 1 1) w' (hm0.aO (show Ext w w' from hw'.at) (fun _ _ _ h=>h)) (CK (hw'.m (.aT bb [Value.int .i64 x.op,Value.int .i64 x.a,Value.int .i64 x.b,Value.int .u64 x.n,Value.int .i64 x.kind,Value.int .i64 x.val,Value.int .i64 x.index,Value.slice pt x.types.length ct,Value.slice pl x.labels.length cl] 42) bG).1 (hx.ext hw'.at)))) rfl ?_
 intro fb hfb
 cases fb with
 |false=>
  repeat'(first|refine ar ?_|refine K6 ?_|fail)
  all_goals exact am
 |true=>
  have hLQ:=(hfb rfl).1
  have hll:x.labels.length≤1000:=by have:=((hfb rfl).2.2.2 0 Nat.zero_lt_one).1;have e:ix [x] 0=x:=rfl;rw[e]at this;omega
  by_cases h40:40<stack.length
  ·repeat'(first|refine ar ?_|refine K6 ?_|fail)
   all_goals first|(exfalso;omega)|exact ah.aB rfl rfl fun w' hw'=>⟨rfl,hw'.at⟩
  ·repeat'(first|refine ar ?_|fail)
   all_goals first|(exfalso;omega)|skip
   refine J5 ?_
   rintro⟨B,sv⟩ _
   repeat'(first|refine ar ?_|(refine eH fun b_ _=>?_)|fail)
   obtain⟨bl1,rfl⟩:∃y:Nat,y=b_:=⟨_,rfl⟩
   refine aa.he (HE.bC (M0:=[]) ox.nil rfl rfl (fun w' hw'=>sx (fun k=>k=bl1) [1] (.slice (some ⟨bl1,0,none⟩) 1 1) w' (cZ (hw'.m (.aT bl1 [.int .i64 1] 37) bG).1))) rfl ?_
   rintro⟨cp,sp0,tv0,pv0,bv0,rv0,fv0,DC0,LC0⟩ hg0
   dsimp only[aQ,aS,List.cons_append,List.nil_append]at hg0 ⊢
   repeat'(first|refine ar ?_|(refine eH fun b_ _=>?_)|fail)
   obtain⟨bl2,rfl⟩:∃y:Nat,y=b_:=⟨_,rfl⟩
   refine aa.swap (q:=.aT bl2 [.int .i64 1] 37) (q':=a8.an (A0 [1]) w (fun _=>True) (fun k=>k=bl2) (.slice (some ⟨bl2,0,none⟩) 1 1)) aA (fun _ hk=>hk) (fun w' hb=>An.HN (V:=A0 [1]) (x:=.slice (some ⟨bl2,0,none⟩) 1 1) (A0.fr _) (A0.mo _) (cZ hb)) ?_
   refine aa.he (HE.bF (V:=A0 [1]) (V2:=bY (tU [1])) (tf:=fun y=>.agg (er (tU [1]) y).toArray) (w0:=w) (F:=fun _=>True) (D:=fun k=>k=bl2) (y:=.slice (some ⟨bl2,0,none⟩) 1 1) (bY.fr _) (bY.lt _) (bY.mo _) ak bG (fun _=>aA) rfl rfl (fun w' _ hh=>Bt _ [1] _ w' hh)) rfl ?_
   rintro⟨D1,y1⟩ _
   refine aa.pure (φ:=∃a1 n1 c1 a2 n2 c2 a3 n3 c3 a4 n4 c4 a5 n5 c5,∃z:List rU,y1=⟨⟨.slice a1 n1 c1,.slice a2 n2 c2,.slice a3 n3 c3⟩,.slice a4 n4 c4,.slice a5 n5 c5,z⟩) (fun w' hw'=>bY.sh (hw'.an (V:=bY (tU [1])) (w0:=w) (F:=fun _=>True) (D:=D1) (y:=y1) ak bG)) ?_
   rintro⟨aa1,an1,ac1,aa2,an2,ac2,aa3,an3,ac3,aa4,an4,ac4,aa5,an5,ac5,az,rfl⟩
   dsimp only[er]
   repeat'(first|refine ar ?_|(refine jC fun b_=>?_)|fail)
   obtain⟨b13,rfl⟩:∃y:Nat,y=b_:=⟨_,rfl⟩
   repeat'(first|refine ar ?_|(refine eH fun b_ _=>?_)|fail)
   obtain⟨bl3,rfl⟩:∃y:Nat,y=b_:=⟨_,rfl⟩
   repeat'(first|refine ar ?_|(refine au fun b_=>?_)|fail)
   obtain⟨b14,rfl⟩:∃y:Nat,y=b_:=⟨_,rfl⟩
   refine aa.swap (q:=.aT bl3 [.int .i64 2] 37) (q':=a8.an (dr ⟨[],[2]⟩) w (fun _=>True) (fun k=>k=bl3) (.slice none 0 0,.slice (some ⟨bl3,0,none⟩) 1 1)) aA (fun _ hk=>hk) (fun w' hb=>An.HN (V:=dr ⟨[],[2]⟩) (x:=(.slice none 0 0,.slice (some ⟨bl3,0,none⟩) 1 1)) (dr.fr _) (dr.mo _) ⟨af.bR _ _,cZ hb⟩) ?_
   refine aa.he (HE.bC (M0:=aQ cp (jd [1]) ⟨sp0,tv0,pv0,bv0,rv0,fv0,DC0,LC0⟩) dt rfl rfl (fun w' hw'=>by
    have:=sd (AF (fun _=>True) w (fun k=>k=bl3)) cp (jd [1]) ⟨sp0,tv0,pv0,bv0,rv0,fv0,DC0,LC0⟩ 2 [] [2] (.slice none 0 0,.slice (some ⟨bl3,0,none⟩) 1 1) w' (hw'.IE (V:=dr ⟨[],[2]⟩) (w0:=w) (F:=fun _=>True) (D:=fun k=>k=bl3) (y:=(.slice none 0 0,.slice (some ⟨bl3,0,none⟩) 1 1)) LD ak) hg0 rfl (oP _) (.inl rfl) Mh Mh
    exact this.mono fun _ _ h=>h.xO rfl)) rfl ?_
   rintro⟨sp1,tv1,pv1,bv1,rv1,fv1,DC1,LC1⟩ hg1
   rw[show(fL (jd [1]) 2 [] [2]).1=qk false from rfl]at hg1
   rw[show(fL (jd [1]) 2 [] [2]).1=qk false from rfl]
   try dsimp only at hg1
   dsimp only[aQ,aS,List.cons_append,List.nil_append]
   repeat'(first|refine ar ?_|fail)
   refine aa.rh (V:=bY (tU [1])) (V2:=dr ⟨[],[2]⟩) (w0:=w) (F:=fun _=>True) (D:=D1) (D2:=fun k=>k=bl3) (y:=⟨⟨.slice aa1 an1 ac1,.slice aa2 an2 ac2,.slice aa3 an3 ac3⟩,.slice aa4 an4 ac4,.slice aa5 an5 ac5,az⟩) (y2:=(.slice none 0 0,.slice (some ⟨bl3,0,none⟩) 1 1)) (bY.mo _) (dr.mo _) je je ?_
   refine aa.he (HE.bF (V:=Ex (bY (tU [1])) (dr ⟨[],[2]⟩)) (V2:=fm (bB (qk false),0)) (tf:=fun x=>.tuple #[.agg x.2.toArray,.int .i64 0]) (w0:=w) (F:=fun _=>True) (D:=fun k=>D1 k∨k=bl3) (y:=(⟨⟨.slice aa1 an1 ac1,.slice aa2 an2 ac2,.slice aa3 an3 ac3⟩,.slice aa4 an4 ac4,.slice aa5 an5 ac5,az⟩,(.slice none 0 0,.slice (some ⟨bl3,0,none⟩) 1 1))) (fm.fr _) (fm.lt _) (fm.mo _) ak bG (fun _=>aA) rfl rfl (fun w' _ hh=>by have:=pG _ (tU [1]) ⟨⟨.slice aa1 an1 ac1,.slice aa2 an2 ac2,.slice aa3 an3 ac3⟩,.slice aa4 an4 ac4,.slice aa5 an5 ac5,az⟩ 2 ⟨[],[2]⟩ none (some ⟨bl3,0,none⟩) 0 1 w' hh.1 hh.2 (oP [1]).ao Mh Mh Mh;rw[B5]at this;exact this)) rfl ?_
   rintro⟨D3,y3,l3⟩ _
   refine aa.pure (φ:=∃a1 n1 c1 a2 n2 c2 a3 n3 c3 a4 n4 c4 a5 n5 c5,∃z:List rU,y3=⟨⟨.slice a1 n1 c1,.slice a2 n2 c2,.slice a3 n3 c3⟩,.slice a4 n4 c4,.slice a5 n5 c5,z⟩∧l3=er (bB (qk false)) y3) (fun w' hw'=>by have hv:=hw'.an (V:=fm (bB (qk false),0)) (w0:=w) (F:=fun _=>True) (D:=D3) (y:=(y3,l3)) ak bG;obtain⟨h1,h2⟩:=hv.2 rfl;obtain⟨a1,n1,c1,a2,n2,c2,a3,n3,c3,a4,n4,c4,a5,n5,c5,z,e⟩:=h2.sh;exact⟨a1,n1,c1,a2,n2,c2,a3,n3,c3,a4,n4,c4,a5,n5,c5,z,e,h1⟩) ?_
   rintro⟨da1,dn1,dc1,da2,dn2,dc2,da3,dn3,dc3,da4,dn4,dc4,da5,dn5,dc5,dz,rfl,rfl⟩
   refine aa.nV (V:=fm (bB (qk false),0)) (V2:=bY (bB (qk false))) (w0:=w) (F:=fun _=>True) (D:=D3) (⟨⟨.slice da1 dn1 dc1,.slice da2 dn2 dc2,.slice da3 dn3 dc3⟩,.slice da4 dn4 dc4,.slice da5 dn5 dc5,dz⟩:iP) aA (fun D w h=>(h.2 rfl).2) ?_
   dsimp only[er]
   cases dead
   case' false=>
    repeat'(first|refine ar ?_|fail)
    obtain⟨C2,hc2⟩:∃C2,qk false=C2:=⟨_,rfl⟩
    obtain⟨hk2,hf2,hr2⟩:=om false
    rw[hc2]at hk2 hf2 hr2
    rw[hc2]at hg1
    rw[hc2]
   case' true=>
    repeat'(first|refine ar ?_|fail)
    refine aa.he (HE.bC (M0:=aQ cp (qk false) ⟨sp1,tv1,pv1,bv1,rv1,fv1,DC1,LC1⟩) dt rfl rfl (fun w' hw'=>lC cp (qk false) ⟨sp1,tv1,pv1,bv1,rv1,fv1,DC1,LC1⟩ w' (hw'.cF dM (fun p hp=>absurd hp Mk)) hg1 (om false).1.bk (om false).1.wf)) rfl ?_
    rintro⟨sp1,tv1,pv1,bv1,rv1,fv1,DC1,LC1⟩ hg1
    rw[show gi (qk false)=qk true from rfl]at hg1
    rw[show gi (qk false)=qk true from rfl]
    try dsimp only at hg1
    dsimp only[aQ,aS,List.cons_append,List.nil_append]
    repeat'(first|refine ar ?_|fail)
    refine aa.he (HE.bF (V:=bY (bB (qk false))) (V2:=bY (bB (qk true))) (tf:=fun y=>.agg (er (bB (qk true)) y).toArray) (w0:=w) (F:=fun _=>True) (D:=D3) (y:=⟨⟨.slice da1 dn1 dc1,.slice da2 dn2 dc2,.slice da3 dn3 dc3⟩,.slice da4 dn4 dc4,.slice da5 dn5 dc5,dz⟩) (bY.fr _) (bY.lt _) (bY.mo _) ak bG (fun _=>aA) rfl rfl (fun w' _ hh=>by have:=km _ (bB (qk false)) ⟨⟨.slice da1 dn1 dc1,.slice da2 dn2 dc2,.slice da3 dn3 dc3⟩,.slice da4 dn4 dc4,.slice da5 dn5 dc5,dz⟩ w' hh Mh (om false).1.wf.ao Mh;rw[←qD (qk false) rfl]at this;exact this)) rfl ?_
    rintro⟨D3,y5⟩ _
    refine aa.pure (φ:=∃a1 n1 c1 a2 n2 c2 a3 n3 c3 a4 n4 c4 a5 n5 c5,∃z:List rU,y5=⟨⟨.slice a1 n1 c1,.slice a2 n2 c2,.slice a3 n3 c3⟩,.slice a4 n4 c4,.slice a5 n5 c5,z⟩) (fun w' hw'=>bY.sh (hw'.an (V:=bY (bB (qk true))) (w0:=w) (F:=fun _=>True) (D:=D3) (y:=y5) ak bG)) ?_
    rintro⟨da1,dn1,dc1,da2,dn2,dc2,da3,dn3,dc3,da4,dn4,dc4,da5,dn5,dc5,dz,rfl⟩
    dsimp only[er]
    repeat'(first|refine ar ?_|fail)
    obtain⟨C2,hc2⟩:∃C2,qk true=C2:=⟨_,rfl⟩
    obtain⟨hk2,hf2,hr2⟩:=om true
    rw[hc2]at hk2 hf2 hr2
    rw[hc2]at hg1
    rw[hc2]
   all_goals
    have hk3:=hk2.push stack
    have hB3:GK {C2 with ao:=aJ C2.ao stack} m locals x:=hk3.bounds hT Mh Mj (by show C2.fs.length≤_;omega) (by show C2.results.length≤_;rw[hr2];decide) hll
    have hal:=wL hk3.bk hk3.wf.ok hk3.wf.ao hk3.fit m locals x
    have hkp:=fun he=>wo (K:=17592186043905) ⟨hk3.wf,hk3.bk,hk3.fit,hk3.fr.up Mh,hk3.ts⟩ (m:=m) (locals:=locals) (x:=x) Mh (fun f hf=>by have:=sW hT hf;omega) (by obtain⟨r,hr⟩:∃r,ed m locals x=r:=⟨_,rfl⟩;obtain⟨f,e⟩:=r;have:=vd hT hr;rw[hr];dsimp only;omega) he
    repeat'(first|refine ar ?_|(refine aa.ai (f:=23) ?_;refine aa.aq rfl rfl rfl (fun w' hw'=>fi cp ⟨sp1,0,none⟩ w' (hw'.c1 aA Ml)) ?_)|fail)
    refine aa.he (HE.bC (M0:=aS sp1 C2.ao (tv1,pv1)) dt rfl rfl (fun w' hw'=>fH (fun _=>True) sp1 C2.ao (tv1,pv1) (.slice sq stack.length sc) stack w' (hw'.cF dM aV) hk2.wf.ao.some (by have:=hk2.ts;omega))) rfl ?_
    rintro⟨tvp,pvp⟩ _
    dsimp only[aS,List.cons_append,List.nil_append]
    repeat'(first|refine ar ?_|fail)
    refine aa.he (HE.bF (V:=bY (bB C2)) (V2:=oX (bB C2) ⟨⟨.slice da1 dn1 dc1,.slice da2 dn2 dc2,.slice da3 dn3 dc3⟩,.slice da4 dn4 dc4,.slice da5 dn5 dc5,dz⟩ (aJ C2.ao stack)) (tf:=fun y=>.agg (fI (aJ C2.ao stack) y).toArray) (w0:=w) (F:=fun _=>True) (D:=D3) (y:=⟨⟨.slice da1 dn1 dc1,.slice da2 dn2 dc2,.slice da3 dn3 dc3⟩,.slice da4 dn4 dc4,.slice da5 dn5 dc5,dz⟩) (oX.fr _ _ _) (oX.lt _ _ _) (oX.mo _ _ _) ak bG (fun _=>aA) rfl rfl (fun w' hw' hh=>(iH _ C2.ao ⟨.slice da1 dn1 dc1,.slice da2 dn2 dc2,.slice da3 dn3 dc3⟩ (.slice sq stack.length sc) stack w' hh.1 (jw hsk hw'.at _) (by have:=hk2.ts;omega)).mono fun _ _ hg=>oX.gives hh hg)) rfl ?_
    rintro⟨D6,x6⟩ _
    refine aa.pure (φ:=∃p1 n1 c1 p2 n2 C2 p3 n3 C3,x6=⟨.slice p1 n1 c1,.slice p2 n2 C2,.slice p3 n3 C3⟩) (fun w' hw'=>aY.sh (hw'.an (V:=oX (bB C2) ⟨⟨.slice da1 dn1 dc1,.slice da2 dn2 dc2,.slice da3 dn3 dc3⟩,.slice da4 dn4 dc4,.slice da5 dn5 dc5,dz⟩ (aJ C2.ao stack)) (w0:=w) (F:=fun _=>True) (D:=D6) (y:=x6) ak bG).2) ?_
    rintro⟨g1,u1,i1,g2,u2,i2,g3,u3,i3,rfl⟩
    dsimp only[fI]
    repeat'(first|refine ar ?_|fail)
    refine aa.jf (fQ.gx [.slice g1 u1 i1,.slice g2 u2 i2,.slice g3 u3 i3,.int .i64 (aJ C2.ao stack).bH] [.slice g1 u1 i1,.slice g2 u2 i2,.slice g3 u3 i3,.int .i64 (aJ C2.ao stack).bH,.slice da4 dn4 dc4,.slice da5 dn5 dc5,.int .i64 0] rfl rfl rfl rfl rfl rfl aA rfl rfl) ?_
    rintro⟨⟩ _
    obtain⟨C3,hc3⟩:∃C3,({C2 with ao:=aJ C2.ao stack}:di)=C3:=⟨_,rfl⟩
    refine aa.nV (V:=oX (bB C2) ⟨⟨.slice da1 dn1 dc1,.slice da2 dn2 dc2,.slice da3 dn3 dc3⟩,.slice da4 dn4 dc4,.slice da5 dn5 dc5,dz⟩ (aJ C2.ao stack)) (V2:=bY (bB C3)) (w0:=w) (F:=fun _=>True) (D:=D6) (⟨⟨.slice g1 u1 i1,.slice g2 u2 i2,.slice g3 u3 i3⟩,.slice da4 dn4 dc4,.slice da5 dn5 dc5,dz⟩:iP) aA (fun D w h=>by rw[←hc3];exact oX.put h) ?_
    have hmost:(aJ C2.ao stack).bH=(bB C3).ao.bH:=by rw[←hc3];rfl
    rw[hmost]
    rw[hc3]at hk3 hB3 hal hkp
    have hs3:aS sp1 (aJ C2.ao stack) (tvp,pvp)=aS sp1 C3.ao (tvp,pvp):=by rw[←hc3]
    have hap:=fun D w' (hw':Ext w w') (hD:∀k,D k→k<w'.heap.size) hh=>xw (AF (fun _=>True) w D) C3 ⟨⟨.slice g1 u1 i1,.slice g2 u2 i2,.slice g3 u3 i3⟩,.slice da4 dn4 dc4,.slice da5 dn5 dc5,dz⟩ m ([Value.slice p0 m.types.length c0,Value.slice p1 m.imports.length c1,Value.slice p2 m.funcs.length c2,Value.slice p3 m.tables.length c3,Value.slice p4 m.da.length c4,Value.slice p5 m.globals.length c5,Value.slice p6 m.bh.length c6,Value.bool m.br,Value.int .i64 m.start,Value.slice p7 m.elems.length c7,Value.slice p8 m.bD.length c8,Value.slice p9 m.dI.length c9]:List Value) locals x lp pt pl lc ct cl w' hh (DL hm0 hw' D) (jw hl hw' D) (jw hx.t hw' D) (jw hx.l hw' D) (fun k hk=>hk.elim (fun h=>Nat.lt_of_lt_of_le h.2 hw'.size) (hD k)) hT hk3.wf hk3.wf.ok hk3.bk hB3
    have hgc:iY.Good ⟨sp1,tvp,pvp,bv1,rv1,fv1,DC1,LC1⟩ C3:=by rw[←hc3];exact⟨hg1.len,hg1.fr,hg1.rs⟩
    have hac:=fun w' hw'=>zj B (fun _=>True) cp C3 ⟨sp1,tvp,pvp,bv1,rv1,fv1,DC1,LC1⟩ m locals sv x lp pt pl lc ct cl w' hw' hgc hk3.wf hk3.bk hT hB3
    obtain⟨rC,hrC⟩:∃r,jV C3 m locals x=r:=⟨_,rfl⟩
    obtain⟨rR,hrR⟩:∃r,oa (bB C3) m locals x=r:=⟨_,rfl⟩
    rw[hrC]at hac hal hkp
    rw[hrR]at hap hal
    obtain⟨cC,e⟩:=rC
    obtain⟨cR,e'⟩:=rR
    obtain⟨he1,he2⟩:=hal
    dsimp only at he1 he2 hkp
    subst he1
    obtain⟨hcf,hcr,hcs,hcst⟩:C3.fs=C2.fs∧C3.results=C2.results∧C3.live=C2.live∧C3.broken=C2.broken:=by rw[←hc3];exact⟨rfl,rfl,rfl,rfl⟩
    have hst3:C3.ao=aJ C2.ao stack:=by rw[←hc3]
    rw[←hcf,←hcs,←hcst,←hst3]
    repeat'(first|refine ar ?_|fail)
    by_cases he:e=0
    ·subst he
     obtain rfl:=he2 rfl
     obtain⟨hk4,hr4,hf4,hf5⟩:=hkp rfl
     try dsimp only at hk4 hr4 hf4 hf5
     refine aa.he (HE.bF (V:=bY (bB C3)) (V2:=fm (bB cC,0)) (tf:=fun x=>.tuple #[.agg x.2.toArray,.int .i64 0]) (w0:=w) (F:=fun _=>True) (D:=D6) (y:=⟨⟨.slice g1 u1 i1,.slice g2 u2 i2,.slice g3 u3 i3⟩,.slice da4 dn4 dc4,.slice da5 dn5 dc5,dz⟩) (fm.fr _) (fm.lt _) (fm.mo _) ak bG (fun _=>aA) rfl rfl (fun w' hw' hh=>hap D6 w' hw'.at (hw'.m (a8.an (bY (bB C3)) w (fun _=>True) D6 ⟨⟨.slice g1 u1 i1,.slice g2 u2 i2,.slice g3 u3 i3⟩,.slice da4 dn4 dc4,.slice da5 dn5 dc5,dz⟩) bG).2 hh)) rfl ?_
     rintro⟨D7,y7,l7⟩ _
     refine aa.pure (φ:=∃a1 n1 c1 a2 n2 C2 a3 n3 C3 a4 n4 c4 a5 n5 c5,∃z:List rU,y7=⟨⟨.slice a1 n1 c1,.slice a2 n2 C2,.slice a3 n3 C3⟩,.slice a4 n4 c4,.slice a5 n5 c5,z⟩∧l7=er (bB cC) y7) (fun w' hw'=>by have hv:=hw'.an (V:=fm (bB cC,0)) (w0:=w) (F:=fun _=>True) (D:=D7) (y:=(y7,l7)) ak bG;obtain⟨h1,h2⟩:=hv.2 rfl;obtain⟨a1,n1,c1,a2,n2,C2,a3,n3,C3,a4,n4,c4,a5,n5,c5,z,e⟩:=h2.sh;exact⟨a1,n1,c1,a2,n2,C2,a3,n3,C3,a4,n4,c4,a5,n5,c5,z,e,h1⟩) ?_
     rintro⟨ea1,en1,ec1,ea2,en2,ec2,ea3,en3,ec3,ea4,en4,ec4,ea5,en5,ec5,ez,rfl,rfl⟩
     refine aa.nV (V:=fm (bB cC,0)) (V2:=bY (bB cC)) (w0:=w) (F:=fun _=>True) (D:=D7) (⟨⟨.slice ea1 en1 ec1,.slice ea2 en2 ec2,.slice ea3 en3 ec3⟩,.slice ea4 en4 ec4,.slice ea5 en5 ec5,ez⟩:iP) aA (fun D w h=>(h.2 rfl).2) ?_
     dsimp only[er]
     repeat'(first|refine ar ?_|(refine jC fun b_=>?_)|fail)
     obtain⟨b15,rfl⟩:∃y:Nat,y=b_:=⟨_,rfl⟩
     refine aa.he (HE.bC (M0:=aQ cp C3 ⟨sp1,tvp,pvp,bv1,rv1,fv1,DC1,LC1⟩) dt rfl rfl (fun w' hw'=>(hac w' (C7 (hw'.cF dM (fun _ h=>h)) ak h0 ak hl hx.t hx.l)).mono fun _ _ h=>h.xO rfl)) rfl ?_
     rintro⟨sp7,tv7,pv7,bv7,rv7,fv7,DC7,LC7⟩ hg7
     dsimp only[aQ,aS,List.cons_append,List.nil_append]at hg7 ⊢
     repeat'(first|refine ar ?_|fail)
     have hts4:=hk4.ts
     refine aZ.cT [.aT b15 [.slice ea1 en1 ec1,.slice ea2 en2 ec2,.slice ea3 en3 ec3,.int .i64 (bB cC).ao.bH,.slice ea4 en4 ec4,.slice ea5 en5 ec5,.int .i64 0] uA] [Ext w] bc aV ?_
     repeat'(first|refine og ?_|(refine aP.wW 15 rfl ?_ (hy:=Yl.Hg rfl rfl))|(refine G4 ?_)|(refine av.uR 23 ?_;refine av.FN rfl rfl rfl (HE.dX rfl rfl (fun w' hw'=>fi cp ⟨sp7,0,none⟩ w' (hw'.c1 aA Ml))) (fun _=>bc) (fun _=>aV) ?_;rintro⟨⟩ _)|(refine av.uR 28 ?_;refine av.FN rfl rfl rfl (HE.bC (M0:=[]) ox.nil rfl rfl (fun w' hw'=>AA sp7 cC.ao (tv7,pv7) w' (hw'.cF dM (fun p hp=>absurd hp Mk)) hk4.wf.ao.some Mj)) (fun _=>by dsimp only[List.cons_append,List.nil_append];exact bc) (fun _=>aV) ?_;rintro u _;dsimp only[List.cons_append,List.nil_append])|(refine av.uR 27 ?_;refine av.FN rfl rfl rfl (HE.dX (v:=.bool true) rfl rfl (fun w' hw'=>by have:=zk _ _ cC.ao.ts cC.ao.ts u (.slice ea1 en1 ec1) w' (eQ (hw'.own (B:=0) (T:=fY) (v:=u)) Mj) (hw'.an (V:=bY (bB cC)) (w0:=w) (F:=fun _=>True) (D:=D7) (y:=⟨⟨.slice ea1 en1 ec1,.slice ea2 en2 ec2,.slice ea3 en3 ec3⟩,.slice ea4 en4 ec4,.slice ea5 en5 ec5,ez⟩) ak bG).1.1;rw[decide_eq_true rfl]at this;exact this)) (fun _=>bc) (fun _=>aV) ?_;rintro⟨⟩ _)|(refine av.uR 29 ?_;refine av.FN rfl rfl rfl (HE.dX (v:=.bool cC.live) rfl rfl (fun w' hw'=>AG cp cC ⟨sp7,tv7,pv7,bv7,rv7,fv7,DC7,LC7⟩ w' ((hw'.cF (M':=aQ cp cC ⟨sp7,tv7,pv7,bv7,rv7,fv7,DC7,LC7⟩) dM (fun _ h=>h)).zS (List.Sublist.refl _)) hk4.bk)) (fun _=>bc) (fun _=>aV) ?_;rintro⟨⟩ _)|(refine av.uR 30 ?_;refine av.FN rfl rfl rfl (HE.dX (v:=.bool cC.live) rfl rfl (fun w' hw'=>xT _ cC ⟨⟨.slice ea1 en1 ec1,.slice ea2 en2 ec2,.slice ea3 en3 ec3⟩,.slice ea4 en4 ec4,.slice ea5 en5 ec5,ez⟩ w' (hw'.an (V:=bY (bB cC)) (w0:=w) (F:=fun _=>True) (D:=D7) (y:=⟨⟨.slice ea1 en1 ec1,.slice ea2 en2 ec2,.slice ea3 en3 ec3⟩,.slice ea4 en4 ec4,.slice ea5 en5 ec5,ez⟩) ak bG) hk4.bk (by rw[hcf]at hf5;omega))) (fun _=>bc) (fun _=>aV) ?_;rintro⟨⟩ _)|(refine av.uR 10 ?_;refine av.FN rfl rfl rfl (HE.dX rfl rfl (fun w' hw'=>kl w' (h0.ext hw'.at))) (fun _=>bc) (fun _=>aV) ?_;rintro⟨⟩ _)|refine aP.nil LX ?_|refine aP.any LX ?_|exact aN.fin rfl|refine aN.skip LX ?_|refine aN.go ?_ ?_)
     all_goals
      repeat'(first|refine ar ?_|fail)
      exact am
    ·refine aa.he (HE.bF (V:=bY (bB C3)) (V2:=fm (cR,e)) (tf:=fun x=>.tuple #[.agg x.2.toArray,.int .i64 e]) (w0:=w) (F:=fun _=>True) (D:=D6) (y:=⟨⟨.slice g1 u1 i1,.slice g2 u2 i2,.slice g3 u3 i3⟩,.slice da4 dn4 dc4,.slice da5 dn5 dc5,dz⟩) (fm.fr _) (fm.lt _) (fm.mo _) ak bG (fun _=>aA) rfl rfl (fun w' hw' hh=>hap D6 w' hw'.at (hw'.m (a8.an (bY (bB C3)) w (fun _=>True) D6 ⟨⟨.slice g1 u1 i1,.slice g2 u2 i2,.slice g3 u3 i3⟩,.slice da4 dn4 dc4,.slice da5 dn5 dc5,dz⟩) bG).2 hh)) rfl ?_
     rintro⟨D7,y7,l7⟩ _
     refine aa.pure (φ:=fh l7) (fun w' hw'=>(hw'.an (V:=fm (cR,e)) (w0:=w) (F:=fun _=>True) (D:=D7) (y:=(y7,l7)) ak bG).1) ?_
     rintro⟨q1,q2,q3,q4,q5,q6,q7,q8,q9,q10,q11,q12,q13,q14,q15,q16,q17,rfl⟩
     dsimp only
     repeat'(first|refine ar ?_|(refine jC fun b_=>?_)|fail)
     refine aa.he (HE.bC (M0:=aQ cp C3 ⟨sp1,tvp,pvp,bv1,rv1,fv1,DC1,LC1⟩) dt rfl rfl (fun w' hw'=>(hac w' (C7 (hw'.cF dM (fun _ h=>h)) ak h0 ak hl hx.t hx.l)).mono fun _ _ h=>h.bad (q:=e) rfl he)) rfl ?_
     rintro _ _
     dsimp only[List.nil_append]
     repeat'(first|refine ar ?_|fail)
     refine GT ?_
     refine bQ ?_
     refine aw.kN rfl rfl rfl rfl (fun w' hw'=>kl w' (h0.ext hw'.at)) ?_
     refine bQ ?_
     repeat'(first|refine ar ?_|fail)
     exact am
end Go.Proofs.YtgbgnipidakdhaaGreatDoor
