/- The reference of layer 23: loose (select). Printed by gen_ua.py. -/
import Derived.Test.YtdkcljdfbemnbaaGreatDoorJLz
import Derived.Test.YtdkcljdfbemnbaaGreatDoorJTz
namespace Go.Proofs.YtdkcljdfbemnbaaGreatDoor
open Go.RowKit
set_option maxHeartbeats 16000000
set_option maxRecDepth 100000
theorem uG (F:Nat→Prop) (c:gA) (y:jE) (w:World) (h:cG c F w y) (op:Int) (ho:op=27) (hs:c.ao.Wf) (hb:c.ao.ts.length+1≤17592186044416):Calls G.P 75 #[.agg (eN c y).toArray,.int .i64 op] w (gC (if(aK c.ao [1]).2≠0 then(c,(aK c.ao [1]).2)else if(aY (aK c.ao [1]).1).2.2≠0 then(c,(aY (aK c.ao [1]).1).2.2)else if(aY (aY (aK c.ao [1]).1).1).2.2≠0 then(c,(aY (aY (aK c.ao [1]).1).1).2.2)else if(aY (aK c.ao [1]).1).2.1=3∨(aY (aK c.ao [1]).1).2.1=4∨(aY (aY (aK c.ao [1]).1).1).2.1=3∨(aY (aY (aK c.ao [1]).1).1).2.1=4∨((aY (aK c.ao [1]).1).2.1≠(aY (aY (aK c.ao [1]).1).1).2.1∧(aY (aK c.ao [1]).1).2.1≠0∧(aY (aY (aK c.ao [1]).1).1).2.1≠0)then(c,12)else({c with ao:=aS (aY (aY (aK c.ao [1]).1).1).1 [if(aY (aK c.ao [1]).1).2.1=0 then(aY (aY (aK c.ao [1]).1).1).2.1 else(aY (aK c.ao [1]).1).2.1]},0)) F w):=by
 have:=ho;clear this;have:=hb;clear this
 obtain⟨p1,c1,p2,c2,p3,c3,p4,c4,p5,c5,ey,k4,h4,kz⟩:=h.gx
 obtain⟨y,fv,rv,z⟩:=y
 cases ey
 refine MK ?_
 dsimp only[eN]
 obtain⟨r1,hr1⟩:∃r,aK c.ao [1]=r:=⟨_,rfl⟩
 obtain⟨s1,e1⟩:=r1
 rw[hr1]
 have wf1:s1.Wf:=by have:=dE hs [1];rw[hr1]at this;exact this
 have hts1:s1.ts.length≤c.ao.ts.length:=by have:=dD c.ao [1];rw[hr1]at this;exact this
 dsimp only
 refine ar ?_
 refine aa.box [.slice p1 c.ao.ts.length c1,.slice p2 c.ao.ps.length c2,.slice p3 c.ao.ps.length c3,.int .i64 c.ao.bQ,.slice p4 c.fs.length c4,.slice p5 c.results.length c5,.int .i64 0] rfl rfl rfl fun b2=>?_
 refine aa.alloc (t:=119) [.slice none 0 0,.slice none 0 0,.slice none 0 0,.int .i64 0,.slice none 0 0,.slice none 0 0,.int .i64 0] rfl rfl rfl fun b4=>?_
 repeat'(first|refine ar ?_|(refine NS fun b_=>?_)|(refine bC ?_ ?_<;>intro hc_))
 obtain⟨b6,rfl⟩:∃y:Nat,y=b_:=⟨_,rfl⟩
 by_cases he1:e1=0
 ·subst he1
  rw[if_neg (fun h=>h rfl)]
  refine bh.cF [.aV b6 [.slice p1 c.ao.ts.length c1,.slice p2 c.ao.ps.length c2,.slice p3 c.ao.ps.length c3,.int .i64 c.ao.bQ] nR] [Ext w] bw aU ?_
  refine aN.zM (α:=Nat×(Nat→Prop)×Option Addr×Nat×Option Addr×Nat×Option Addr×Nat) (fun y=>[(1,.int .i64 op),(2,.pointer (some ⟨b2,0,none⟩)),(4,.pointer (some ⟨b4,0,none⟩)),(5,.int .i64 0),(6,.pointer (some ⟨b6,0,none⟩)),(7,.pointer (some ⟨y.1,0,none⟩)),(8,.int .i64 0)]) (fun y=>[.aV y.1 [.slice y.2.2.1 s1.ts.length y.2.2.2.1,.slice y.2.2.2.2.1 s1.ps.length y.2.2.2.2.2.1,.slice y.2.2.2.2.2.2.1 s1.ps.length y.2.2.2.2.2.2.2,.int .i64 s1.bQ] nR,.aV b6 [.slice p1 c.ao.ts.length c1,.slice p2 c.ao.ps.length c2,.slice p3 c.ao.ps.length c3,.int .i64 c.ao.bQ] nR,.aV b4 [.slice none 0 0,.slice none 0 0,.slice none 0 0,.int .i64 0,.slice none 0 0,.slice none 0 0,.int .i64 0] 119,.aV b2 [.slice p1 c.ao.ts.length c1,.slice p2 c.ao.ps.length c2,.slice p3 c.ao.ps.length c3,.int .i64 c.ao.bQ,.slice p4 c.fs.length c4,.slice p5 c.results.length c5,.int .i64 0] 119,bu.an (bz s1) w F y.2.1 ⟨.slice y.2.2.1 s1.ts.length y.2.2.2.1,.slice y.2.2.2.2.1 s1.ps.length y.2.2.2.2.2.1,.slice y.2.2.2.2.2.2.1 s1.ps.length y.2.2.2.2.2.2.2⟩]) (fun _=>[Ext w]) ?_ fun hrest=>?_
  rotate_left
  ·repeat'(first|refine pG ?_|(refine ax.lD ?_;refine ax.he rfl rfl (HE.jJ rfl rfl rfl rfl rfl ep Pe Pe) (fun _=>bw) (fun _=>aU) ?_;rintro bl _)|(refine ax.dz 118 ?_;refine ax.he rfl rfl (HE.eK rfl rfl (fun w' hw'=>gq _ _ _ w')) (fun _=>bw) (fun _=>aU) ?_;rintro⟨⟩ _)|(refine ax.dz 111 ?_;refine ax.he rfl rfl (HE.bV (V:=bz c.ao) (V2:=bz s1) (w0:=w) (F:=F) (D:=(fun _=>False)) (y:=⟨.slice p1 c.ao.ts.length c1,.slice p2 c.ao.ps.length c2,.slice p3 c.ao.ps.length c3⟩) (bz.fr _) (bz.lt _) (bz.mo _) ak bO (fun _=>aH) rfl rfl (fun w' hw' hh=>by have:=eZ _ _ c.ao ⟨.slice p1 c.ao.ts.length c1,.slice p2 c.ao.ps.length c2,.slice p3 c.ao.ps.length c3⟩ (.slice (some ⟨bl,0,none⟩) 1 1) [1] w' hh (dJ (hw'.m (.aV bl [.int .i64 1] fT) bO).1) hs.some hs.at_.1 hs.at_.2;rw[hr1]at this;exact this.mono fun _ _ g=>oK.to g)) (fun _=>bw) (fun _=>aU) ?_;rintro⟨D1,x1⟩ _;refine aN.pure (φ:=∃q1 d1 q2 d2 q3 d3,x1=⟨.slice q1 s1.ts.length d1,.slice q2 s1.ps.length d2,.slice q3 s1.ps.length d3⟩) (fun w' hw'=>by obtain⟨q1,d1,q2,d2,q3,d3,e,-⟩:=(hw'.an (V:=bz s1) (w0:=w) (F:=F) (D:=D1) (y:=x1) ak bO).gx;exact⟨q1,d1,q2,d2,q3,d3,e⟩) ?_;rintro⟨r1,rc1,r2,rc2,r3,rc3,rfl⟩;dsimp only[gw])|(refine ax.yb nR ?_;refine ax.he rfl rfl (HE.alloc (t:=nR) [.slice none 0 0,.slice none 0 0,.slice none 0 0,.int .i64 0] rfl rfl) (fun _=>bw) (fun _=>aU) ?_;intro b7 _)|(refine ax.nf ?_;refine ax.jQ rfl (gj.bn _ rfl rfl rfl rfl rfl rfl aH rfl) (fun _=>bw) (fun _=>aU) ?_;rintro⟨⟩ _)|refine aN.nil O3 ?_|refine aN.any O3 ?_|exact aB.fin rfl|refine aB.skip O3 ?_|refine aB.go ?_ ?_)
   all_goals exact ah.dc (hrest (b7,D1,r1,rc1,r2,rc2,r3,rc3)) bH dU aU
  ·rintro⟨b7,D1,r1,rc1,r2,rc2,r3,rc3⟩
   dsimp only
   repeat'(first|refine ar ?_|(refine bC ?_ ?_<;>intro hc_))
   refine aa.he (HE.bV (V:=bz s1) (V2:=bz (aY s1).1) (tf:=fun y=>.tuple #[.agg (gw (aY s1).1 y).toArray,.int .i64 (aY s1).2.1,.int .i64 (aY s1).2.2]) (w0:=w) (F:=F) (D:=D1) (y:=⟨.slice r1 s1.ts.length rc1,.slice r2 s1.ps.length rc2,.slice r3 s1.ps.length rc3⟩) (bz.fr _) (bz.lt _) (bz.mo _) ak bO (fun _=>aH) rfl rfl (fun w' _ hh=>kJ _ s1 ⟨.slice r1 s1.ts.length rc1,.slice r2 s1.ps.length rc2,.slice r3 s1.ps.length rc3⟩ w' hh wf1.some wf1.at_.1)) rfl ?_
   rintro⟨D2,x2⟩ _
   obtain⟨pr2,hpr2⟩:∃r,aY s1=r:=⟨_,rfl⟩
   rw[hpr2]
   have za:pr2.1.Wf:=by rw[←hpr2];exact jn wf1
   have pl2:pr2.1.ts.length≤s1.ts.length:=by rw[←hpr2];exact jO s1
   obtain⟨s2,a2,e2⟩:=pr2
   dsimp only at za pl2 ⊢
   refine aa.pure (φ:=∃q1 d1 q2 d2 q3 d3,x2=⟨.slice q1 s2.ts.length d1,.slice q2 s2.ps.length d2,.slice q3 s2.ps.length d3⟩) (fun w' hw'=>by obtain⟨q1,d1,q2,d2,q3,d3,e,-⟩:=(hw'.an (V:=bz s2) (w0:=w) (F:=F) (D:=D2) (y:=x2) ak bO).gx;exact⟨q1,d1,q2,d2,q3,d3,e⟩) ?_
   rintro⟨g1,gc1,g2,gc2,g3,gc3,rfl⟩
   dsimp only[gw]
   by_cases he2:e2=0
   ·subst he2
    rw[if_neg (fun h=>h rfl)]
    repeat'(first|refine ar ?_|(refine bC ?_ ?_<;>intro hc_))
    refine aa.he (HE.bV (V:=bz s2) (V2:=bz (aY s2).1) (tf:=fun y=>.tuple #[.agg (gw (aY s2).1 y).toArray,.int .i64 (aY s2).2.1,.int .i64 (aY s2).2.2]) (w0:=w) (F:=F) (D:=D2) (y:=⟨.slice g1 s2.ts.length gc1,.slice g2 s2.ps.length gc2,.slice g3 s2.ps.length gc3⟩) (bz.fr _) (bz.lt _) (bz.mo _) ak bO (fun _=>aH) rfl rfl (fun w' _ hh=>kJ _ s2 ⟨.slice g1 s2.ts.length gc1,.slice g2 s2.ps.length gc2,.slice g3 s2.ps.length gc3⟩ w' hh za.some za.at_.1)) rfl ?_
    rintro⟨D3,x3⟩ _
    obtain⟨pr3,hpr3⟩:∃r,aY s2=r:=⟨_,rfl⟩
    rw[hpr3]
    have wf3:pr3.1.Wf:=by rw[←hpr3];exact jn za
    have pl3:pr3.1.ts.length≤s2.ts.length:=by rw[←hpr3];exact jO s2
    obtain⟨s3,a3,e3⟩:=pr3
    dsimp only at wf3 pl3 ⊢
    refine aa.pure (φ:=∃q1 d1 q2 d2 q3 d3,x3=⟨.slice q1 s3.ts.length d1,.slice q2 s3.ps.length d2,.slice q3 s3.ps.length d3⟩) (fun w' hw'=>by obtain⟨q1,d1,q2,d2,q3,d3,e,-⟩:=(hw'.an (V:=bz s3) (w0:=w) (F:=F) (D:=D3) (y:=x3) ak bO).gx;exact⟨q1,d1,q2,d2,q3,d3,e⟩) ?_
    rintro⟨m1,mc1,m2,mc2,m3,mc3,rfl⟩
    dsimp only[gw]
    by_cases he3:e3=0
    ·subst he3
     rw[if_neg (fun h=>h rfl)]
     by_cases hbad:a2=3∨a2=4∨a3=3∨a3=4∨(a2≠a3∧a2≠0∧a3≠0)
     ·rw[if_pos hbad]
      repeat'(first|refine ar ?_|(refine bC ?_ ?_<;>intro hc_))
      all_goals exact rt
     ·rw[if_neg hbad]
      have n1:a2≠3:=fun h=>hbad (.inl h)
      have n2:a2≠4:=fun h=>hbad (.inr (.inl h))
      have n3:a3≠3:=fun h=>hbad (.inr (.inr (.inl h)))
      have n4:a3≠4:=fun h=>hbad (.inr (.inr (.inr (.inl h))))
      have n5:a2=a3∨a2=0∨a3=0:=by
       by_cases q1:a2=a3
       ·exact .inl q1
       by_cases q2:a2=0
       ·exact .inr (.inl q2)
       by_cases q3:a3=0
       ·exact .inr (.inr q3)
       exact absurd (.inr (.inr (.inr (.inr ⟨q1,q2,q3⟩)))) hbad
      by_cases ha0:a2=0
      ·rw[if_pos ha0]
       repeat'(first|refine ar ?_|(refine bC ?_ ?_<;>intro hc_))
       all_goals first|omega|skip
       all_goals
        refine bh.iA 6 [.aV b6 [.slice m1 s3.ts.length mc1,.slice m2 s3.ps.length mc2,.slice m3 s3.ps.length mc3,.int .i64 s3.bQ] nR] [Ext w] bw aU ?_
        repeat'(first|refine CV ?_|(refine bA.lD ?_;refine bA.he rfl rfl (HE.jJ rfl rfl rfl rfl rfl ep Pe Pe) (fun _=>bw) (fun _=>aU) ?_;rintro bl _)|(refine bA.dz 118 ?_;refine bA.he rfl rfl (HE.eK rfl rfl (fun w' hw'=>gq _ _ _ w')) (fun _=>bw) (fun _=>aU) ?_;rintro⟨⟩ _)|(refine bA.dz 113 ?_;refine bA.he rfl rfl (HE.bV (V:=bz s3) (V2:=bz (aS s3 [a3])) (tf:=fun y=>.agg (gw (aS s3 [a3]) y).toArray) (w0:=w) (F:=F) (D:=D3) (y:=⟨.slice m1 s3.ts.length mc1,.slice m2 s3.ps.length mc2,.slice m3 s3.ps.length mc3⟩) (bz.fr _) (bz.lt _) (bz.mo _) ak bO (fun _=>aH) rfl rfl (fun w' hw' hh=>ow _ (fun k=>k=bl) s3 ⟨.slice m1 s3.ts.length mc1,.slice m2 s3.ps.length mc2,.slice m3 s3.ps.length mc3⟩ (.slice (some ⟨bl,0,none⟩) 1 1) [a3] w' hh (dJ (a:=a3) (T:=fT) (by have g:=(hw'.m (.aV bl _ fT) bO).1;exact g)) (by show s3.ts.length+1≤_;omega))) (fun _=>bw) (fun _=>aU) ?_;rintro⟨D9,x9⟩ _;refine db.pure (φ:=∃q1 d1 q2 d2 q3 d3,x9=⟨.slice q1 (aS s3 [a3]).ts.length d1,.slice q2 (aS s3 [a3]).ps.length d2,.slice q3 (aS s3 [a3]).ps.length d3⟩) (fun w' hw'=>by obtain⟨q1,d1,q2,d2,q3,d3,e,-⟩:=(hw'.an (V:=bz (aS s3 [a3])) (w0:=w) (F:=F) (D:=D9) (y:=x9) ak bO).gx;exact⟨q1,d1,q2,d2,q3,d3,e⟩) ?_;rintro⟨v1,vc1,v2,vc2,v3,vc3,rfl⟩;dsimp only[gw])|(refine bA.iM rfl (gj.ir [.slice v1 (aS s3 [a3]).ts.length vc1,.slice v2 (aS s3 [a3]).ps.length vc2,.slice v3 (aS s3 [a3]).ps.length vc3,.int .i64 (aS s3 [a3]).bQ] [.slice v1 (aS s3 [a3]).ts.length vc1,.slice v2 (aS s3 [a3]).ps.length vc2,.slice v3 (aS s3 [a3]).ps.length vc3,.int .i64 (aS s3 [a3]).bQ,.slice p4 c.fs.length c4,.slice p5 c.results.length c5,.int .i64 0] rfl rfl rfl rfl rfl rfl aH rfl rfl) ?_;rintro⟨⟩ _)|refine db.any O3 ?_|exact cw.fin rfl|refine cw.skip O3 ?_|refine cw.go ?_ ?_)
        all_goals
         repeat'(first|refine ar ?_|(refine bC ?_ ?_<;>intro hc_))
         refine Mv ?_
         exact fun w' hw'=>gC.ao (s:=(aS s3 [a3])) (D:=D9) ⟨.slice v1 (aS s3 [a3]).ts.length vc1,.slice v2 (aS s3 [a3]).ps.length vc2,.slice v3 (aS s3 [a3]).ps.length vc3⟩ h hw' ak bO
      ·rw[if_neg ha0]
       repeat'(first|refine ar ?_|(refine bC ?_ ?_<;>intro hc_))
       all_goals first|omega|skip
       all_goals
        refine bh.iA 6 [.aV b6 [.slice m1 s3.ts.length mc1,.slice m2 s3.ps.length mc2,.slice m3 s3.ps.length mc3,.int .i64 s3.bQ] nR] [Ext w] bw aU ?_
        repeat'(first|refine CV ?_|(refine bA.lD ?_;refine bA.he rfl rfl (HE.jJ rfl rfl rfl rfl rfl ep Pe Pe) (fun _=>bw) (fun _=>aU) ?_;rintro bl _)|(refine bA.dz 118 ?_;refine bA.he rfl rfl (HE.eK rfl rfl (fun w' hw'=>gq _ _ _ w')) (fun _=>bw) (fun _=>aU) ?_;rintro⟨⟩ _)|(refine bA.dz 113 ?_;refine bA.he rfl rfl (HE.bV (V:=bz s3) (V2:=bz (aS s3 [a2])) (tf:=fun y=>.agg (gw (aS s3 [a2]) y).toArray) (w0:=w) (F:=F) (D:=D3) (y:=⟨.slice m1 s3.ts.length mc1,.slice m2 s3.ps.length mc2,.slice m3 s3.ps.length mc3⟩) (bz.fr _) (bz.lt _) (bz.mo _) ak bO (fun _=>aH) rfl rfl (fun w' hw' hh=>ow _ (fun k=>k=bl) s3 ⟨.slice m1 s3.ts.length mc1,.slice m2 s3.ps.length mc2,.slice m3 s3.ps.length mc3⟩ (.slice (some ⟨bl,0,none⟩) 1 1) [a2] w' hh (dJ (a:=a2) (T:=fT) (by have g:=(hw'.m (.aV bl _ fT) bO).1;exact g)) (by show s3.ts.length+1≤_;omega))) (fun _=>bw) (fun _=>aU) ?_;rintro⟨D9,x9⟩ _;refine db.pure (φ:=∃q1 d1 q2 d2 q3 d3,x9=⟨.slice q1 (aS s3 [a2]).ts.length d1,.slice q2 (aS s3 [a2]).ps.length d2,.slice q3 (aS s3 [a2]).ps.length d3⟩) (fun w' hw'=>by obtain⟨q1,d1,q2,d2,q3,d3,e,-⟩:=(hw'.an (V:=bz (aS s3 [a2])) (w0:=w) (F:=F) (D:=D9) (y:=x9) ak bO).gx;exact⟨q1,d1,q2,d2,q3,d3,e⟩) ?_;rintro⟨v1,vc1,v2,vc2,v3,vc3,rfl⟩;dsimp only[gw])|(refine bA.iM rfl (gj.ir [.slice v1 (aS s3 [a2]).ts.length vc1,.slice v2 (aS s3 [a2]).ps.length vc2,.slice v3 (aS s3 [a2]).ps.length vc3,.int .i64 (aS s3 [a2]).bQ] [.slice v1 (aS s3 [a2]).ts.length vc1,.slice v2 (aS s3 [a2]).ps.length vc2,.slice v3 (aS s3 [a2]).ps.length vc3,.int .i64 (aS s3 [a2]).bQ,.slice p4 c.fs.length c4,.slice p5 c.results.length c5,.int .i64 0] rfl rfl rfl rfl rfl rfl aH rfl rfl) ?_;rintro⟨⟩ _)|refine db.any O3 ?_|exact cw.fin rfl|refine cw.skip O3 ?_|refine cw.go ?_ ?_)
        all_goals
         repeat'(first|refine ar ?_|(refine bC ?_ ?_<;>intro hc_))
         refine Mv ?_
         exact fun w' hw'=>gC.ao (s:=(aS s3 [a2])) (D:=D9) ⟨.slice v1 (aS s3 [a2]).ts.length vc1,.slice v2 (aS s3 [a2]).ps.length vc2,.slice v3 (aS s3 [a2]).ps.length vc3⟩ h hw' ak bO
    ·rw[if_pos he3]
     repeat'(first|refine ar ?_|(refine bC ?_ ?_<;>intro hc_))
     all_goals exact rt
   ·rw[if_pos he2]
    repeat'(first|refine ar ?_|(refine bC ?_ ?_<;>intro hc_))
    all_goals exact rt
 ·rw[if_pos he1]
  refine bh.cF [.aV b6 [.slice p1 c.ao.ts.length c1,.slice p2 c.ao.ps.length c2,.slice p3 c.ao.ps.length c3,.int .i64 c.ao.bQ] nR] [Ext w] bw aU ?_
  repeat'(first|refine pG ?_|(refine ax.lD ?_;refine ax.he rfl rfl (HE.jJ rfl rfl rfl rfl rfl ep Pe Pe) (fun _=>bw) (fun _=>aU) ?_;rintro bl _)|(refine ax.dz 118 ?_;refine ax.he rfl rfl (HE.eK rfl rfl (fun w' hw'=>gq _ _ _ w')) (fun _=>bw) (fun _=>aU) ?_;rintro⟨⟩ _)|(refine ax.dz 111 ?_;refine ax.he rfl rfl (HE.bV (V:=bz c.ao) (V2:=ky) (w0:=w) (F:=F) (D:=(fun _=>False)) (y:=⟨.slice p1 c.ao.ts.length c1,.slice p2 c.ao.ps.length c2,.slice p3 c.ao.ps.length c3⟩) ky.fr ky.lt ky.mo ak bO (fun _=>aH) rfl rfl (fun w' hw' hh=>by have:=eZ _ _ c.ao ⟨.slice p1 c.ao.ts.length c1,.slice p2 c.ao.ps.length c2,.slice p3 c.ao.ps.length c3⟩ (.slice (some ⟨bl,0,none⟩) 1 1) [1] w' hh (dJ (hw'.m (.aV bl [.int .i64 1] fT) bO).1) hs.some hs.at_.1 hs.at_.2;rw[hr1]at this;exact this.mono fun _ _ g=>oK.qW g)) (fun _=>bw) (fun _=>aU) ?_;rintro⟨D1,x1⟩ _;refine aN.pure (φ:=jV.Sl x1) (fun w' hw'=>hw'.an (V:=ky) (w0:=w) (F:=F) (D:=D1) (y:=x1) ak bO) ?_;rintro⟨q1,n1,d1,q2,n2,d2,q3,n3,d3,rfl⟩;dsimp only[gw])|(refine ax.yb nR ?_;refine ax.he rfl rfl (HE.alloc (t:=nR) [.slice none 0 0,.slice none 0 0,.slice none 0 0,.int .i64 0] rfl rfl) (fun _=>bw) (fun _=>aU) ?_;intro b7 _)|(refine ax.nf ?_;refine ax.jQ rfl (gj.bn _ rfl rfl rfl rfl rfl rfl aH rfl) (fun _=>bw) (fun _=>aU) ?_;rintro⟨⟩ _)|refine aN.nil O3 ?_|refine aN.any O3 ?_|exact aB.fin rfl|refine aB.skip O3 ?_|refine aB.go ?_ ?_)
  all_goals
   repeat'(first|refine ar ?_|(refine bC ?_ ?_<;>intro hc_))
   all_goals exact rt
def Bn (c:gA) (op:Int):gA×Int:=({c with ao:=(ia c.ao op).1},(ia c.ao op).2)
end Go.Proofs.YtdkcljdfbemnbaaGreatDoor
