import Derived.Test.YtdkcljdfbemnbaaGreatDoorJUg
import Derived.Test.YtdkcljdfbemnbaaGreatDoorJAa
namespace Go.Proofs.YtdkcljdfbemnbaaGreatDoor
open Go.RowKit
set_option maxHeartbeats 16000000
set_option maxRecDepth 100000
theorem uL (F:Nat→Prop) (c:gA) (y:jC) (w:World) (h:cG c F w y) (op:Int) (ho:op=27) (hs:c.ao.Wf) (hb:c.ao.ts.length+1≤17592186044416):Calls G.P 75 #[.agg (eO c y).toArray,.int .i64 op] w (gG (if(aL c.ao [1]).2≠0 then(c,(aL c.ao [1]).2)else if(aZ (aL c.ao [1]).1).2.2≠0 then(c,(aZ (aL c.ao [1]).1).2.2)else if(aZ (aZ (aL c.ao [1]).1).1).2.2≠0 then(c,(aZ (aZ (aL c.ao [1]).1).1).2.2)else if(aZ (aL c.ao [1]).1).2.1=3∨(aZ (aL c.ao [1]).1).2.1=4∨(aZ (aZ (aL c.ao [1]).1).1).2.1=3∨(aZ (aZ (aL c.ao [1]).1).1).2.1=4∨((aZ (aL c.ao [1]).1).2.1≠(aZ (aZ (aL c.ao [1]).1).1).2.1∧(aZ (aL c.ao [1]).1).2.1≠0∧(aZ (aZ (aL c.ao [1]).1).1).2.1≠0)then(c,12)else({c with ao:=aS (aZ (aZ (aL c.ao [1]).1).1).1 [if(aZ (aL c.ao [1]).1).2.1=0 then(aZ (aZ (aL c.ao [1]).1).1).2.1 else(aZ (aL c.ao [1]).1).2.1]},0)) F w):=by
 have:=ho;clear this;have:=hb;clear this
 obtain⟨p1,c1,p2,c2,p3,c3,p4,c4,p5,c5,ey,k4,h4,kz⟩:=h.gx
 obtain⟨y,fv,rv,z⟩:=y
 cases ey
 refine MO ?_
 dsimp only[eO]
 obtain⟨r1,hr1⟩:∃r,aL c.ao [1]=r:=⟨_,rfl⟩
 obtain⟨s1,e1⟩:=r1
 rw[hr1]
 have wf1:s1.Wf:=by have:=dE hs [1];rw[hr1]at this;exact this
 have hts1:s1.ts.length≤c.ao.ts.length:=by have:=dD c.ao [1];rw[hr1]at this;exact this
 dsimp only
 refine ar ?_
 refine aa.box [.slice p1 c.ao.ts.length c1,.slice p2 c.ao.ps.length c2,.slice p3 c.ao.ps.length c3,.int .i64 c.ao.bR,.slice p4 c.fs.length c4,.slice p5 c.results.length c5,.int .i64 0] rfl rfl rfl fun b2=>?_
 refine aa.alloc (t:=119) [.slice none 0 0,.slice none 0 0,.slice none 0 0,.int .i64 0,.slice none 0 0,.slice none 0 0,.int .i64 0] rfl rfl rfl fun b4=>?_
 repeat'(first|refine ar ?_|(refine NY fun b_=>?_)|(refine bC ?_ ?_<;>intro hc_))
 obtain⟨b6,rfl⟩:∃y:Nat,y=b_:=⟨_,rfl⟩
 by_cases he1:e1=0
 ·subst he1
  rw[if_neg (fun h=>h rfl)]
  refine bh.cI [.aW b6 [.slice p1 c.ao.ts.length c1,.slice p2 c.ao.ps.length c2,.slice p3 c.ao.ps.length c3,.int .i64 c.ao.bR] nZ] [Ext w] bz aU ?_
  refine aP.zR (α:=Nat×(Nat→Prop)×Option Addr×Nat×Option Addr×Nat×Option Addr×Nat) (fun y=>[(1,.int .i64 op),(2,.pointer (some ⟨b2,0,none⟩)),(4,.pointer (some ⟨b4,0,none⟩)),(5,.int .i64 0),(6,.pointer (some ⟨b6,0,none⟩)),(7,.pointer (some ⟨y.1,0,none⟩)),(8,.int .i64 0)]) (fun y=>[.aW y.1 [.slice y.2.2.1 s1.ts.length y.2.2.2.1,.slice y.2.2.2.2.1 s1.ps.length y.2.2.2.2.2.1,.slice y.2.2.2.2.2.2.1 s1.ps.length y.2.2.2.2.2.2.2,.int .i64 s1.bR] nZ,.aW b6 [.slice p1 c.ao.ts.length c1,.slice p2 c.ao.ps.length c2,.slice p3 c.ao.ps.length c3,.int .i64 c.ao.bR] nZ,.aW b4 [.slice none 0 0,.slice none 0 0,.slice none 0 0,.int .i64 0,.slice none 0 0,.slice none 0 0,.int .i64 0] 119,.aW b2 [.slice p1 c.ao.ts.length c1,.slice p2 c.ao.ps.length c2,.slice p3 c.ao.ps.length c3,.int .i64 c.ao.bR,.slice p4 c.fs.length c4,.slice p5 c.results.length c5,.int .i64 0] 119,bu.an (bw s1) w F y.2.1 ⟨.slice y.2.2.1 s1.ts.length y.2.2.2.1,.slice y.2.2.2.2.1 s1.ps.length y.2.2.2.2.2.1,.slice y.2.2.2.2.2.2.1 s1.ps.length y.2.2.2.2.2.2.2⟩]) (fun _=>[Ext w]) ?_ fun hrest=>?_
  rotate_left
  ·repeat'(first|refine pN ?_|(refine ax.lD ?_;refine ax.he rfl rfl (HE.jG rfl rfl rfl rfl rfl er Pk Pk) (fun _=>bz) (fun _=>aU) ?_;rintro bl _)|(refine ax.dA 118 ?_;refine ax.he rfl rfl (HE.eU rfl rfl (fun w' hw'=>gq _ _ _ w')) (fun _=>bz) (fun _=>aU) ?_;rintro⟨⟩ _)|(refine ax.dA 111 ?_;refine ax.he rfl rfl (HE.bV (V:=bw c.ao) (V2:=bw s1) (w0:=w) (F:=F) (D:=(fun _=>False)) (y:=⟨.slice p1 c.ao.ts.length c1,.slice p2 c.ao.ps.length c2,.slice p3 c.ao.ps.length c3⟩) (bw.fr _) (bw.lt _) (bw.mo _) ak bO (fun _=>aH) rfl rfl (fun w' hw' hh=>by have:=fa _ _ c.ao ⟨.slice p1 c.ao.ts.length c1,.slice p2 c.ao.ps.length c2,.slice p3 c.ao.ps.length c3⟩ (.slice (some ⟨bl,0,none⟩) 1 1) [1] w' hh (dJ (hw'.m (.aW bl [.int .i64 1] fR) bO).1) hs.some hs.at_.1 hs.at_.2;rw[hr1]at this;exact this.mono fun _ _ g=>oS.to g)) (fun _=>bz) (fun _=>aU) ?_;rintro⟨D1,x1⟩ _;refine aP.pure (φ:=∃q1 d1 q2 d2 q3 d3,x1=⟨.slice q1 s1.ts.length d1,.slice q2 s1.ps.length d2,.slice q3 s1.ps.length d3⟩) (fun w' hw'=>by obtain⟨q1,d1,q2,d2,q3,d3,e,-⟩:=(hw'.an (V:=bw s1) (w0:=w) (F:=F) (D:=D1) (y:=x1) ak bO).gx;exact⟨q1,d1,q2,d2,q3,d3,e⟩) ?_;rintro⟨r1,rc1,r2,rc2,r3,rc3,rfl⟩;dsimp only[gw])|(refine ax.yf nZ ?_;refine ax.he rfl rfl (HE.alloc (t:=nZ) [.slice none 0 0,.slice none 0 0,.slice none 0 0,.int .i64 0] rfl rfl) (fun _=>bz) (fun _=>aU) ?_;intro b7 _)|(refine ax.nj ?_;refine ax.jO rfl (gj.bn _ rfl rfl rfl rfl rfl rfl aH rfl) (fun _=>bz) (fun _=>aU) ?_;rintro⟨⟩ _)|refine aP.nil O9 ?_|refine aP.any O9 ?_|exact aB.fin rfl|refine aB.skip O9 ?_|refine aB.go ?_ ?_)
   all_goals exact ah.dc (hrest (b7,D1,r1,rc1,r2,rc2,r3,rc3)) bH dV aU
  ·rintro⟨b7,D1,r1,rc1,r2,rc2,r3,rc3⟩
   dsimp only
   repeat'(first|refine ar ?_|(refine bC ?_ ?_<;>intro hc_))
   refine aa.he (HE.bV (V:=bw s1) (V2:=bw (aZ s1).1) (tf:=fun y=>.tuple #[.agg (gw (aZ s1).1 y).toArray,.int .i64 (aZ s1).2.1,.int .i64 (aZ s1).2.2]) (w0:=w) (F:=F) (D:=D1) (y:=⟨.slice r1 s1.ts.length rc1,.slice r2 s1.ps.length rc2,.slice r3 s1.ps.length rc3⟩) (bw.fr _) (bw.lt _) (bw.mo _) ak bO (fun _=>aH) rfl rfl (fun w' _ hh=>kK _ s1 ⟨.slice r1 s1.ts.length rc1,.slice r2 s1.ps.length rc2,.slice r3 s1.ps.length rc3⟩ w' hh wf1.some wf1.at_.1)) rfl ?_
   rintro⟨D2,x2⟩ _
   obtain⟨pr2,hpr2⟩:∃r,aZ s1=r:=⟨_,rfl⟩
   rw[hpr2]
   have zf:pr2.1.Wf:=by rw[←hpr2];exact jm wf1
   have pl2:pr2.1.ts.length≤s1.ts.length:=by rw[←hpr2];exact jM s1
   obtain⟨s2,a2,e2⟩:=pr2
   dsimp only at zf pl2 ⊢
   refine aa.pure (φ:=∃q1 d1 q2 d2 q3 d3,x2=⟨.slice q1 s2.ts.length d1,.slice q2 s2.ps.length d2,.slice q3 s2.ps.length d3⟩) (fun w' hw'=>by obtain⟨q1,d1,q2,d2,q3,d3,e,-⟩:=(hw'.an (V:=bw s2) (w0:=w) (F:=F) (D:=D2) (y:=x2) ak bO).gx;exact⟨q1,d1,q2,d2,q3,d3,e⟩) ?_
   rintro⟨g1,gc1,g2,gc2,g3,gc3,rfl⟩
   dsimp only[gw]
   by_cases he2:e2=0
   ·subst he2
    rw[if_neg (fun h=>h rfl)]
    repeat'(first|refine ar ?_|(refine bC ?_ ?_<;>intro hc_))
    refine aa.he (HE.bV (V:=bw s2) (V2:=bw (aZ s2).1) (tf:=fun y=>.tuple #[.agg (gw (aZ s2).1 y).toArray,.int .i64 (aZ s2).2.1,.int .i64 (aZ s2).2.2]) (w0:=w) (F:=F) (D:=D2) (y:=⟨.slice g1 s2.ts.length gc1,.slice g2 s2.ps.length gc2,.slice g3 s2.ps.length gc3⟩) (bw.fr _) (bw.lt _) (bw.mo _) ak bO (fun _=>aH) rfl rfl (fun w' _ hh=>kK _ s2 ⟨.slice g1 s2.ts.length gc1,.slice g2 s2.ps.length gc2,.slice g3 s2.ps.length gc3⟩ w' hh zf.some zf.at_.1)) rfl ?_
    rintro⟨D3,x3⟩ _
    obtain⟨pr3,hpr3⟩:∃r,aZ s2=r:=⟨_,rfl⟩
    rw[hpr3]
    have wf3:pr3.1.Wf:=by rw[←hpr3];exact jm zf
    have pl3:pr3.1.ts.length≤s2.ts.length:=by rw[←hpr3];exact jM s2
    obtain⟨s3,a3,e3⟩:=pr3
    dsimp only at wf3 pl3 ⊢
    refine aa.pure (φ:=∃q1 d1 q2 d2 q3 d3,x3=⟨.slice q1 s3.ts.length d1,.slice q2 s3.ps.length d2,.slice q3 s3.ps.length d3⟩) (fun w' hw'=>by obtain⟨q1,d1,q2,d2,q3,d3,e,-⟩:=(hw'.an (V:=bw s3) (w0:=w) (F:=F) (D:=D3) (y:=x3) ak bO).gx;exact⟨q1,d1,q2,d2,q3,d3,e⟩) ?_
    rintro⟨m1,mc1,m2,mc2,m3,mc3,rfl⟩
    dsimp only[gw]
    by_cases he3:e3=0
    ·subst he3
     rw[if_neg (fun h=>h rfl)]
     by_cases hbad:a2=3∨a2=4∨a3=3∨a3=4∨(a2≠a3∧a2≠0∧a3≠0)
     ·rw[if_pos hbad]
      repeat'(first|refine ar ?_|(refine bC ?_ ?_<;>intro hc_))
      all_goals exact pp
     ·rw[if_neg hbad]
      have n1:a2≠3:=fun h=>hbad (.inl h)
      have n2:a2≠4:=fun h=>hbad (.inr (.inl h))
      have n3:a3≠3:=fun h=>hbad (.inr (.inr (.inl h)))
      have n4:a3≠4:=fun h=>hbad (.inr (.inr (.inr (.inl h))))
      have n5:a2=a3∨a2=0∨a3=0:=by
       by_cases q1:a2=a3
       ·exact .inl q1
       by_cases q2:a2=0
       ·exact .inr (.inl q2)
       by_cases q3:a3=0
       ·exact .inr (.inr q3)
       exact absurd (.inr (.inr (.inr (.inr ⟨q1,q2,q3⟩)))) hbad
      by_cases ha0:a2=0
      ·rw[if_pos ha0]
       repeat'(first|refine ar ?_|(refine bC ?_ ?_<;>intro hc_))
       all_goals first|omega|skip
       all_goals
        refine bh.iB 6 [.aW b6 [.slice m1 s3.ts.length mc1,.slice m2 s3.ps.length mc2,.slice m3 s3.ps.length mc3,.int .i64 s3.bR] nZ] [Ext w] bz aU ?_
        repeat'(first|refine CZ ?_|(refine bA.lD ?_;refine bA.he rfl rfl (HE.jG rfl rfl rfl rfl rfl er Pk Pk) (fun _=>bz) (fun _=>aU) ?_;rintro bl _)|(refine bA.dA 118 ?_;refine bA.he rfl rfl (HE.eU rfl rfl (fun w' hw'=>gq _ _ _ w')) (fun _=>bz) (fun _=>aU) ?_;rintro⟨⟩ _)|(refine bA.dA 113 ?_;refine bA.he rfl rfl (HE.bV (V:=bw s3) (V2:=bw (aS s3 [a3])) (tf:=fun y=>.agg (gw (aS s3 [a3]) y).toArray) (w0:=w) (F:=F) (D:=D3) (y:=⟨.slice m1 s3.ts.length mc1,.slice m2 s3.ps.length mc2,.slice m3 s3.ps.length mc3⟩) (bw.fr _) (bw.lt _) (bw.mo _) ak bO (fun _=>aH) rfl rfl (fun w' hw' hh=>oF _ (fun k=>k=bl) s3 ⟨.slice m1 s3.ts.length mc1,.slice m2 s3.ps.length mc2,.slice m3 s3.ps.length mc3⟩ (.slice (some ⟨bl,0,none⟩) 1 1) [a3] w' hh (dJ (a:=a3) (T:=fR) (by have g:=(hw'.m (.aW bl _ fR) bO).1;exact g)) (by show s3.ts.length+1≤_;omega))) (fun _=>bz) (fun _=>aU) ?_;rintro⟨D9,x9⟩ _;refine db.pure (φ:=∃q1 d1 q2 d2 q3 d3,x9=⟨.slice q1 (aS s3 [a3]).ts.length d1,.slice q2 (aS s3 [a3]).ps.length d2,.slice q3 (aS s3 [a3]).ps.length d3⟩) (fun w' hw'=>by obtain⟨q1,d1,q2,d2,q3,d3,e,-⟩:=(hw'.an (V:=bw (aS s3 [a3])) (w0:=w) (F:=F) (D:=D9) (y:=x9) ak bO).gx;exact⟨q1,d1,q2,d2,q3,d3,e⟩) ?_;rintro⟨v1,vc1,v2,vc2,v3,vc3,rfl⟩;dsimp only[gw])|(refine bA.iO rfl (gj.iu [.slice v1 (aS s3 [a3]).ts.length vc1,.slice v2 (aS s3 [a3]).ps.length vc2,.slice v3 (aS s3 [a3]).ps.length vc3,.int .i64 (aS s3 [a3]).bR] [.slice v1 (aS s3 [a3]).ts.length vc1,.slice v2 (aS s3 [a3]).ps.length vc2,.slice v3 (aS s3 [a3]).ps.length vc3,.int .i64 (aS s3 [a3]).bR,.slice p4 c.fs.length c4,.slice p5 c.results.length c5,.int .i64 0] rfl rfl rfl rfl rfl rfl aH rfl rfl) ?_;rintro⟨⟩ _)|refine db.any O9 ?_|exact cw.fin rfl|refine cw.skip O9 ?_|refine cw.go ?_ ?_)
        all_goals
         repeat'(first|refine ar ?_|(refine bC ?_ ?_<;>intro hc_))
         refine My ?_
         exact fun w' hw'=>gG.ao (s:=(aS s3 [a3])) (D:=D9) ⟨.slice v1 (aS s3 [a3]).ts.length vc1,.slice v2 (aS s3 [a3]).ps.length vc2,.slice v3 (aS s3 [a3]).ps.length vc3⟩ h hw' ak bO
      ·rw[if_neg ha0]
       repeat'(first|refine ar ?_|(refine bC ?_ ?_<;>intro hc_))
       all_goals first|omega|skip
       all_goals
        refine bh.iB 6 [.aW b6 [.slice m1 s3.ts.length mc1,.slice m2 s3.ps.length mc2,.slice m3 s3.ps.length mc3,.int .i64 s3.bR] nZ] [Ext w] bz aU ?_
        repeat'(first|refine CZ ?_|(refine bA.lD ?_;refine bA.he rfl rfl (HE.jG rfl rfl rfl rfl rfl er Pk Pk) (fun _=>bz) (fun _=>aU) ?_;rintro bl _)|(refine bA.dA 118 ?_;refine bA.he rfl rfl (HE.eU rfl rfl (fun w' hw'=>gq _ _ _ w')) (fun _=>bz) (fun _=>aU) ?_;rintro⟨⟩ _)|(refine bA.dA 113 ?_;refine bA.he rfl rfl (HE.bV (V:=bw s3) (V2:=bw (aS s3 [a2])) (tf:=fun y=>.agg (gw (aS s3 [a2]) y).toArray) (w0:=w) (F:=F) (D:=D3) (y:=⟨.slice m1 s3.ts.length mc1,.slice m2 s3.ps.length mc2,.slice m3 s3.ps.length mc3⟩) (bw.fr _) (bw.lt _) (bw.mo _) ak bO (fun _=>aH) rfl rfl (fun w' hw' hh=>oF _ (fun k=>k=bl) s3 ⟨.slice m1 s3.ts.length mc1,.slice m2 s3.ps.length mc2,.slice m3 s3.ps.length mc3⟩ (.slice (some ⟨bl,0,none⟩) 1 1) [a2] w' hh (dJ (a:=a2) (T:=fR) (by have g:=(hw'.m (.aW bl _ fR) bO).1;exact g)) (by show s3.ts.length+1≤_;omega))) (fun _=>bz) (fun _=>aU) ?_;rintro⟨D9,x9⟩ _;refine db.pure (φ:=∃q1 d1 q2 d2 q3 d3,x9=⟨.slice q1 (aS s3 [a2]).ts.length d1,.slice q2 (aS s3 [a2]).ps.length d2,.slice q3 (aS s3 [a2]).ps.length d3⟩) (fun w' hw'=>by obtain⟨q1,d1,q2,d2,q3,d3,e,-⟩:=(hw'.an (V:=bw (aS s3 [a2])) (w0:=w) (F:=F) (D:=D9) (y:=x9) ak bO).gx;exact⟨q1,d1,q2,d2,q3,d3,e⟩) ?_;rintro⟨v1,vc1,v2,vc2,v3,vc3,rfl⟩;dsimp only[gw])|(refine bA.iO rfl (gj.iu [.slice v1 (aS s3 [a2]).ts.length vc1,.slice v2 (aS s3 [a2]).ps.length vc2,.slice v3 (aS s3 [a2]).ps.length vc3,.int .i64 (aS s3 [a2]).bR] [.slice v1 (aS s3 [a2]).ts.length vc1,.slice v2 (aS s3 [a2]).ps.length vc2,.slice v3 (aS s3 [a2]).ps.length vc3,.int .i64 (aS s3 [a2]).bR,.slice p4 c.fs.length c4,.slice p5 c.results.length c5,.int .i64 0] rfl rfl rfl rfl rfl rfl aH rfl rfl) ?_;rintro⟨⟩ _)|refine db.any O9 ?_|exact cw.fin rfl|refine cw.skip O9 ?_|refine cw.go ?_ ?_)
        all_goals
         repeat'(first|refine ar ?_|(refine bC ?_ ?_<;>intro hc_))
         refine My ?_
         exact fun w' hw'=>gG.ao (s:=(aS s3 [a2])) (D:=D9) ⟨.slice v1 (aS s3 [a2]).ts.length vc1,.slice v2 (aS s3 [a2]).ps.length vc2,.slice v3 (aS s3 [a2]).ps.length vc3⟩ h hw' ak bO
    ·rw[if_pos he3]
     repeat'(first|refine ar ?_|(refine bC ?_ ?_<;>intro hc_))
     all_goals exact pp
   ·rw[if_pos he2]
    repeat'(first|refine ar ?_|(refine bC ?_ ?_<;>intro hc_))
    all_goals exact pp
 ·rw[if_pos he1]
  refine bh.cI [.aW b6 [.slice p1 c.ao.ts.length c1,.slice p2 c.ao.ps.length c2,.slice p3 c.ao.ps.length c3,.int .i64 c.ao.bR] nZ] [Ext w] bz aU ?_
  repeat'(first|refine pN ?_|(refine ax.lD ?_;refine ax.he rfl rfl (HE.jG rfl rfl rfl rfl rfl er Pk Pk) (fun _=>bz) (fun _=>aU) ?_;rintro bl _)|(refine ax.dA 118 ?_;refine ax.he rfl rfl (HE.eU rfl rfl (fun w' hw'=>gq _ _ _ w')) (fun _=>bz) (fun _=>aU) ?_;rintro⟨⟩ _)|(refine ax.dA 111 ?_;refine ax.he rfl rfl (HE.bV (V:=bw c.ao) (V2:=ky) (w0:=w) (F:=F) (D:=(fun _=>False)) (y:=⟨.slice p1 c.ao.ts.length c1,.slice p2 c.ao.ps.length c2,.slice p3 c.ao.ps.length c3⟩) ky.fr ky.lt ky.mo ak bO (fun _=>aH) rfl rfl (fun w' hw' hh=>by have:=fa _ _ c.ao ⟨.slice p1 c.ao.ts.length c1,.slice p2 c.ao.ps.length c2,.slice p3 c.ao.ps.length c3⟩ (.slice (some ⟨bl,0,none⟩) 1 1) [1] w' hh (dJ (hw'.m (.aW bl [.int .i64 1] fR) bO).1) hs.some hs.at_.1 hs.at_.2;rw[hr1]at this;exact this.mono fun _ _ g=>oS.re g)) (fun _=>bz) (fun _=>aU) ?_;rintro⟨D1,x1⟩ _;refine aP.pure (φ:=jT.Sl x1) (fun w' hw'=>hw'.an (V:=ky) (w0:=w) (F:=F) (D:=D1) (y:=x1) ak bO) ?_;rintro⟨q1,n1,d1,q2,n2,d2,q3,n3,d3,rfl⟩;dsimp only[gw])|(refine ax.yf nZ ?_;refine ax.he rfl rfl (HE.alloc (t:=nZ) [.slice none 0 0,.slice none 0 0,.slice none 0 0,.int .i64 0] rfl rfl) (fun _=>bz) (fun _=>aU) ?_;intro b7 _)|(refine ax.nj ?_;refine ax.jO rfl (gj.bn _ rfl rfl rfl rfl rfl rfl aH rfl) (fun _=>bz) (fun _=>aU) ?_;rintro⟨⟩ _)|refine aP.nil O9 ?_|refine aP.any O9 ?_|exact aB.fin rfl|refine aB.skip O9 ?_|refine aB.go ?_ ?_)
  all_goals
   repeat'(first|refine ar ?_|(refine bC ?_ ?_<;>intro hc_))
   all_goals exact pp
def Bs (c:gA) (op:Int):gA×Int:=({c with ao:=(ic c.ao op).1},(ic c.ao op).2)
def iA (c:dv) (l:List Int):dv×Int:=if(aL c.ao l).2≠0 then(c,(aL c.ao l).2)else(iG {c with ao:=(aL c.ao l).1},0)
def xf (c:dv) (l:List Int):dv×Int:=if(aL c.ao [1]).2≠0 then(c,(aL c.ao [1]).2)else CX {c with ao:=(aL c.ao [1]).1} ⟨l,l⟩
def lO (c:dv) (x:cv):dv×Int:=
 if x.op=15 then iA c (qX c)
 else if x.op=14 then jx c x
 else if(cT c x.a).2≠0 then(c,(cT c x.a).2)
 else if x.op=13 then xf c (cT c x.a).1 else iA c (cT c x.a).1
def s9 (c:gA) (x:cv):gA×Int:=
 if x.op=15 then lV c c.results 0
 else if x.op=14 then fw c x
 else if x.op=13 then(if(eY c x.a).2≠0 then(c,(eY c x.a).2)else kh c ⟨(eY c x.a).1++[1],(eY c x.a).1⟩)
 else lV c (eY c x.a).1 (eY c x.a).2
def opens (op:Int):Prop:=op=2∨op=3∨op=4
instance (op:Int):Decidable (opens op):=by unfold opens;infer_instance
def jumps (op:Int):Prop:=op=12∨op=13∨op=14∨op=15
instance (op:Int):Decidable (jumps op):=by unfold jumps;infer_instance
def ku (op:Int):Prop:=op=26∨op=27∨op=209
instance (op:Int):Decidable (ku op):=by unfold ku;infer_instance
def fD (c:dv) (m:af) (locals:List Int) (x:cv):dv×Int:=
 if cW x=false then(c,10)
 else if opens x.op then(match cX m x.kind x.val x.index with|none=>(c,11)|some f=>ju c x.op f.params f.results)
 else if x.op=5 then mF c
 else if x.op=11 then kb c
 else if x.op=0 then(iG c,0)
 else if jumps x.op then lO c x
 else if ku x.op then({c with ao:=(ic c.ao x.op).1},(ic c.ao x.op).2)
 else tt c (fO m locals x)
def pQ (c:gA) (m:af) (locals:List Int) (x:cv):gA×Int:=
 if cW x=false then(c,10)
 else if opens x.op then(match cX m x.kind x.val x.index with|none=>(c,11)|some f=>og c x.op f)
 else if x.op=5 then xi c
 else if x.op=11 then rD c
 else if x.op=0 then(gk c,0)
 else if jumps x.op then s9 c x
 else if ku x.op then Bs c x.op
 else if(kB m locals x).2≠0 then(c,(kB m locals x).2)else kh c (kB m locals x).1
def Alike (a:dv×Int) (b:gA×Int):Prop:=a.2=b.2∧(a.2=0→bP a.1=b.1)
theorem qK {c:dv} (hb:c.broken=0) (hf:c.ao.Fit) (l:List Int):Alike (iA c l) (lV (bP c) l 0):=by
 rw[DH (c:=bP c) hf]
 unfold iA
 have hs:(bP c).ao=c.ao:=rfl
 rw[hs]
 by_cases h1:(aL c.ao l).2≠0
 ·simp only[if_pos h1];exact⟨rfl,fun h=>absurd h h1⟩
 ·simp only[if_neg h1]
  exact⟨rfl,fun _=>by rw[ya {c with ao:=(aL c.ao l).1} hb,Az]⟩
theorem Bb {c:dv} (hw:c.ao.Wf) (l:List Int):Alike (xf c l) (kh (bP c) ⟨l++[1],l⟩):=by
 obtain⟨h1,h2⟩:=GA hw l
 have hs:(bP c).ao=c.ao:=rfl
 unfold Alike kh xf CX
 rw[hs]
 by_cases h:(aL c.ao [1]).2≠0
 ·simp only[if_pos h]at h1 h2 ⊢
  exact⟨h1.symm,fun e=>absurd e h⟩
 ·simp only[if_neg h]at h1 h2 ⊢
  exact⟨h1.symm,fun e=>by rw[h2 (h1.trans e)];rfl⟩
theorem xY {c:dv} (hb:c.broken=0) (hk:c.Ok) (hw:c.ao.Wf) (hf:c.ao.Fit) (x:cv) (_hj:jumps x.op):Alike (lO c x) (s9 (bP c) x):=by
 unfold lO s9
 by_cases h15:x.op=15
 ·rw[if_pos h15,if_pos h15,Ee c hb];exact qK hb hf _
 rw[if_neg h15,if_neg h15]
 by_cases h14:x.op=14
 ·rw[if_pos h14,if_pos h14];exact zB c x hb hk
 rw[if_neg h14,if_neg h14,rz c x.a hb hk]
 obtain⟨a,ha⟩:∃a,eY (bP c) x.a=a:=⟨_,rfl⟩
 rw[ha]
 by_cases h1:a.2≠0
 ·rw[if_pos h1]
  by_cases h13:x.op=13
  ·rw[if_pos h13,if_pos h1];exact⟨rfl,fun h=>absurd h h1⟩
  ·rw[if_neg h13];unfold lV;rw[if_pos h1];exact⟨rfl,fun h=>absurd h h1⟩
 ·rw[if_neg h1]
  by_cases h13:x.op=13
  ·rw[if_pos h13,if_pos h13,if_neg h1];exact Bb hw _
  ·rw[if_neg h13,if_neg h13,show a.2=0 from Decidable.not_not.1 h1];exact qK hb hf _
theorem tq {op:Int} (h1:¬opens op) (h2:op≠5) (h3:op≠11) (h4:op≠0) (h5:¬jumps op) (h6:¬ku op):jU op=false:=by
 unfold opens at h1;unfold jumps at h5;unfold ku at h6;unfold jU
 simp only[not_or]at h1 h5 h6
 simp[h1,h2,h3,h4,h5,h6]
theorem zx {c:dv} (hb:c.broken=0) (hk:c.Ok) (hw:c.ao.Wf) (hf:c.ao.Fit) (m:af) (locals:List Int) (x:cv):Alike (fD c m locals x) (pQ (bP c) m locals x):=by
 unfold fD pQ
 by_cases hp:cW x=false
 ·rw[if_pos hp,if_pos hp];exact⟨rfl,fun h=>absurd h (show¬(10:Int)=0 by decide)⟩
 rw[if_neg hp,if_neg hp]
 by_cases h1:opens x.op
 ·rw[if_pos h1,if_pos h1]
  cases cX m x.kind x.val x.index with
  |none=>exact⟨rfl,fun h=>absurd h (show¬(11:Int)=0 by decide)⟩
  |some f=>exact Fc c x.op f hb
 rw[if_neg h1,if_neg h1]
 by_cases h2:x.op=5
 ·rw[if_pos h2,if_pos h2];exact else_eq c hb hk
 rw[if_neg h2,if_neg h2]
 by_cases h3:x.op=11
 ·rw[if_pos h3,if_pos h3];exact Ft c hb hk
 rw[if_neg h3,if_neg h3]
 by_cases h4:x.op=0
 ·rw[if_pos h4,if_pos h4];exact⟨rfl,fun _=>ya c hb⟩
 rw[if_neg h4,if_neg h4]
 by_cases h5:jumps x.op
 ·rw[if_pos h5,if_pos h5];exact xY hb hk hw hf x h5
 rw[if_neg h5,if_neg h5]
 by_cases h6:ku x.op
 ·rw[if_pos h6,if_pos h6];exact⟨rfl,fun _=>rfl⟩
 rw[if_neg h6,if_neg h6]
 have ha:=tq h1 h2 h3 h4 h5 h6
 have e:=vF m locals x
 unfold ql at e
 rw[if_neg hp,ha,if_neg Ph]at e
 rw[e]
 unfold tt
 by_cases h7:(kB m locals x).2≠0
 ·rw[if_pos h7,if_pos h7];exact⟨rfl,fun h=>absurd h h7⟩
 ·rw[if_neg h7,if_neg h7];exact⟨rfl,fun _=>rfl⟩
end Go.Proofs.YtdkcljdfbemnbaaGreatDoor
