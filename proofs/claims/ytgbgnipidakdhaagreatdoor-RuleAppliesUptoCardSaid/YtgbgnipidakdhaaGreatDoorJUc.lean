/- The reference of layer 23: loose (select). Printed by gen_ua.py. -/
import Derived.Test.YtgbgnipidakdhaaGreatDoorJLz
import Derived.Test.YtgbgnipidakdhaaGreatDoorJRg
namespace Go.Proofs.YtgbgnipidakdhaaGreatDoor
open Go.RowKit
set_option maxRecDepth 100000
set_option maxHeartbeats 16000000 in
theorem ry (F:Nat→Prop) (c:fN) (y:iP) (w:World) (h:bY c F w y) (op:Int) (ho:op=27) (hs:c.ao.Wf) (hb:c.ao.ts.length+1≤17592186044416):Calls G.P 74 #[.agg (er c y).toArray,.int .i64 op] w (fT (if(aE c.ao [1]).2≠0 then(c,(aE c.ao [1]).2)else if(aU (aE c.ao [1]).1).2.2≠0 then(c,(aU (aE c.ao [1]).1).2.2)else if(aU (aU (aE c.ao [1]).1).1).2.2≠0 then(c,(aU (aU (aE c.ao [1]).1).1).2.2)else if(aU (aE c.ao [1]).1).2.1=3∨(aU (aE c.ao [1]).1).2.1=4∨(aU (aU (aE c.ao [1]).1).1).2.1=3∨(aU (aU (aE c.ao [1]).1).1).2.1=4∨((aU (aE c.ao [1]).1).2.1≠(aU (aU (aE c.ao [1]).1).1).2.1∧(aU (aE c.ao [1]).1).2.1≠0∧(aU (aU (aE c.ao [1]).1).1).2.1≠0)then(c,12)else({c with ao:=aJ (aU (aU (aE c.ao [1]).1).1).1 [if(aU (aE c.ao [1]).1).2.1=0 then(aU (aU (aE c.ao [1]).1).1).2.1 else(aU (aE c.ao [1]).1).2.1]},0)) F w):=by
 obtain⟨p1,c1,p2,c2,p3,c3,p4,c4,p5,c5,ey,k4,h4,kz⟩:=h.fP
 obtain⟨y,fv,rv,z⟩:=y
 cases ey
 refine Kk ?_
 dsimp only[er]
 obtain⟨r1,hr1⟩:∃r,aE c.ao [1]=r:=⟨_,rfl⟩
 obtain⟨s1,e1⟩:=r1
 rw[hr1]
 have wf1:s1.Wf:=by have:=dn hs [1];rw[hr1]at this;exact this
 have hts1:s1.ts.length≤c.ao.ts.length:=by have:=dp c.ao [1];rw[hr1]at this;exact this
 dsimp only
 refine ar ?_
 refine aa.box [.slice p1 c.ao.ts.length c1,.slice p2 c.ao.ps.length c2,.slice p3 c.ao.ps.length c3,.int .i64 c.ao.bH,.slice p4 c.fs.length c4,.slice p5 c.results.length c5,.int .i64 0] rfl rfl rfl fun b2=>?_
 refine aa.alloc (t:=73) [.slice none 0 0,.slice none 0 0,.slice none 0 0,.int .i64 0,.slice none 0 0,.slice none 0 0,.int .i64 0] rfl rfl rfl fun b4=>?_
 repeat'(first|refine ar ?_|(refine KR fun b_=>?_)|(refine a7 ?_ ?_<;>intro hc_))
 obtain⟨b6,rfl⟩:∃y:Nat,y=b_:=⟨_,rfl⟩
 by_cases he1:e1=0
 ·subst he1
  rw[if_neg (fun h=>h rfl)]
  refine aZ.cT [.aT b6 [.slice p1 c.ao.ts.length c1,.slice p2 c.ao.ps.length c2,.slice p3 c.ao.ps.length c3,.int .i64 c.ao.bH] mJ] [Ext w] bc aV ?_
  refine aP.xW (α:=Nat×(Nat→Prop)×Option Addr×Nat×Option Addr×Nat×Option Addr×Nat) (fun y=>[(1,.int .i64 op),(2,.pointer (some ⟨b2,0,none⟩)),(4,.pointer (some ⟨b4,0,none⟩)),(5,.int .i64 0),(6,.pointer (some ⟨b6,0,none⟩)),(7,.pointer (some ⟨y.1,0,none⟩)),(8,.int .i64 0)]) (fun y=>[.aT y.1 [.slice y.2.2.1 s1.ts.length y.2.2.2.1,.slice y.2.2.2.2.1 s1.ps.length y.2.2.2.2.2.1,.slice y.2.2.2.2.2.2.1 s1.ps.length y.2.2.2.2.2.2.2,.int .i64 s1.bH] mJ,.aT b6 [.slice p1 c.ao.ts.length c1,.slice p2 c.ao.ps.length c2,.slice p3 c.ao.ps.length c3,.int .i64 c.ao.bH] mJ,.aT b4 [.slice none 0 0,.slice none 0 0,.slice none 0 0,.int .i64 0,.slice none 0 0,.slice none 0 0,.int .i64 0] 73,.aT b2 [.slice p1 c.ao.ts.length c1,.slice p2 c.ao.ps.length c2,.slice p3 c.ao.ps.length c3,.int .i64 c.ao.bH,.slice p4 c.fs.length c4,.slice p5 c.results.length c5,.int .i64 0] 73,a8.an (aY s1) w F y.2.1 ⟨.slice y.2.2.1 s1.ts.length y.2.2.2.1,.slice y.2.2.2.2.1 s1.ps.length y.2.2.2.2.2.1,.slice y.2.2.2.2.2.2.1 s1.ps.length y.2.2.2.2.2.2.2⟩]) (fun _=>[Ext w]) ?_ fun hrest=>?_
  rotate_left
  ·repeat'(first|refine og ?_|(refine av.kZ ?_;refine av.he rfl rfl (HE.jJ rfl rfl rfl rfl rfl eT Ml Ml) (fun _=>bc) (fun _=>aV) ?_;rintro bl _)|(refine av.ep 96 ?_;refine av.he rfl rfl (HE.dX rfl rfl (fun w' hw'=>fJ _ _ _ w')) (fun _=>bc) (fun _=>aV) ?_;rintro⟨⟩ _)|(refine av.ep 58 ?_;refine av.he rfl rfl (HE.bF (V:=aY c.ao) (V2:=aY s1) (w0:=w) (F:=F) (D:=(fun _=>False)) (y:=⟨.slice p1 c.ao.ts.length c1,.slice p2 c.ao.ps.length c2,.slice p3 c.ao.ps.length c3⟩) (aY.fr _) (aY.lt _) (aY.mo _) ak bG (fun _=>aA) rfl rfl (fun w' hw' hh=>by have:=eC _ _ c.ao ⟨.slice p1 c.ao.ts.length c1,.slice p2 c.ao.ps.length c2,.slice p3 c.ao.ps.length c3⟩ (.slice (some ⟨bl,0,none⟩) 1 1) [1] w' hh (cZ (hw'.m (.aT bl [.int .i64 1] fY) bG).1) hs.some hs.at_.1 hs.at_.2;rw[hr1]at this;exact this.mono fun _ _ g=>nm.to g)) (fun _=>bc) (fun _=>aV) ?_;rintro⟨D1,x1⟩ _;refine aP.pure (φ:=∃q1 d1 q2 d2 q3 d3,x1=⟨.slice q1 s1.ts.length d1,.slice q2 s1.ps.length d2,.slice q3 s1.ps.length d3⟩) (fun w' hw'=>by obtain⟨q1,d1,q2,d2,q3,d3,e,-⟩:=(hw'.an (V:=aY s1) (w0:=w) (F:=F) (D:=D1) (y:=x1) ak bG).fP;exact⟨q1,d1,q2,d2,q3,d3,e⟩) ?_;rintro⟨r1,rc1,r2,rc2,r3,rc3,rfl⟩;dsimp only[fI])|(refine av.zM mJ ?_;refine av.he rfl rfl (HE.alloc (t:=mJ) [.slice none 0 0,.slice none 0 0,.slice none 0 0,.int .i64 0] rfl rfl) (fun _=>bc) (fun _=>aV) ?_;intro b7 _)|(refine av.nw ?_;refine av.jf rfl (fQ.bn _ rfl rfl rfl rfl rfl rfl aA rfl) (fun _=>bc) (fun _=>aV) ?_;rintro⟨⟩ _)|refine aP.nil LX ?_|refine aP.any LX ?_|exact aN.fin rfl|refine aN.skip LX ?_|refine aN.go ?_ ?_)
   all_goals exact ah.cF (hrest (b7,D1,r1,rc1,r2,rc2,r3,rc3)) bJ dM aV
  ·rintro⟨b7,D1,r1,rc1,r2,rc2,r3,rc3⟩
   dsimp only
   repeat'(first|refine ar ?_|(refine a7 ?_ ?_<;>intro hc_))
   refine aa.he (HE.bF (V:=aY s1) (V2:=aY (aU s1).1) (tf:=fun y=>.tuple #[.agg (fI (aU s1).1 y).toArray,.int .i64 (aU s1).2.1,.int .i64 (aU s1).2.2]) (w0:=w) (F:=F) (D:=D1) (y:=⟨.slice r1 s1.ts.length rc1,.slice r2 s1.ps.length rc2,.slice r3 s1.ps.length rc3⟩) (aY.fr _) (aY.lt _) (aY.mo _) ak bG (fun _=>aA) rfl rfl (fun w' _ hh=>jU _ s1 ⟨.slice r1 s1.ts.length rc1,.slice r2 s1.ps.length rc2,.slice r3 s1.ps.length rc3⟩ w' hh wf1.some wf1.at_.1)) rfl ?_
   rintro⟨D2,x2⟩ _
   obtain⟨pr2,hpr2⟩:∃r,aU s1=r:=⟨_,rfl⟩
   rw[hpr2]
   have wf2:pr2.1.Wf:=by rw[←hpr2];exact iC wf1
   have pl2:pr2.1.ts.length≤s1.ts.length:=by rw[←hpr2];exact ja s1
   obtain⟨s2,a2,e2⟩:=pr2
   dsimp only at wf2 pl2 ⊢
   refine aa.pure (φ:=∃q1 d1 q2 d2 q3 d3,x2=⟨.slice q1 s2.ts.length d1,.slice q2 s2.ps.length d2,.slice q3 s2.ps.length d3⟩) (fun w' hw'=>by obtain⟨q1,d1,q2,d2,q3,d3,e,-⟩:=(hw'.an (V:=aY s2) (w0:=w) (F:=F) (D:=D2) (y:=x2) ak bG).fP;exact⟨q1,d1,q2,d2,q3,d3,e⟩) ?_
   rintro⟨g1,gc1,g2,gc2,g3,gc3,rfl⟩
   dsimp only[fI]
   by_cases he2:e2=0
   ·subst he2
    rw[if_neg (fun h=>h rfl)]
    repeat'(first|refine ar ?_|(refine a7 ?_ ?_<;>intro hc_))
    refine aa.he (HE.bF (V:=aY s2) (V2:=aY (aU s2).1) (tf:=fun y=>.tuple #[.agg (fI (aU s2).1 y).toArray,.int .i64 (aU s2).2.1,.int .i64 (aU s2).2.2]) (w0:=w) (F:=F) (D:=D2) (y:=⟨.slice g1 s2.ts.length gc1,.slice g2 s2.ps.length gc2,.slice g3 s2.ps.length gc3⟩) (aY.fr _) (aY.lt _) (aY.mo _) ak bG (fun _=>aA) rfl rfl (fun w' _ hh=>jU _ s2 ⟨.slice g1 s2.ts.length gc1,.slice g2 s2.ps.length gc2,.slice g3 s2.ps.length gc3⟩ w' hh wf2.some wf2.at_.1)) rfl ?_
    rintro⟨D3,x3⟩ _
    obtain⟨pr3,hpr3⟩:∃r,aU s2=r:=⟨_,rfl⟩
    rw[hpr3]
    have wf3:pr3.1.Wf:=by rw[←hpr3];exact iC wf2
    have pl3:pr3.1.ts.length≤s2.ts.length:=by rw[←hpr3];exact ja s2
    obtain⟨s3,a3,e3⟩:=pr3
    dsimp only at wf3 pl3 ⊢
    refine aa.pure (φ:=∃q1 d1 q2 d2 q3 d3,x3=⟨.slice q1 s3.ts.length d1,.slice q2 s3.ps.length d2,.slice q3 s3.ps.length d3⟩) (fun w' hw'=>by obtain⟨q1,d1,q2,d2,q3,d3,e,-⟩:=(hw'.an (V:=aY s3) (w0:=w) (F:=F) (D:=D3) (y:=x3) ak bG).fP;exact⟨q1,d1,q2,d2,q3,d3,e⟩) ?_
    rintro⟨m1,mc1,m2,mc2,m3,mc3,rfl⟩
    dsimp only[fI]
    by_cases he3:e3=0
    ·subst he3
     rw[if_neg (fun h=>h rfl)]
     by_cases hbad:a2=3∨a2=4∨a3=3∨a3=4∨(a2≠a3∧a2≠0∧a3≠0)
     ·rw[if_pos hbad]
      repeat'(first|refine ar ?_|(refine a7 ?_ ?_<;>intro hc_))
      all_goals exact t7
     ·rw[if_neg hbad]
      have n1:a2≠3:=fun h=>hbad (.inl h)
      have n2:a2≠4:=fun h=>hbad (.inr (.inl h))
      have n3:a3≠3:=fun h=>hbad (.inr (.inr (.inl h)))
      have n4:a3≠4:=fun h=>hbad (.inr (.inr (.inr (.inl h))))
      have n5:a2=a3∨a2=0∨a3=0:=by
       by_cases q1:a2=a3
       ·exact .inl q1
       by_cases q2:a2=0
       ·exact .inr (.inl q2)
       by_cases q3:a3=0
       ·exact .inr (.inr q3)
       exact absurd (.inr (.inr (.inr (.inr ⟨q1,q2,q3⟩)))) hbad
      by_cases ha0:a2=0
      ·rw[if_pos ha0]
       repeat'(first|refine ar ?_|(refine a7 ?_ ?_<;>intro hc_))
       all_goals first|omega|skip
       all_goals
        refine aZ.hH 6 [.aT b6 [.slice m1 s3.ts.length mc1,.slice m2 s3.ps.length mc2,.slice m3 s3.ps.length mc3,.int .i64 s3.bH] mJ] [Ext w] bc aV ?_
        repeat'(first|refine Bl ?_|(refine bu.kZ ?_;refine bu.he rfl rfl (HE.jJ rfl rfl rfl rfl rfl eT Ml Ml) (fun _=>bc) (fun _=>aV) ?_;rintro bl _)|(refine bu.ep 96 ?_;refine bu.he rfl rfl (HE.dX rfl rfl (fun w' hw'=>fJ _ _ _ w')) (fun _=>bc) (fun _=>aV) ?_;rintro⟨⟩ _)|(refine bu.ep 25 ?_;refine bu.he rfl rfl (HE.bF (V:=aY s3) (V2:=aY (aJ s3 [a3])) (tf:=fun y=>.agg (fI (aJ s3 [a3]) y).toArray) (w0:=w) (F:=F) (D:=D3) (y:=⟨.slice m1 s3.ts.length mc1,.slice m2 s3.ps.length mc2,.slice m3 s3.ps.length mc3⟩) (aY.fr _) (aY.lt _) (aY.mo _) ak bG (fun _=>aA) rfl rfl (fun w' hw' hh=>nb _ (fun k=>k=bl) s3 ⟨.slice m1 s3.ts.length mc1,.slice m2 s3.ps.length mc2,.slice m3 s3.ps.length mc3⟩ (.slice (some ⟨bl,0,none⟩) 1 1) [a3] w' hh (cZ (a:=a3) (T:=fY) (by have g:=(hw'.m (.aT bl _ fY) bG).1;exact g)) (by show s3.ts.length+1≤_;omega))) (fun _=>bc) (fun _=>aV) ?_;rintro⟨D9,x9⟩ _;refine cK.pure (φ:=∃q1 d1 q2 d2 q3 d3,x9=⟨.slice q1 (aJ s3 [a3]).ts.length d1,.slice q2 (aJ s3 [a3]).ps.length d2,.slice q3 (aJ s3 [a3]).ps.length d3⟩) (fun w' hw'=>by obtain⟨q1,d1,q2,d2,q3,d3,e,-⟩:=(hw'.an (V:=aY (aJ s3 [a3])) (w0:=w) (F:=F) (D:=D9) (y:=x9) ak bG).fP;exact⟨q1,d1,q2,d2,q3,d3,e⟩) ?_;rintro⟨v1,vc1,v2,vc2,v3,vc3,rfl⟩;dsimp only[fI])|(refine bu.iq rfl (fQ.gx [.slice v1 (aJ s3 [a3]).ts.length vc1,.slice v2 (aJ s3 [a3]).ps.length vc2,.slice v3 (aJ s3 [a3]).ps.length vc3,.int .i64 (aJ s3 [a3]).bH] [.slice v1 (aJ s3 [a3]).ts.length vc1,.slice v2 (aJ s3 [a3]).ps.length vc2,.slice v3 (aJ s3 [a3]).ps.length vc3,.int .i64 (aJ s3 [a3]).bH,.slice p4 c.fs.length c4,.slice p5 c.results.length c5,.int .i64 0] rfl rfl rfl rfl rfl rfl aA rfl rfl) ?_;rintro⟨⟩ _)|refine cK.any LX ?_|exact bZ.fin rfl|refine bZ.skip LX ?_|refine bZ.go ?_ ?_)
        all_goals
         repeat'(first|refine ar ?_|(refine a7 ?_ ?_<;>intro hc_))
         refine IR ?_
         exact fun w' hw'=>fT.ao (s:=(aJ s3 [a3])) (D:=D9) ⟨.slice v1 (aJ s3 [a3]).ts.length vc1,.slice v2 (aJ s3 [a3]).ps.length vc2,.slice v3 (aJ s3 [a3]).ps.length vc3⟩ h hw' ak bG
      ·rw[if_neg ha0]
       repeat'(first|refine ar ?_|(refine a7 ?_ ?_<;>intro hc_))
       all_goals first|omega|skip
       all_goals
        refine aZ.hH 6 [.aT b6 [.slice m1 s3.ts.length mc1,.slice m2 s3.ps.length mc2,.slice m3 s3.ps.length mc3,.int .i64 s3.bH] mJ] [Ext w] bc aV ?_
        repeat'(first|refine Bl ?_|(refine bu.kZ ?_;refine bu.he rfl rfl (HE.jJ rfl rfl rfl rfl rfl eT Ml Ml) (fun _=>bc) (fun _=>aV) ?_;rintro bl _)|(refine bu.ep 96 ?_;refine bu.he rfl rfl (HE.dX rfl rfl (fun w' hw'=>fJ _ _ _ w')) (fun _=>bc) (fun _=>aV) ?_;rintro⟨⟩ _)|(refine bu.ep 25 ?_;refine bu.he rfl rfl (HE.bF (V:=aY s3) (V2:=aY (aJ s3 [a2])) (tf:=fun y=>.agg (fI (aJ s3 [a2]) y).toArray) (w0:=w) (F:=F) (D:=D3) (y:=⟨.slice m1 s3.ts.length mc1,.slice m2 s3.ps.length mc2,.slice m3 s3.ps.length mc3⟩) (aY.fr _) (aY.lt _) (aY.mo _) ak bG (fun _=>aA) rfl rfl (fun w' hw' hh=>nb _ (fun k=>k=bl) s3 ⟨.slice m1 s3.ts.length mc1,.slice m2 s3.ps.length mc2,.slice m3 s3.ps.length mc3⟩ (.slice (some ⟨bl,0,none⟩) 1 1) [a2] w' hh (cZ (a:=a2) (T:=fY) (by have g:=(hw'.m (.aT bl _ fY) bG).1;exact g)) (by show s3.ts.length+1≤_;omega))) (fun _=>bc) (fun _=>aV) ?_;rintro⟨D9,x9⟩ _;refine cK.pure (φ:=∃q1 d1 q2 d2 q3 d3,x9=⟨.slice q1 (aJ s3 [a2]).ts.length d1,.slice q2 (aJ s3 [a2]).ps.length d2,.slice q3 (aJ s3 [a2]).ps.length d3⟩) (fun w' hw'=>by obtain⟨q1,d1,q2,d2,q3,d3,e,-⟩:=(hw'.an (V:=aY (aJ s3 [a2])) (w0:=w) (F:=F) (D:=D9) (y:=x9) ak bG).fP;exact⟨q1,d1,q2,d2,q3,d3,e⟩) ?_;rintro⟨v1,vc1,v2,vc2,v3,vc3,rfl⟩;dsimp only[fI])|(refine bu.iq rfl (fQ.gx [.slice v1 (aJ s3 [a2]).ts.length vc1,.slice v2 (aJ s3 [a2]).ps.length vc2,.slice v3 (aJ s3 [a2]).ps.length vc3,.int .i64 (aJ s3 [a2]).bH] [.slice v1 (aJ s3 [a2]).ts.length vc1,.slice v2 (aJ s3 [a2]).ps.length vc2,.slice v3 (aJ s3 [a2]).ps.length vc3,.int .i64 (aJ s3 [a2]).bH,.slice p4 c.fs.length c4,.slice p5 c.results.length c5,.int .i64 0] rfl rfl rfl rfl rfl rfl aA rfl rfl) ?_;rintro⟨⟩ _)|refine cK.any LX ?_|exact bZ.fin rfl|refine bZ.skip LX ?_|refine bZ.go ?_ ?_)
        all_goals
         repeat'(first|refine ar ?_|(refine a7 ?_ ?_<;>intro hc_))
         refine IR ?_
         exact fun w' hw'=>fT.ao (s:=(aJ s3 [a2])) (D:=D9) ⟨.slice v1 (aJ s3 [a2]).ts.length vc1,.slice v2 (aJ s3 [a2]).ps.length vc2,.slice v3 (aJ s3 [a2]).ps.length vc3⟩ h hw' ak bG
    ·rw[if_pos he3]
     repeat'(first|refine ar ?_|(refine a7 ?_ ?_<;>intro hc_))
     all_goals exact t7
   ·rw[if_pos he2]
    repeat'(first|refine ar ?_|(refine a7 ?_ ?_<;>intro hc_))
    all_goals exact t7
 ·rw[if_pos he1]
  refine aZ.cT [.aT b6 [.slice p1 c.ao.ts.length c1,.slice p2 c.ao.ps.length c2,.slice p3 c.ao.ps.length c3,.int .i64 c.ao.bH] mJ] [Ext w] bc aV ?_
  repeat'(first|refine og ?_|(refine av.kZ ?_;refine av.he rfl rfl (HE.jJ rfl rfl rfl rfl rfl eT Ml Ml) (fun _=>bc) (fun _=>aV) ?_;rintro bl _)|(refine av.ep 96 ?_;refine av.he rfl rfl (HE.dX rfl rfl (fun w' hw'=>fJ _ _ _ w')) (fun _=>bc) (fun _=>aV) ?_;rintro⟨⟩ _)|(refine av.ep 58 ?_;refine av.he rfl rfl (HE.bF (V:=aY c.ao) (V2:=jD) (w0:=w) (F:=F) (D:=(fun _=>False)) (y:=⟨.slice p1 c.ao.ts.length c1,.slice p2 c.ao.ps.length c2,.slice p3 c.ao.ps.length c3⟩) jD.fr jD.lt jD.mo ak bG (fun _=>aA) rfl rfl (fun w' hw' hh=>by have:=eC _ _ c.ao ⟨.slice p1 c.ao.ts.length c1,.slice p2 c.ao.ps.length c2,.slice p3 c.ao.ps.length c3⟩ (.slice (some ⟨bl,0,none⟩) 1 1) [1] w' hh (cZ (hw'.m (.aT bl [.int .i64 1] fY) bG).1) hs.some hs.at_.1 hs.at_.2;rw[hr1]at this;exact this.mono fun _ _ g=>nm.oQ g)) (fun _=>bc) (fun _=>aV) ?_;rintro⟨D1,x1⟩ _;refine aP.pure (φ:=jq.Sl x1) (fun w' hw'=>hw'.an (V:=jD) (w0:=w) (F:=F) (D:=D1) (y:=x1) ak bG) ?_;rintro⟨q1,n1,d1,q2,n2,d2,q3,n3,d3,rfl⟩;dsimp only[fI])|(refine av.zM mJ ?_;refine av.he rfl rfl (HE.alloc (t:=mJ) [.slice none 0 0,.slice none 0 0,.slice none 0 0,.int .i64 0] rfl rfl) (fun _=>bc) (fun _=>aV) ?_;intro b7 _)|(refine av.nw ?_;refine av.jf rfl (fQ.bn _ rfl rfl rfl rfl rfl rfl aA rfl) (fun _=>bc) (fun _=>aV) ?_;rintro⟨⟩ _)|refine aP.nil LX ?_|refine aP.any LX ?_|exact aN.fin rfl|refine aN.skip LX ?_|refine aN.go ?_ ?_)
  all_goals
   repeat'(first|refine ar ?_|(refine a7 ?_ ?_<;>intro hc_))
   all_goals exact t7
def zu (c:fN) (op:Int):fN×Int:=({c with ao:=(gH c.ao op).1},(gH c.ao op).2)
end Go.Proofs.YtgbgnipidakdhaaGreatDoor
