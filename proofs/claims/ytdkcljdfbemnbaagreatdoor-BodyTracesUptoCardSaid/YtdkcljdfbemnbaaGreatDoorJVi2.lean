import Derived.Test.YtdkcljdfbemnbaaGreatDoorJVh
namespace Go.Proofs.YtdkcljdfbemnbaaGreatDoor
open Go.RowKit
set_option maxHeartbeats 32000000
set_option maxRecDepth 100000
theorem pF (F:Nat→Prop) (c:gA) (y:jC) (op:Int) (f:aO) (fp fq:Option Addr) (fc fd:Nat) (w:World) (h:cG c F w y) (hf:dH f F w (.slice fp f.params.length fc,.slice fq f.results.length fd)) (hs:c.ao.Wf) (__hfl:c.fs.length≤1000000) (hpl:c.ao.ps.length≤1000000) (__hb:c.ao.ts.length+f.params.length≤17592186044416) (ho:op=2∨op=3) (__hn:c.fs.length≠0):Calls G.P 66 #[.agg (eO c y).toArray,.int .i64 op,.agg #[.slice fp f.params.length fc,.slice fq f.results.length fd]] w (gG (if(aL c.ao f.params).2≠0 then(c,(aL c.ao f.params).2)else({c with ao:=aS (aV (aL c.ao f.params).1) f.params,fs:=c.fs++[⟨op,f.params,f.results,(ix c.fs (c.fs.length - 1)).live,(ix c.fs (c.fs.length - 1)).live⟩]},0)) F w):=by
 rcases ho with ho|ho
 all_goals
  have hw1:=hs
  have hp0:=hs.some
  have ha0:=hs.at_.1
  have hle1:=hs.at_.2
  have hpl1:=hpl
  have hps:=hs.some
  have hat:=hs.at_
  obtain⟨p1,c1,p2,c2,p3,c3,p4,c4,p5,c5,ey,k4,h4,kz⟩:=h.gx
  have hn0:0<c.fs.length:=by omega
  obtain⟨_,_,g1,k1,g2,k2,_,-,e5,-,-⟩:=h.frame (i:=c.fs.length - 1) Pi
  have hz:=h.2.1
  have hI2:∀D w',Ext w w'→ai (AF F w D) w' (.slice fp f.params.length fc) f.params:=fun D w' hx=>(((hf.1.mono (fun k hk hF=>⟨hF,hk⟩):ai (fun k=>F k∧k<w.heap.size) w _ _)).aN hx (fun _ _ _ h=>h)).mono fun k _ h=>.inl h
  obtain⟨y,fv,rv,z⟩:=y
  cases ey
  dsimp only at e5 hz kz
  refine Mu ?_
  dsimp only[eO]
  have hn':¬(c.fs.length:Int)=0:=by omega
  refine ar ?_
  refine aa.box [.slice p1 c.ao.ts.length c1,.slice p2 c.ao.ps.length c2,.slice p3 c.ao.ps.length c3,.int .i64 c.ao.bR,.slice p4 c.fs.length c4,.slice p5 c.results.length c5,.int .i64 0] rfl rfl rfl fun b3=>?_
  refine aa.box [.slice fp f.params.length fc,.slice fq f.results.length fd] rfl rfl rfl fun b5=>?_
  refine aa.alloc (t:=119) [.slice none 0 0,.slice none 0 0,.slice none 0 0,.int .i64 0,.slice none 0 0,.slice none 0 0,.int .i64 0] rfl rfl rfl fun b6=>?_
  obtain⟨r2,hr2⟩:∃r,aL c.ao f.params=r:=⟨_,rfl⟩
  obtain⟨s2,e2⟩:=r2
  rw[hr2]
  have hw2:s2.Wf:=by have:=dE hw1 f.params;rw[hr2]at this;exact this
  have hps2:s2.ps=c.ao.ps:=by have:=ft c.ao f.params;rw[hr2]at this;exact this
  have hts2:s2.ts.length≤c.ao.ts.length:=by have:=dD c.ao f.params;rw[hr2]at this;exact this
  dsimp only
  by_cases he2:e2=0
  ·subst he2
   rw[if_neg (fun h=>h rfl)]
   repeat'(first|refine ar ?_|fail)
   refine aa.he (HE.bV (V:=bw c.ao) (V2:=bw s2) (w0:=w) (F:=F) (D:=(fun _=>False)) (y:=⟨.slice p1 c.ao.ts.length c1,.slice p2 c.ao.ps.length c2,.slice p3 c.ao.ps.length c3⟩) (bw.fr _) (bw.lt _) (bw.mo _) ak bO (fun _=>aH) rfl rfl (fun w' hw' hh=>by have:=fa _ _ c.ao ⟨.slice p1 c.ao.ts.length c1,.slice p2 c.ao.ps.length c2,.slice p3 c.ao.ps.length c3⟩ (.slice fp f.params.length fc) f.params w' hh (hf.1.aN (show Ext w w' from hw'.at) (fun _ _ _ h=>h)) hp0 ha0 hle1;rw[hr2]at this;exact this.mono fun _ _ g=>oS.to g)) rfl ?_
   rintro⟨D2,x2⟩ _
   refine aa.pure (φ:=∃q1 d1 q2 d2 q3 d3,x2=⟨.slice q1 s2.ts.length d1,.slice q2 s2.ps.length d2,.slice q3 s2.ps.length d3⟩) (fun w' hw'=>by obtain⟨q1,d1,q2,d2,q3,d3,e,-⟩:=(hw'.an (V:=bw s2) (w0:=w) (F:=F) (D:=D2) (y:=x2) ak bO).gx;exact⟨q1,d1,q2,d2,q3,d3,e⟩) ?_
   rintro⟨r1,rc1,r2,rc2,r3,rc3,rfl⟩
   dsimp only[gw]
   repeat'(first|refine ar ?_|(refine ew fun b_=>?_)|(refine dy fun b_=>?_)|fail)
   obtain⟨b10,rfl⟩:∃y:Nat,y=b_:=⟨_,rfl⟩
   refine Mv ?_
   repeat'(first|refine CZ ?_|(refine bA.dA 61 ?_;refine bA.he rfl rfl (HE.bV (V:=bw s2) (V2:=bw (aV s2)) (tf:=fun y=>.agg (gw (aV s2) y).toArray) (w0:=w) (F:=F) (D:=D2) (y:=⟨.slice r1 s2.ts.length rc1,.slice r2 s2.ps.length rc2,.slice r3 s2.ps.length rc3⟩) (bw.fr _) (bw.lt _) (bw.mo _) ak bO (fun _=>aH) rfl rfl (fun w' hw' hh=>ns _ s2 ⟨.slice r1 s2.ts.length rc1,.slice r2 s2.ps.length rc2,.slice r3 s2.ps.length rc3⟩ w' hh (by rw[hps2];exact hpl1))) (fun _=>bz) (fun _=>aU) ?_;rintro⟨D3,x3⟩ _;refine db.pure (φ:=∃q1 d1 q2 d2 q3 d3,x3=⟨.slice q1 (aV s2).ts.length d1,.slice q2 (aV s2).ps.length d2,.slice q3 (aV s2).ps.length d3⟩) (fun w' hw'=>by obtain⟨q1,d1,q2,d2,q3,d3,e,-⟩:=(hw'.an (V:=bw (aV s2)) (w0:=w) (F:=F) (D:=D3) (y:=x3) ak bO).gx;exact⟨q1,d1,q2,d2,q3,d3,e⟩) ?_;rintro⟨u1,uc1,u2,uc2,u3,uc3,rfl⟩;dsimp only[gw])|(refine bA.dA 113 ?_;refine bA.he rfl rfl (HE.bV (V:=bw (aV s2)) (V2:=bw (aS (aV s2) f.params)) (tf:=fun y=>.agg (gw (aS (aV s2) f.params) y).toArray) (w0:=w) (F:=F) (D:=D3) (y:=⟨.slice u1 (aV s2).ts.length uc1,.slice u2 (aV s2).ps.length uc2,.slice u3 (aV s2).ps.length uc3⟩) (bw.fr _) (bw.lt _) (bw.mo _) ak bO (fun _=>aH) rfl rfl (fun w' hw' hh=>kc _ (aV s2) ⟨.slice u1 (aV s2).ts.length uc1,.slice u2 (aV s2).ps.length uc2,.slice u3 (aV s2).ps.length uc3⟩ (.slice fp f.params.length fc) f.params w' hh (hI2 _ w' hw'.at) (by show s2.ts.length+_≤_;omega))) (fun _=>bz) (fun _=>aU) ?_;rintro⟨D4,x4⟩ _;refine db.pure (φ:=∃q1 d1 q2 d2 q3 d3,x4=⟨.slice q1 (aS (aV s2) f.params).ts.length d1,.slice q2 (aS (aV s2) f.params).ps.length d2,.slice q3 (aS (aV s2) f.params).ps.length d3⟩) (fun w' hw'=>by obtain⟨q1,d1,q2,d2,q3,d3,e,-⟩:=(hw'.an (V:=bw (aS (aV s2) f.params)) (w0:=w) (F:=F) (D:=D4) (y:=x4) ak bO).gx;exact⟨q1,d1,q2,d2,q3,d3,e⟩) ?_;rintro⟨v1,vc1,v2,vc2,v3,vc3,rfl⟩;dsimp only[gw])|(refine bA.iO rfl (gj.iu [.slice v1 (aS (aV s2) f.params).ts.length vc1,.slice v2 (aS (aV s2) f.params).ps.length vc2,.slice v3 (aS (aV s2) f.params).ps.length vc3,.int .i64 (aS (aV s2) f.params).bR] [.slice v1 (aS (aV s2) f.params).ts.length vc1,.slice v2 (aS (aV s2) f.params).ps.length vc2,.slice v3 (aS (aV s2) f.params).ps.length vc3,.int .i64 (aS (aV s2) f.params).bR,.slice p4 c.fs.length c4,.slice p5 c.results.length c5,.int .i64 0] rfl rfl rfl rfl rfl rfl aH rfl rfl) ?_;rintro⟨⟩ _)|refine db.any O9 ?_|exact cw.fin rfl|refine cw.skip O9 ?_|refine cw.go ?_ ?_)
   obtain⟨s4,hs4⟩:∃s,aS (aV s2) f.params=s:=⟨_,rfl⟩
   rw[hs4]
   have htop:∀w',Ext w w'→bw s4 (fun _=>True) w' ⟨.slice v1 s4.ts.length vc1,.slice v2 s4.ps.length vc2,.slice v3 s4.ps.length vc3⟩→Calls G.P 63 #[.agg #[.slice v1 s4.ts.length vc1,.slice v2 s4.ps.length vc2,.slice v3 s4.ps.length vc3,.int .i64 s4.bR,.slice p4 c.fs.length c4,.slice p5 c.results.length c5,.int .i64 0]] w' fun e w2=>e=.returned (.agg #[.int .i64 (ix c.fs (c.fs.length - 1)).op,.slice g1 (ix c.fs (c.fs.length - 1)).par.length k1,.slice g2 (ix c.fs (c.fs.length - 1)).res.length k2,.bool (ix c.fs (c.fs.length - 1)).live,.bool (ix c.fs (c.fs.length - 1)).lq])∧Ext w' w2:=fun w' hx hh=>by
    have:=ke _ {c with ao:=s4} _ w' (cG.at h hx hh) hn0
    dsimp only[eO]at this
    rw[e5]at this
    exact this
   repeat'(first|refine ar ?_|fail)
   refine Mw ?_
   rintro⟨⟩ _
   refine aa.y_ (Yl.iy (T:=4) (o:=3) Pb Pb rfl rfl rfl rfl) rfl ?_
   repeat'(first|refine ar ?_|fail)
   refine Mx ?_
   repeat'(first|refine CZ ?_|(refine bA.ix 0 ?_;refine bA.he rfl rfl (HE.jG rfl rfl rfl rfl rfl er Pk Pk) (fun _=>bz) (fun _=>aU) ?_;intro b6a _;refine db.map (fun w' hw'=>hw'.jN (b:=b6a) (len:=0) (s:=5) (T:=Gg) aH rfl (Nat.zero_le _)) ?_)|(refine bA.ix 3 ?_;refine bA.he rfl rfl (HE.gR (kY z) rfl rfl (fun _=>aH) ((vc hz ak).imp_left fun h=>by omega) (by rw[kZ,kz]) rfl rfl rfl Pk Pk Pk (oY _ hz.Gj) (by show(0+c.fs.length)*64≤140737488355328;omega) Pi (fun _ _=>Nat.zero_le _)) (fun _=>bz) (fun _=>aU) ?_;intro va _;simp only[Nat.zero_add,List.nil_append];refine db.pure (φ:=∃p cc,va=.slice p c.fs.length cc) (fun w' hw'=>by obtain⟨p,cc,e,_⟩:=aw (hw'.own (v:=va));exact⟨p,cc,e⟩) ?_;rintro⟨pa,ca,rfl⟩)|(refine bA.ix 9 ?_;refine bA.he rfl rfl (HE.jG rfl rfl rfl rfl rfl er Pk Pk) (fun _=>bz) (fun _=>aU) ?_;intro b7a _)|(refine bA.ix 10 ?_;refine bA.he rfl rfl (HE.app (cs:=[.int .i64 op,.slice fp f.params.length fc,.slice fq f.results.length fd,.bool (ix c.fs (c.fs.length - 1)).live,.bool (ix c.fs (c.fs.length - 1)).live]) rfl rfl (fun _=>aH) aH rfl rfl rfl Pk Pk Pk Pk Pk Pk Pi (fun _ _=>Nat.zero_le _)) (fun _=>bz) (fun _=>aU) ?_;intro vb _;refine db.pure (φ:=∃p cc,vb=.slice p (c.fs.length+1) cc∧c.fs.length+1≤cc) (fun w' hw'=>by obtain⟨p,cc,e,h,_⟩:=aw (hw'.own (v:=vb));exact⟨p,cc,e,h⟩) ?_;rintro⟨pb,cb,rfl,hcb⟩)|(refine bA.iO rfl (gj.iu [.slice pb (c.fs.length+1) cb] [.slice v1 s4.ts.length vc1,.slice v2 s4.ps.length vc2,.slice v3 s4.ps.length vc3,.int .i64 s4.bR,.slice pb (c.fs.length+1) cb,.slice p5 c.results.length c5,.int .i64 0] rfl rfl rfl rfl rfl rfl aH rfl rfl) ?_;rintro⟨⟩ _)|refine db.any O9 ?_|exact cw.fin rfl|refine cw.skip O9 ?_|refine cw.go ?_ ?_)
   all_goals
    repeat'(first|refine ar ?_|fail)
    refine My ?_
    intro w' hw'
    have hE:Ext w w':=hw'.at
    have hsd:=(cG.fr c h hE (fun _ _ _ h=>h)).mono (H:=fun k=>F k∨w.heap.size≤k) fun _ h=>.inl h
    have g:=oX (F:=F) (z++[(⟨op,f.params,f.results,(ix c.fs (c.fs.length - 1)).live,(ix c.fs (c.fs.length - 1)).live⟩,.slice fp f.params.length fc,.slice fq f.results.length fd)]) hw' ak bO (by rw[List.length_append,kz];rfl) (by rw[qY];rfl) (by rw[List.length_append,kz];show c.fs.length+1≤_;omega) (fun a ha=>by
     rcases List.mem_append.1 ha with ha|ha
     ·exact hsd.2.1.Gj a ha
     ·rw[List.mem_singleton.1 ha]
      exact dH.GH (dH.fr _ hf hE (fun _ _ _ h=>h)) fun _ _ h=>.inl h)
    have g1:=hw'.new (V:=bw s4) (w:=w) (F:=F) (D:=D4) (y:=⟨.slice v1 s4.ts.length vc1,.slice v2 s4.ps.length vc2,.slice v3 s4.ps.length vc3⟩) (bw.mo _) ak bO
    have:=gG.ok (c:={c with ao:=s4,fs:=c.fs++[⟨op,f.params,f.results,(ix c.fs (c.fs.length - 1)).live,(ix c.fs (c.fs.length - 1)).live⟩]}) (⟨⟨.slice v1 s4.ts.length vc1,.slice v2 s4.ps.length vc2,.slice v3 s4.ps.length vc3⟩,.slice pb (c.fs.length+1) cb,.slice p5 c.results.length c5,z++[(⟨op,f.params,f.results,(ix c.fs (c.fs.length - 1)).live,(ix c.fs (c.fs.length - 1)).live⟩,.slice fp f.params.length fc,.slice fq f.results.length fd)]⟩:jC) (F:=F) (w:=w) (w':=w') ⟨g1,g,hsd.2.2.1,hcb,by dsimp only;rw[List.map_append,h.2.2.2.2];rfl⟩ hE
    exact this
  ·rw[if_pos he2]
   repeat'(first|refine ar ?_|fail)
   refine aa.he (HE.bV (V:=bw c.ao) (V2:=ky) (w0:=w) (F:=F) (D:=(fun _=>False)) (y:=⟨.slice p1 c.ao.ts.length c1,.slice p2 c.ao.ps.length c2,.slice p3 c.ao.ps.length c3⟩) ky.fr ky.lt ky.mo ak bO (fun _=>aH) rfl rfl (fun w' hw' hh=>by have:=fa _ _ c.ao ⟨.slice p1 c.ao.ts.length c1,.slice p2 c.ao.ps.length c2,.slice p3 c.ao.ps.length c3⟩ (.slice fp f.params.length fc) f.params w' hh (hf.1.aN (show Ext w w' from hw'.at) (fun _ _ _ h=>h)) hp0 ha0 hle1;rw[hr2]at this;exact this.mono fun _ _ g=>oS.re g)) rfl ?_
   rintro⟨D2,x2⟩ _
   refine Mz ?_
   rintro⟨q1,n1,d1,q2,n2,d2,q3,n3,d3,rfl⟩
   dsimp only[gw]
   repeat'(first|refine ar ?_|(refine ew fun b_=>?_)|(refine dy fun b_=>?_)|(refine aa.aj (f:=112) ?_;refine aa.he (HE.eU rfl rfl (fun w' _=>iR _ _ _ _ _ _ _ _ _ _ _ _ _ _ _ _ _ _ w')) rfl ?_;rintro⟨⟩ _)|fail)
   all_goals first|omega|skip
   all_goals(refine ah.aM (.inl rfl) rfl rfl rfl rfl rfl aH rfl rfl ?_;exact fun w' hw'=>gG.err (e:=_) (fH.mk ..) O0 hw'.at)
end Go.Proofs.YtdkcljdfbemnbaaGreatDoor
