import Derived.Test.YtdkcljdfbemnbaaGreatDoorJUb
namespace Go.Proofs.YtdkcljdfbemnbaaGreatDoor
open Go.RowKit _root_.Go.Proofs.Tryz
set_option maxHeartbeats 16000000
open List renaming cons_append→Pq,length_append→Py,nil_append→Pp
set_option maxRecDepth 100000
theorem yM (sp:Nat) (s:ck) (y:Value×Value) (op:Int) (_ho:op=26) (w:World) (hw:Ok (aX sp s y) [] w) (hwf:s.Wf):Calls G.P 55 #[.pointer (some ⟨sp,0,none⟩),.int .i64 op] w (fe sp s y (.int .i64 (aZ s).2.2) (aZ s).1 w):=by
 obtain⟨tv,pv⟩:=y
 refine ae (l:=[_,_]) func55 rfl ntmps55 rfl (Ok.dk hw) ?_;unfold fe;generalize hS:Mb (aX sp s (tv,pv))=S0;dsimp only[aX]
 repeat'(first|refine ar ?_|fail)
 refine NT ?_
 rintro⟨tv1,pv1⟩ _
 obtain⟨pr1,hpr1⟩:∃r,aZ s=r:=⟨_,rfl⟩
 have wf1:(aZ s).1.Wf:=jm hwf
 have tl1:(aZ s).1.ts.length≤s.ts.length:=jM s
 rw[hpr1]at wf1 tl1 ⊢
 obtain⟨s1,a1,e1⟩:=pr1
 dsimp only[aX,Pq,Pp]at wf1 tl1 ⊢
 by_cases he:e1=0
 ·subst he
  repeat'(first|refine ar ?_|fail)
  all_goals exact ap
 ·repeat'(first|refine ar ?_|fail)
  all_goals exact ap
theorem wO (sp:Nat) (s:ck) (y:Value×Value) (op:Int) (_ho:op=209) (w:World) (hw:Ok (aX sp s y) [] w) (hwf:s.Wf) (hb:(s.ts.length+1)*8≤140737488355328):Calls G.P 55 #[.pointer (some ⟨sp,0,none⟩),.int .i64 op] w (fe sp s y (.int .i64 (if(aZ s).2.2≠0 then(aZ s).2.2 else if(aZ s).2.1=1∨(aZ s).2.1=2 then 12 else 0)) (if(aZ s).2.2≠0 then(aZ s).1 else if(aZ s).2.1=1∨(aZ s).2.1=2 then(aZ s).1 else aS (aZ s).1 [1]) w):=by
 have:=hb;clear this
 obtain⟨tv,pv⟩:=y
 refine ae (l:=[_,_]) func55 rfl ntmps55 rfl (Ok.dk hw) ?_;unfold fe;generalize hS:Mb (aX sp s (tv,pv))=S0;dsimp only[aX]
 repeat'(first|refine ar ?_|(refine bC ?_ ?_<;>intro hc_))
 refine NT ?_
 rintro⟨tv1,pv1⟩ _
 obtain⟨pr1,hpr1⟩:∃r,aZ s=r:=⟨_,rfl⟩
 have wf1:(aZ s).1.Wf:=jm hwf
 have tl1:(aZ s).1.ts.length≤s.ts.length:=jM s
 rw[hpr1]at wf1 tl1 ⊢
 obtain⟨s1,a1,e1⟩:=pr1
 dsimp only[aX,Pq,Pp]at wf1 tl1 ⊢
 by_cases he:e1=0
 ·subst he
  repeat rw[if_neg (show¬((0:Int)≠0)from fun h=>h rfl)]
  by_cases hbad:a1=1∨a1=2
  ·repeat rw[if_pos hbad]
   repeat'(first|refine ar ?_|(refine bC ?_ ?_<;>intro hc_))
   all_goals exact ap
  ·repeat rw[if_neg hbad]
   have n1:a1≠1:=fun h=>hbad (.inl h)
   have n2:a1≠2:=fun h=>hbad (.inr h)
   repeat'(first|refine ar ?_|(refine fC fun b_ _=>?_)|(refine bC ?_ ?_<;>intro hc_))
   obtain⟨bl,rfl⟩:∃y:Nat,y=b_:=⟨_,rfl⟩
   refine aa.freeze (q:=.aW bl [.int .i64 1] fR) (fun w=>ai (fun k=>k=bl) w (.slice (some ⟨bl,0,none⟩) 1 1) [1]) jH (fun w' h _=>dJ h) ?_
   refine aa.he (HE.bJ (M0:=aX sp s1 (tv1,pv1)) dU rfl rfl (fun w' hw'=>gZ (fun k=>k=bl) sp s1 (tv1,pv1) (.slice (some ⟨bl,0,none⟩) 1 1) [1] w' (hw'.dc dV aU) wf1.some (by show(s1.ts.length+1)*8≤_;omega))) rfl ?_
   rintro⟨tv2,pv2⟩ _
   dsimp only[aX,Pq,Pp]
   repeat'(first|refine ar ?_|(refine bC ?_ ?_<;>intro hc_))
   all_goals exact t8
 ·repeat rw[if_pos he]
  repeat'(first|refine ar ?_|(refine bC ?_ ?_<;>intro hc_))
  all_goals exact ap
theorem wm (F:Nat→Prop) (c:gA) (y:jC) (op:Int) (f:aO) (fp fq:Option Addr) (fc fd:Nat) (w:World) (h:cG c F w y) (hf:dH f F w (.slice fp f.params.length fc,.slice fq f.results.length fd)) (hs:c.ao.Wf) (_hfl:c.fs.length≤1000000) (hpl:c.ao.ps.length≤1000000) (_hb:c.ao.ts.length+f.params.length≤17592186044416) (ho:op=4) (_hn:c.fs.length≠0):Calls G.P 66 #[.agg (eO c y).toArray,.int .i64 op,.agg #[.slice fp f.params.length fc,.slice fq f.results.length fd]] w (gG (if(aL c.ao [1]).2≠0 then(c,(aL c.ao [1]).2)else if(aL (aL c.ao [1]).1 f.params).2≠0 then(c,(aL (aL c.ao [1]).1 f.params).2)else({c with ao:=aS (aV (aL (aL c.ao [1]).1 f.params).1) f.params,fs:=c.fs++[⟨op,f.params,f.results,(ix c.fs (c.fs.length - 1)).live,(ix c.fs (c.fs.length - 1)).live⟩]},0)) F w):=by
 have:=ho;clear this
 have hps:=hs.some
 have hat:=hs.at_
 obtain⟨p1,c1,p2,c2,p3,c3,p4,c4,p5,c5,ey,k4,h4,kz⟩:=h.gx
 have hn0:0<c.fs.length:=by omega
 obtain⟨_,_,g1,k1,g2,k2,_,-,e5,-,-⟩:=h.frame (i:=c.fs.length - 1) Pi
 have hz:=h.2.1
 have hI2:∀D w',Ext w w'→ai (AF F w D) w' (.slice fp f.params.length fc) f.params:=fun D w' hx=>(((hf.1.mono (fun k hk hF=>⟨hF,hk⟩):ai (fun k=>F k∧k<w.heap.size) w _ _)).aN hx (fun _ _ _ h=>h)).mono fun k _ h=>.inl h
 obtain⟨y,fv,rv,z⟩:=y
 cases ey
 dsimp only at e5 hz kz
 refine Mu ?_
 dsimp only[eO]
 have hn':¬(c.fs.length:Int)=0:=by omega
 refine ar ?_
 refine aa.box [.slice p1 c.ao.ts.length c1,.slice p2 c.ao.ps.length c2,.slice p3 c.ao.ps.length c3,.int .i64 c.ao.bR,.slice p4 c.fs.length c4,.slice p5 c.results.length c5,.int .i64 0] rfl rfl rfl fun b3=>?_
 refine aa.box [.slice fp f.params.length fc,.slice fq f.results.length fd] rfl rfl rfl fun b5=>?_
 refine aa.alloc (t:=119) [.slice none 0 0,.slice none 0 0,.slice none 0 0,.int .i64 0,.slice none 0 0,.slice none 0 0,.int .i64 0] rfl rfl rfl fun b6=>?_
 obtain⟨r1,hr1⟩:∃r,aL c.ao [1]=r:=⟨_,rfl⟩
 obtain⟨s1,e1⟩:=r1
 rw[hr1]
 have hw1:s1.Wf:=by have:=dE hs [1];rw[hr1]at this;exact this
 have hps1:s1.ps=c.ao.ps:=by have:=ft c.ao [1];rw[hr1]at this;exact this
 have hts1:s1.ts.length≤c.ao.ts.length:=by have:=dD c.ao [1];rw[hr1]at this;exact this
 have hpl1:s1.ps.length≤1000000:=by rw[hps1];exact hpl
 have hp0:=hs.some
 have ha0:=hs.at_.1
 have hle1:=hs.at_.2
 dsimp only
 repeat'(first|refine ar ?_|(refine fC fun b_ _=>?_)|fail)
 by_cases he1:e1=0
 ·subst he1
  rw[if_neg (fun h=>h rfl)]
  refine aa.he (HE.bV (V:=bw c.ao) (V2:=bw s1) (w0:=w) (F:=F) (D:=(fun _=>False)) (y:=⟨.slice p1 c.ao.ts.length c1,.slice p2 c.ao.ps.length c2,.slice p3 c.ao.ps.length c3⟩) (bw.fr _) (bw.lt _) (bw.mo _) ak bO (fun _=>aH) rfl rfl (fun w' hw' hh=>by have:=fa _ _ c.ao ⟨.slice p1 c.ao.ts.length c1,.slice p2 c.ao.ps.length c2,.slice p3 c.ao.ps.length c3⟩ (.slice (some ⟨b_,0,none⟩) 1 1) [1] w' hh (dJ (hw'.m (.aW b_ [.int .i64 1] fR) bO).1) hp0 ha0 hle1;rw[hr1]at this;exact this.mono fun _ _ g=>oS.to g)) rfl ?_
  rintro⟨D1,x1⟩ _
  refine aa.pure (φ:=∃q1 d1 q2 d2 q3 d3,x1=⟨.slice q1 s1.ts.length d1,.slice q2 s1.ps.length d2,.slice q3 s1.ps.length d3⟩) (fun w' hw'=>by obtain⟨q1,d1,q2,d2,q3,d3,e,-⟩:=(hw'.an (V:=bw s1) (w0:=w) (F:=F) (D:=D1) (y:=x1) ak bO).gx;exact⟨q1,d1,q2,d2,q3,d3,e⟩) ?_
  rintro⟨m1,mc1,m2,mc2,m3,mc3,rfl⟩
  dsimp only[gw]
  clear hp0 ha0 hle1
  have hp0:=hw1.some
  have ha0:=hw1.at_.1
  have hle1:=hw1.at_.2
  repeat'(first|refine ar ?_|(refine ew fun b_=>?_)|(refine dy fun b_=>?_)|fail)
  refine aa.jO (gj.iu [.slice m1 s1.ts.length mc1,.slice m2 s1.ps.length mc2,.slice m3 s1.ps.length mc3,.int .i64 s1.bR] [.slice m1 s1.ts.length mc1,.slice m2 s1.ps.length mc2,.slice m3 s1.ps.length mc3,.int .i64 s1.bR,.slice p4 c.fs.length c4,.slice p5 c.results.length c5,.int .i64 0] rfl rfl rfl rfl rfl rfl aH rfl rfl) ?_
  rintro⟨⟩ _
  obtain⟨r2,hr2⟩:∃r,aL s1 f.params=r:=⟨_,rfl⟩
  obtain⟨s2,e2⟩:=r2
  rw[hr2]
  have hw2:s2.Wf:=by have:=dE hw1 f.params;rw[hr2]at this;exact this
  have hps2:s2.ps=s1.ps:=by have:=ft s1 f.params;rw[hr2]at this;exact this
  have hts2:s2.ts.length≤s1.ts.length:=by have:=dD s1 f.params;rw[hr2]at this;exact this
  dsimp only
  by_cases he2:e2=0
  ·subst he2
   rw[if_neg (fun h=>h rfl)]
   repeat'(first|refine ar ?_|fail)
   refine aa.he (HE.bV (V:=bw s1) (V2:=bw s2) (w0:=w) (F:=F) (D:=D1) (y:=⟨.slice m1 s1.ts.length mc1,.slice m2 s1.ps.length mc2,.slice m3 s1.ps.length mc3⟩) (bw.fr _) (bw.lt _) (bw.mo _) ak bO (fun _=>aH) rfl rfl (fun w' hw' hh=>by have:=fa _ _ s1 ⟨.slice m1 s1.ts.length mc1,.slice m2 s1.ps.length mc2,.slice m3 s1.ps.length mc3⟩ (.slice fp f.params.length fc) f.params w' hh (hf.1.aN (show Ext w w' from hw'.at) (fun _ _ _ h=>h)) hp0 ha0 hle1;rw[hr2]at this;exact this.mono fun _ _ g=>oS.to g)) rfl ?_
   rintro⟨D2,x2⟩ _
   refine aa.pure (φ:=∃q1 d1 q2 d2 q3 d3,x2=⟨.slice q1 s2.ts.length d1,.slice q2 s2.ps.length d2,.slice q3 s2.ps.length d3⟩) (fun w' hw'=>by obtain⟨q1,d1,q2,d2,q3,d3,e,-⟩:=(hw'.an (V:=bw s2) (w0:=w) (F:=F) (D:=D2) (y:=x2) ak bO).gx;exact⟨q1,d1,q2,d2,q3,d3,e⟩) ?_
   rintro⟨r1,rc1,r2,rc2,r3,rc3,rfl⟩
   dsimp only[gw]
   repeat'(first|refine ar ?_|(refine ew fun b_=>?_)|(refine dy fun b_=>?_)|fail)
   obtain⟨b10,rfl⟩:∃y:Nat,y=b_:=⟨_,rfl⟩
   refine Mv ?_
   repeat'(first|refine CZ ?_|(refine bA.dA 61 ?_;refine bA.he rfl rfl (HE.bV (V:=bw s2) (V2:=bw (aV s2)) (tf:=fun y=>.agg (gw (aV s2) y).toArray) (w0:=w) (F:=F) (D:=D2) (y:=⟨.slice r1 s2.ts.length rc1,.slice r2 s2.ps.length rc2,.slice r3 s2.ps.length rc3⟩) (bw.fr _) (bw.lt _) (bw.mo _) ak bO (fun _=>aH) rfl rfl (fun w' hw' hh=>ns _ s2 ⟨.slice r1 s2.ts.length rc1,.slice r2 s2.ps.length rc2,.slice r3 s2.ps.length rc3⟩ w' hh (by rw[hps2];exact hpl1))) (fun _=>bz) (fun _=>aU) ?_;rintro⟨D3,x3⟩ _;refine db.pure (φ:=∃q1 d1 q2 d2 q3 d3,x3=⟨.slice q1 (aV s2).ts.length d1,.slice q2 (aV s2).ps.length d2,.slice q3 (aV s2).ps.length d3⟩) (fun w' hw'=>by obtain⟨q1,d1,q2,d2,q3,d3,e,-⟩:=(hw'.an (V:=bw (aV s2)) (w0:=w) (F:=F) (D:=D3) (y:=x3) ak bO).gx;exact⟨q1,d1,q2,d2,q3,d3,e⟩) ?_;rintro⟨u1,uc1,u2,uc2,u3,uc3,rfl⟩;dsimp only[gw])|(refine bA.dA 113 ?_;refine bA.he rfl rfl (HE.bV (V:=bw (aV s2)) (V2:=bw (aS (aV s2) f.params)) (tf:=fun y=>.agg (gw (aS (aV s2) f.params) y).toArray) (w0:=w) (F:=F) (D:=D3) (y:=⟨.slice u1 (aV s2).ts.length uc1,.slice u2 (aV s2).ps.length uc2,.slice u3 (aV s2).ps.length uc3⟩) (bw.fr _) (bw.lt _) (bw.mo _) ak bO (fun _=>aH) rfl rfl (fun w' hw' hh=>kc _ (aV s2) ⟨.slice u1 (aV s2).ts.length uc1,.slice u2 (aV s2).ps.length uc2,.slice u3 (aV s2).ps.length uc3⟩ (.slice fp f.params.length fc) f.params w' hh (hI2 _ w' hw'.at) (by show s2.ts.length+_≤_;omega))) (fun _=>bz) (fun _=>aU) ?_;rintro⟨D4,x4⟩ _;refine db.pure (φ:=∃q1 d1 q2 d2 q3 d3,x4=⟨.slice q1 (aS (aV s2) f.params).ts.length d1,.slice q2 (aS (aV s2) f.params).ps.length d2,.slice q3 (aS (aV s2) f.params).ps.length d3⟩) (fun w' hw'=>by obtain⟨q1,d1,q2,d2,q3,d3,e,-⟩:=(hw'.an (V:=bw (aS (aV s2) f.params)) (w0:=w) (F:=F) (D:=D4) (y:=x4) ak bO).gx;exact⟨q1,d1,q2,d2,q3,d3,e⟩) ?_;rintro⟨v1,vc1,v2,vc2,v3,vc3,rfl⟩;dsimp only[gw])|(refine bA.iO rfl (gj.iu [.slice v1 (aS (aV s2) f.params).ts.length vc1,.slice v2 (aS (aV s2) f.params).ps.length vc2,.slice v3 (aS (aV s2) f.params).ps.length vc3,.int .i64 (aS (aV s2) f.params).bR] [.slice v1 (aS (aV s2) f.params).ts.length vc1,.slice v2 (aS (aV s2) f.params).ps.length vc2,.slice v3 (aS (aV s2) f.params).ps.length vc3,.int .i64 (aS (aV s2) f.params).bR,.slice p4 c.fs.length c4,.slice p5 c.results.length c5,.int .i64 0] rfl rfl rfl rfl rfl rfl aH rfl rfl) ?_;rintro⟨⟩ _)|refine db.any O9 ?_|exact cw.fin rfl|refine cw.skip O9 ?_|refine cw.go ?_ ?_)
   obtain⟨s4,hs4⟩:∃s,aS (aV s2) f.params=s:=⟨_,rfl⟩
   rw[hs4]
   have htop:∀w',Ext w w'→bw s4 (fun _=>True) w' ⟨.slice v1 s4.ts.length vc1,.slice v2 s4.ps.length vc2,.slice v3 s4.ps.length vc3⟩→Calls G.P 63 #[.agg #[.slice v1 s4.ts.length vc1,.slice v2 s4.ps.length vc2,.slice v3 s4.ps.length vc3,.int .i64 s4.bR,.slice p4 c.fs.length c4,.slice p5 c.results.length c5,.int .i64 0]] w' fun e w2=>e=.returned (.agg #[.int .i64 (ix c.fs (c.fs.length - 1)).op,.slice g1 (ix c.fs (c.fs.length - 1)).par.length k1,.slice g2 (ix c.fs (c.fs.length - 1)).res.length k2,.bool (ix c.fs (c.fs.length - 1)).live,.bool (ix c.fs (c.fs.length - 1)).lq])∧Ext w' w2:=fun w' hx hh=>by
    have:=ke _ {c with ao:=s4} _ w' (cG.at h hx hh) hn0
    dsimp only[eO]at this
    rw[e5]at this
    exact this
   repeat'(first|refine ar ?_|fail)
   refine Mw ?_
   rintro⟨⟩ _
   refine aa.y_ (Yl.iy (T:=4) (o:=3) Pb Pb rfl rfl rfl rfl) rfl ?_
   repeat'(first|refine ar ?_|fail)
   refine Mx ?_
   repeat'(first|refine CZ ?_|(refine bA.ix 0 ?_;refine bA.he rfl rfl (HE.jG rfl rfl rfl rfl rfl er Pk Pk) (fun _=>bz) (fun _=>aU) ?_;intro b6a _;refine db.map (fun w' hw'=>hw'.jN (b:=b6a) (len:=0) (s:=5) (T:=Gg) aH rfl (Nat.zero_le _)) ?_)|(refine bA.ix 3 ?_;refine bA.he rfl rfl (HE.gR (kY z) rfl rfl (fun _=>aH) ((vc hz ak).imp_left fun h=>by omega) (by rw[kZ,kz]) rfl rfl rfl Pk Pk Pk (oY _ hz.Gj) (by show(0+c.fs.length)*64≤140737488355328;omega) Pi (fun _ _=>Nat.zero_le _)) (fun _=>bz) (fun _=>aU) ?_;intro va _;simp only[Nat.zero_add,Pp];refine db.pure (φ:=∃p cc,va=.slice p c.fs.length cc) (fun w' hw'=>by obtain⟨p,cc,e,_⟩:=aw (hw'.own (v:=va));exact⟨p,cc,e⟩) ?_;rintro⟨pa,ca,rfl⟩)|(refine bA.ix 9 ?_;refine bA.he rfl rfl (HE.jG rfl rfl rfl rfl rfl er Pk Pk) (fun _=>bz) (fun _=>aU) ?_;intro b7a _)|(refine bA.ix 10 ?_;refine bA.he rfl rfl (HE.app (cs:=[.int .i64 op,.slice fp f.params.length fc,.slice fq f.results.length fd,.bool (ix c.fs (c.fs.length - 1)).live,.bool (ix c.fs (c.fs.length - 1)).live]) rfl rfl (fun _=>aH) aH rfl rfl rfl Pk Pk Pk Pk Pk Pk Pi (fun _ _=>Nat.zero_le _)) (fun _=>bz) (fun _=>aU) ?_;intro vb _;refine db.pure (φ:=∃p cc,vb=.slice p (c.fs.length+1) cc∧c.fs.length+1≤cc) (fun w' hw'=>by obtain⟨p,cc,e,h,_⟩:=aw (hw'.own (v:=vb));exact⟨p,cc,e,h⟩) ?_;rintro⟨pb,cb,rfl,hcb⟩)|(refine bA.iO rfl (gj.iu [.slice pb (c.fs.length+1) cb] [.slice v1 s4.ts.length vc1,.slice v2 s4.ps.length vc2,.slice v3 s4.ps.length vc3,.int .i64 s4.bR,.slice pb (c.fs.length+1) cb,.slice p5 c.results.length c5,.int .i64 0] rfl rfl rfl rfl rfl rfl aH rfl rfl) ?_;rintro⟨⟩ _)|refine db.any O9 ?_|exact cw.fin rfl|refine cw.skip O9 ?_|refine cw.go ?_ ?_)
   all_goals
    repeat'(first|refine ar ?_|fail)
    refine My ?_
    intro w' hw'
    have hE:Ext w w':=hw'.at
    have hsd:=(cG.fr c h hE (fun _ _ _ h=>h)).mono (H:=fun k=>F k∨w.heap.size≤k) fun _ h=>.inl h
    have g:=oX (F:=F) (z++[(⟨op,f.params,f.results,(ix c.fs (c.fs.length - 1)).live,(ix c.fs (c.fs.length - 1)).live⟩,.slice fp f.params.length fc,.slice fq f.results.length fd)]) hw' ak bO (by rw[Py,kz];rfl) (by rw[qY];rfl) (by rw[Py,kz];show c.fs.length+1≤_;omega) (fun a ha=>by
     rcases List.mem_append.1 ha with ha|ha
     ·exact hsd.2.1.Gj a ha
     ·rw[List.mem_singleton.1 ha]
      exact dH.GH (dH.fr _ hf hE (fun _ _ _ h=>h)) fun _ _ h=>.inl h)
    have g1:=hw'.new (V:=bw s4) (w:=w) (F:=F) (D:=D4) (y:=⟨.slice v1 s4.ts.length vc1,.slice v2 s4.ps.length vc2,.slice v3 s4.ps.length vc3⟩) (bw.mo _) ak bO
    have:=gG.ok (c:={c with ao:=s4,fs:=c.fs++[⟨op,f.params,f.results,(ix c.fs (c.fs.length - 1)).live,(ix c.fs (c.fs.length - 1)).live⟩]}) (⟨⟨.slice v1 s4.ts.length vc1,.slice v2 s4.ps.length vc2,.slice v3 s4.ps.length vc3⟩,.slice pb (c.fs.length+1) cb,.slice p5 c.results.length c5,z++[(⟨op,f.params,f.results,(ix c.fs (c.fs.length - 1)).live,(ix c.fs (c.fs.length - 1)).live⟩,.slice fp f.params.length fc,.slice fq f.results.length fd)]⟩:jC) (F:=F) (w:=w) (w':=w') ⟨g1,g,hsd.2.2.1,hcb,by dsimp only;rw[List.map_append,h.2.2.2.2];rfl⟩ hE
    exact this
  ·rw[if_pos he2]
   repeat'(first|refine ar ?_|fail)
   refine aa.he (HE.bV (V:=bw s1) (V2:=ky) (w0:=w) (F:=F) (D:=D1) (y:=⟨.slice m1 s1.ts.length mc1,.slice m2 s1.ps.length mc2,.slice m3 s1.ps.length mc3⟩) ky.fr ky.lt ky.mo ak bO (fun _=>aH) rfl rfl (fun w' hw' hh=>by have:=fa _ _ s1 ⟨.slice m1 s1.ts.length mc1,.slice m2 s1.ps.length mc2,.slice m3 s1.ps.length mc3⟩ (.slice fp f.params.length fc) f.params w' hh (hf.1.aN (show Ext w w' from hw'.at) (fun _ _ _ h=>h)) hp0 ha0 hle1;rw[hr2]at this;exact this.mono fun _ _ g=>oS.re g)) rfl ?_
   rintro⟨D2,x2⟩ _
   refine Mz ?_
   rintro⟨q1,n1,d1,q2,n2,d2,q3,n3,d3,rfl⟩
   dsimp only[gw]
   repeat'(first|refine ar ?_|(refine ew fun b_=>?_)|(refine dy fun b_=>?_)|(refine aa.aj (f:=112) ?_;refine aa.he (HE.eU rfl rfl (fun w' _=>iR _ _ _ _ _ _ _ _ _ _ _ _ _ _ _ _ _ _ w')) rfl ?_;rintro⟨⟩ _)|fail)
   all_goals first|omega|skip
   all_goals(refine ah.aM (.inl rfl) rfl rfl rfl rfl rfl aH rfl rfl ?_;exact fun w' hw'=>gG.err (e:=_) (fH.mk ..) O0 hw'.at)
 ·rw[if_pos he1]
  refine aa.he (HE.bV (V:=bw c.ao) (V2:=ky) (w0:=w) (F:=F) (D:=(fun _=>False)) (y:=⟨.slice p1 c.ao.ts.length c1,.slice p2 c.ao.ps.length c2,.slice p3 c.ao.ps.length c3⟩) ky.fr ky.lt ky.mo ak bO (fun _=>aH) rfl rfl (fun w' hw' hh=>by have:=fa _ _ c.ao ⟨.slice p1 c.ao.ts.length c1,.slice p2 c.ao.ps.length c2,.slice p3 c.ao.ps.length c3⟩ (.slice (some ⟨b_,0,none⟩) 1 1) [1] w' hh (dJ (hw'.m (.aW b_ [.int .i64 1] fR) bO).1) hp0 ha0 hle1;rw[hr1]at this;exact this.mono fun _ _ g=>oS.re g)) rfl ?_
  rintro⟨D2,x2⟩ _
  refine Mz ?_
  rintro⟨q1,n1,d1,q2,n2,d2,q3,n3,d3,rfl⟩
  dsimp only[gw]
  repeat'(first|refine ar ?_|(refine ew fun b_=>?_)|(refine dy fun b_=>?_)|(refine aa.aj (f:=112) ?_;refine aa.he (HE.eU rfl rfl (fun w' _=>iR _ _ _ _ _ _ _ _ _ _ _ _ _ _ _ _ _ _ w')) rfl ?_;rintro⟨⟩ _)|fail)
  all_goals first|omega|skip
  all_goals(refine ah.aM (.inl rfl) rfl rfl rfl rfl rfl aH rfl rfl ?_;exact fun w' hw'=>gG.err (e:=_) (fH.mk ..) O0 hw'.at)
end Go.Proofs.YtdkcljdfbemnbaaGreatDoor
