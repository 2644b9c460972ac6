import Derived.Test.YtdkcljdfbemnbaaGreatDoorJVh
namespace Go.Proofs.YtdkcljdfbemnbaaGreatDoor
open Go.RowKit
set_option maxHeartbeats 16000000
set_option maxRecDepth 100000
theorem cG.Kt {c:gA} {F D:Nat→Prop} {s:ck} {w w':World} {y:jC} {x:jT} (h:cG c F w y) (hx:Ext w w') (hr:bw s (AF F w D) w' x):cG {c with ao:=s} (AF F w D) w' {y with r:=x}:=by
 have h2:=(cG.fr c (cG.lt c h) hx (fun _ _ _ h=>h)).mono (H:=AF F w D) fun _ hk=>.inl hk
 exact⟨hr,h2.2⟩
def xi (c:gA):gA×Int:=
 if c.fs.length=0∨(ix c.fs (c.fs.length - 1)).op≠4 then(c,16)else if(cQ c.ao (ix c.fs (c.fs.length - 1)).res).2≠0 then(c,(cQ c.ao (ix c.fs (c.fs.length - 1)).res).2)else
  ({c with ao:=aS (aV (cQ c.ao (ix c.fs (c.fs.length - 1)).res).1) (ix c.fs (c.fs.length - 1)).par,fs:=c.fs.take (c.fs.length - 1)++[{ix c.fs (c.fs.length - 1)with op:=5,live:=(ix c.fs (c.fs.length - 1)).lq}]},0)
variable (F:Nat→Prop) (c:gA)
theorem sO (y:jC) (w:World) (h:cG c F w y) (hs:c.ao.Wf) (_hfl:c.fs.length≤1000000) (_hpl:c.ao.ps.length≤1000000) (_hn:c.fs.length=0):Calls G.P 67 #[.agg (eO c y).toArray] w (gG (c,16) F w):=by
 have hp0:=hs.some
 have ha0:=hs.at_.1
 have hle0:=hs.at_.2
 obtain⟨p1,c1,p2,c2,p3,c3,p4,c4,p5,c5,ey,k4,h4,kz⟩:=h.gx
 obtain⟨y,fv,rv,z⟩:=y
 cases ey
 refine MI ?_
 dsimp only[eO]
 have hn':(c.fs.length:Int)=0:=by omega
 repeat'(first|refine ar ?_|(refine NX fun b_=>?_)|fail)
 all_goals exact pp
theorem wk (y:jC) (w:World) (h:cG c F w y) (hs:c.ao.Wf) (_hfl:c.fs.length≤1000000) (_hpl:c.ao.ps.length≤1000000) (_hn:c.fs.length≠0) (_ho:(ix c.fs (c.fs.length - 1)).op≠4):Calls G.P 67 #[.agg (eO c y).toArray] w (gG (c,16) F w):=by
 have hp0:=hs.some
 have ha0:=hs.at_.1
 have hle0:=hs.at_.2
 obtain⟨p1,c1,p2,c2,p3,c3,p4,c4,p5,c5,ey,k4,h4,kz⟩:=h.gx
 obtain⟨_,_,g1,k1,g2,k2,_,-,e5,hfx,-⟩:=h.frame (i:=c.fs.length - 1) Pi
 have hz:=h.2.1
 have htop:∀w',Ext w w'→Calls G.P 63 #[.agg (eO c y).toArray] w' fun e w2=>e=.returned (.agg #[.int .i64 (ix c.fs (c.fs.length - 1)).op,.slice g1 (ix c.fs (c.fs.length - 1)).par.length k1,.slice g2 (ix c.fs (c.fs.length - 1)).res.length k2,.bool (ix c.fs (c.fs.length - 1)).live,.bool (ix c.fs (c.fs.length - 1)).lq])∧Ext w' w2:=fun w' hx=>by
  have:=ke F c y w' (cG.fr c h hx (fun _ _ _ h=>h)) Pi
  rw[e5]at this
  exact this
 obtain⟨y,fv,rv,z⟩:=y
 cases ey
 dsimp only[eO]at e5 hz kz hfx htop
 rw[e5]at hfx
 have hI:∀l v,ai F w v l→∀D w',Ext w w'→ai (AF F w D) w' v l:=fun l v hv D w' hx=>(((hv.mono (fun k hk hF=>⟨hF,hk⟩):ai (fun k=>F k∧k<w.heap.size) w _ _)).aN hx (fun _ _ _ h=>h)).mono fun k _ h=>.inl h
 refine MI ?_
 dsimp only[eO]
 have hn':¬(c.fs.length:Int)=0:=by omega
 repeat'(first|refine ar ?_|(refine NX fun b_=>?_)|refine Oi ?_|(refine aa.yg O8 (Yl.iy (T:=63) (o:=0) Pb Pb rfl rfl rfl rfl) rfl ?_)|fail)
 all_goals exact pp
theorem yF (y:jC) (w:World) (h:cG c F w y) (hs:c.ao.Wf) (hfl:c.fs.length≤1000000) (_hpl:c.ao.ps.length≤1000000) (_hn:c.fs.length≠0) (ho:(ix c.fs (c.fs.length - 1)).op=4) (hp2:2≤c.ao.ps.length) (_hb:c.ao.ts.length+(ix c.fs (c.fs.length - 1)).par.length≤17592186044416):Calls G.P 67 #[.agg (eO c y).toArray] w (gG (if(cQ c.ao (ix c.fs (c.fs.length - 1)).res).2≠0 then(c,(cQ c.ao (ix c.fs (c.fs.length - 1)).res).2)else
  ({c with ao:=aS (aV (cQ c.ao (ix c.fs (c.fs.length - 1)).res).1) (ix c.fs (c.fs.length - 1)).par,fs:=c.fs.take (c.fs.length - 1)++[{ix c.fs (c.fs.length - 1)with op:=5,live:=(ix c.fs (c.fs.length - 1)).lq}]},0)) F w):=by
 have:=ho;clear this
 have hp0:=hs.some
 have ha0:=hs.at_.1
 have hle0:=hs.at_.2
 obtain⟨p1,c1,p2,c2,p3,c3,p4,c4,p5,c5,ey,k4,h4,kz⟩:=h.gx
 obtain⟨_,_,g1,k1,g2,k2,_,-,e5,hfx,-⟩:=h.frame (i:=c.fs.length - 1) Pi
 have hz:=h.2.1
 have htop:∀w',Ext w w'→Calls G.P 63 #[.agg (eO c y).toArray] w' fun e w2=>e=.returned (.agg #[.int .i64 (ix c.fs (c.fs.length - 1)).op,.slice g1 (ix c.fs (c.fs.length - 1)).par.length k1,.slice g2 (ix c.fs (c.fs.length - 1)).res.length k2,.bool (ix c.fs (c.fs.length - 1)).live,.bool (ix c.fs (c.fs.length - 1)).lq])∧Ext w' w2:=fun w' hx=>by
  have:=ke F c y w' (cG.fr c h hx (fun _ _ _ h=>h)) Pi
  rw[e5]at this
  exact this
 obtain⟨y,fv,rv,z⟩:=y
 cases ey
 dsimp only[eO]at e5 hz kz hfx htop
 rw[e5]at hfx
 have hI:∀l v,ai F w v l→∀D w',Ext w w'→ai (AF F w D) w' v l:=fun l v hv D w' hx=>(((hv.mono (fun k hk hF=>⟨hF,hk⟩):ai (fun k=>F k∧k<w.heap.size) w _ _)).aN hx (fun _ _ _ h=>h)).mono fun k _ h=>.inl h
 refine MI ?_
 dsimp only[eO]
 have hn':¬(c.fs.length:Int)=0:=by omega
 obtain⟨r1,hr1⟩:∃r,cQ c.ao (ix c.fs (c.fs.length - 1)).res=r:=⟨_,rfl⟩
 obtain⟨s1,e1⟩:=r1
 rw[hr1]
 have hts1:s1.ts.length≤c.ao.ts.length:=by have:=mW c.ao (ix c.fs (c.fs.length - 1)).res;rw[hr1]at this;exact this
 dsimp only
 repeat'(first|refine ar ?_|(refine NX fun b_=>?_)|(refine aa.aj (f:=63) ?_;refine aa.av rfl rfl rfl (fun w' hw'=>htop w' hw'.at) ?_)|refine Oi ?_|(refine aa.yg O8 (Yl.iy (T:=63) (o:=0) Pb Pb rfl rfl rfl rfl) rfl ?_)|fail)
 all_goals first|omega|skip
 obtain⟨b4,rfl⟩:∃y:Nat,y=b_:=⟨_,rfl⟩
 by_cases he1:e1=0
 ·subst he1
  rw[if_neg (fun h=>h rfl)]
  obtain⟨hpa,hpb⟩:0<s1.ps.length∧s1.ps.length≤c.ao.ps.length:=by have:=vp c.ao (ix c.fs (c.fs.length - 1)).res hp2 (by rw[hr1]);rw[hr1]at this;exact this
  refine aa.he (HE.bV (V:=bw c.ao) (V2:=bw s1) (w0:=w) (F:=F) (D:=fun _=>False) (y:=⟨.slice p1 c.ao.ts.length c1,.slice p2 c.ao.ps.length c2,.slice p3 c.ao.ps.length c3⟩) (bw.fr _) (bw.lt _) (bw.mo _) ak bO (fun _=>aH) rfl rfl (fun w' hw' hh=>by have:=nw _ F c.ao ⟨.slice p1 c.ao.ts.length c1,.slice p2 c.ao.ps.length c2,.slice p3 c.ao.ps.length c3⟩ (.slice g2 (ix c.fs (c.fs.length - 1)).res.length k2) (ix c.fs (c.fs.length - 1)).res w' hh (hfx.2.aN (show Ext w w' from hw'.at) (fun _ _ _ h=>h)) hp2 ha0 hle0;rw[hr1]at this;exact this.mono fun _ _ g=>oS.to g)) rfl ?_
  rintro⟨D1,x1⟩ _
  refine aa.pure (φ:=∃q1 d1 q2 d2 q3 d3,x1=⟨.slice q1 s1.ts.length d1,.slice q2 s1.ps.length d2,.slice q3 s1.ps.length d3⟩) (fun w' hw'=>by obtain⟨q1,d1,q2,d2,q3,d3,e,-⟩:=(hw'.an (V:=bw s1) (w0:=w) (F:=F) (D:=D1) (y:=x1) ak bO).gx;exact⟨q1,d1,q2,d2,q3,d3,e⟩) ?_
  rintro⟨r1,rc1,r2,rc2,r3,rc3,rfl⟩
  dsimp only[gw]
  repeat'(first|refine ar ?_|(refine NY fun b_=>?_)|fail)
  obtain⟨b5,rfl⟩:∃y:Nat,y=b_:=⟨_,rfl⟩
  refine bh.iB 7 [.aW b5 [.slice r1 s1.ts.length rc1,.slice r2 s1.ps.length rc2,.slice r3 s1.ps.length rc3,.int .i64 s1.bR] nZ,.aW b4 [.int .i64 (ix c.fs (c.fs.length - 1)).op,.slice g1 (ix c.fs (c.fs.length - 1)).par.length k1,.slice g2 (ix c.fs (c.fs.length - 1)).res.length k2,.bool (ix c.fs (c.fs.length - 1)).live,.bool (ix c.fs (c.fs.length - 1)).lq] Gg] [Ext w] bz aU ?_
  repeat'(first|refine CZ ?_|(refine bA.dA 61 ?_;refine bA.he rfl rfl (HE.bV (V:=bw s1) (V2:=bw (aV s1)) (tf:=fun y=>.agg (gw (aV s1) y).toArray) (w0:=w) (F:=F) (D:=D1) (y:=⟨.slice r1 s1.ts.length rc1,.slice r2 s1.ps.length rc2,.slice r3 s1.ps.length rc3⟩) (bw.fr _) (bw.lt _) (bw.mo _) ak bO (fun _=>aH) rfl rfl (fun w' hw' hh=>ns _ s1 ⟨.slice r1 s1.ts.length rc1,.slice r2 s1.ps.length rc2,.slice r3 s1.ps.length rc3⟩ w' hh Pi)) (fun _=>bz) (fun _=>aU) ?_;rintro⟨D3,x3⟩ _;refine db.pure (φ:=∃q1 d1 q2 d2 q3 d3,x3=⟨.slice q1 (aV s1).ts.length d1,.slice q2 (aV s1).ps.length d2,.slice q3 (aV s1).ps.length d3⟩) (fun w' hw'=>by obtain⟨q1,d1,q2,d2,q3,d3,e,-⟩:=(hw'.an (V:=bw (aV s1)) (w0:=w) (F:=F) (D:=D3) (y:=x3) ak bO).gx;exact⟨q1,d1,q2,d2,q3,d3,e⟩) ?_;rintro⟨u1,uc1,u2,uc2,u3,uc3,rfl⟩;dsimp only[gw])|(refine bA.dA 113 ?_;refine bA.he rfl rfl (HE.bV (V:=bw (aV s1)) (V2:=bw (aS (aV s1) (ix c.fs (c.fs.length - 1)).par)) (tf:=fun y=>.agg (gw (aS (aV s1) (ix c.fs (c.fs.length - 1)).par) y).toArray) (w0:=w) (F:=F) (D:=D3) (y:=⟨.slice u1 (aV s1).ts.length uc1,.slice u2 (aV s1).ps.length uc2,.slice u3 (aV s1).ps.length uc3⟩) (bw.fr _) (bw.lt _) (bw.mo _) ak bO (fun _=>aH) rfl rfl (fun w' hw' hh=>kc _ (aV s1) ⟨.slice u1 (aV s1).ts.length uc1,.slice u2 (aV s1).ps.length uc2,.slice u3 (aV s1).ps.length uc3⟩ (.slice g1 (ix c.fs (c.fs.length - 1)).par.length k1) (ix c.fs (c.fs.length - 1)).par w' hh (hI _ _ hfx.1 _ w' hw'.at) (by show s1.ts.length+_≤_;omega))) (fun _=>bz) (fun _=>aU) ?_;rintro⟨D4,x4⟩ _;refine db.pure (φ:=∃q1 d1 q2 d2 q3 d3,x4=⟨.slice q1 (aS (aV s1) (ix c.fs (c.fs.length - 1)).par).ts.length d1,.slice q2 (aS (aV s1) (ix c.fs (c.fs.length - 1)).par).ps.length d2,.slice q3 (aS (aV s1) (ix c.fs (c.fs.length - 1)).par).ps.length d3⟩) (fun w' hw'=>by obtain⟨q1,d1,q2,d2,q3,d3,e,-⟩:=(hw'.an (V:=bw (aS (aV s1) (ix c.fs (c.fs.length - 1)).par)) (w0:=w) (F:=F) (D:=D4) (y:=x4) ak bO).gx;exact⟨q1,d1,q2,d2,q3,d3,e⟩) ?_;rintro⟨v1,vc1,v2,vc2,v3,vc3,rfl⟩;dsimp only[gw])|(refine bA.iO rfl (gj.iu [.slice v1 (aS (aV s1) (ix c.fs (c.fs.length - 1)).par).ts.length vc1,.slice v2 (aS (aV s1) (ix c.fs (c.fs.length - 1)).par).ps.length vc2,.slice v3 (aS (aV s1) (ix c.fs (c.fs.length - 1)).par).ps.length vc3,.int .i64 (aS (aV s1) (ix c.fs (c.fs.length - 1)).par).bR] [.slice v1 (aS (aV s1) (ix c.fs (c.fs.length - 1)).par).ts.length vc1,.slice v2 (aS (aV s1) (ix c.fs (c.fs.length - 1)).par).ps.length vc2,.slice v3 (aS (aV s1) (ix c.fs (c.fs.length - 1)).par).ps.length vc3,.int .i64 (aS (aV s1) (ix c.fs (c.fs.length - 1)).par).bR,.slice p4 c.fs.length c4,.slice p5 c.results.length c5,.int .i64 0] rfl rfl rfl rfl rfl rfl aH rfl rfl) ?_;rintro⟨⟩ _)|refine db.any O9 ?_|exact cw.fin rfl|refine cw.skip O9 ?_|refine cw.go ?_ ?_)
  obtain⟨s4,hs4⟩:∃s,aS (aV s1) (ix c.fs (c.fs.length - 1)).par=s:=⟨_,rfl⟩
  rw[hs4]
  repeat'(first|refine ar ?_|fail)
  refine aa.he (HE.bV (V:=bw s4) (V2:=cG {c with ao:=s4,fs:=c.fs.take (c.fs.length - 1)++[{ix c.fs (c.fs.length - 1)with op:=5,live:=(ix c.fs (c.fs.length - 1)).lq}]}) (tf:=fun y=>.agg (eO {c with ao:=s4,fs:=c.fs.take (c.fs.length - 1)++[{ix c.fs (c.fs.length - 1)with op:=5,live:=(ix c.fs (c.fs.length - 1)).lq}]} y).toArray) (w0:=w) (F:=F) (D:=D4) (y:=⟨.slice v1 s4.ts.length vc1,.slice v2 s4.ps.length vc2,.slice v3 s4.ps.length vc3⟩) (cG.fr _) (cG.lt _) (cG.mo _) ak bO (fun _=>aH) rfl rfl (fun w' hw' hh=>by have:=uH _ {c with ao:=s4} ⟨⟨.slice v1 s4.ts.length vc1,.slice v2 s4.ps.length vc2,.slice v3 s4.ps.length vc3⟩,.slice p4 c.fs.length c4,.slice p5 c.results.length c5,z⟩ {ix c.fs (c.fs.length - 1)with op:=5,live:=(ix c.fs (c.fs.length - 1)).lq} (.slice g1 (ix c.fs (c.fs.length - 1)).par.length k1,.slice g2 (ix c.fs (c.fs.length - 1)).res.length k2) w' (cG.Kt h hw'.at hh) ⟨hI _ _ hfx.1 _ w' hw'.at,hI _ _ hfx.2 _ w' hw'.at⟩ (by show 0<c.fs.length;omega) hfl;exact this)) rfl ?_
  rintro⟨D5,y5⟩ _
  refine aa.pure (φ:=∃a1 n1 c1 a2 n2 c2 a3 n3 c3 a4 n4 c4 a5 n5 c5,∃z:List vI,y5=⟨⟨.slice a1 n1 c1,.slice a2 n2 c2,.slice a3 n3 c3⟩,.slice a4 n4 c4,.slice a5 n5 c5,z⟩) (fun w' hw'=>by obtain⟨p1,c1,p2,c2,p3,c3,p4,c4,p5,c5,e,-⟩:=(hw'.an (V:=cG {c with ao:=s4,fs:=c.fs.take (c.fs.length - 1)++[{ix c.fs (c.fs.length - 1)with op:=5,live:=(ix c.fs (c.fs.length - 1)).lq}]}) (w0:=w) (F:=F) (D:=D5) (y:=y5) ak bO).gx;exact⟨p1,_,c1,p2,_,c2,p3,_,c3,p4,_,c4,p5,_,c5,_,e⟩) ?_
  rintro⟨t1,m1,l1,t2,m2,l2,t3,m3,l3,t4,m4,l4,t5,m5,l5,z5,rfl⟩
  dsimp only[eO]
  repeat'(first|refine ar ?_|fail)
  refine My ?_
  exact fun w' hw'=>gG.ok (c:={c with ao:=s4,fs:=c.fs.take (c.fs.length - 1)++[{ix c.fs (c.fs.length - 1)with op:=5,live:=(ix c.fs (c.fs.length - 1)).lq}]}) ⟨⟨.slice t1 m1 l1,.slice t2 m2 l2,.slice t3 m3 l3⟩,.slice t4 m4 l4,.slice t5 m5 l5,z5⟩ (hw'.new (V:=cG {c with ao:=s4,fs:=c.fs.take (c.fs.length - 1)++[{ix c.fs (c.fs.length - 1)with op:=5,live:=(ix c.fs (c.fs.length - 1)).lq}]}) (w:=w) (F:=F) (D:=D5) (y:=⟨⟨.slice t1 m1 l1,.slice t2 m2 l2,.slice t3 m3 l3⟩,.slice t4 m4 l4,.slice t5 m5 l5,z5⟩) (cG.mo _) ak bO) hw'.at
 ·rw[if_pos he1]
  refine aa.he (HE.bV (V:=bw c.ao) (V2:=ky) (w0:=w) (F:=F) (D:=fun _=>False) (y:=⟨.slice p1 c.ao.ts.length c1,.slice p2 c.ao.ps.length c2,.slice p3 c.ao.ps.length c3⟩) ky.fr ky.lt ky.mo ak bO (fun _=>aH) rfl rfl (fun w' hw' hh=>by have:=nw _ F c.ao ⟨.slice p1 c.ao.ts.length c1,.slice p2 c.ao.ps.length c2,.slice p3 c.ao.ps.length c3⟩ (.slice g2 (ix c.fs (c.fs.length - 1)).res.length k2) (ix c.fs (c.fs.length - 1)).res w' hh (hfx.2.aN (show Ext w w' from hw'.at) (fun _ _ _ h=>h)) hp2 ha0 hle0;rw[hr1]at this;exact this.mono fun _ _ g=>oS.re g)) rfl ?_
  rintro⟨D2,x2⟩ _
  refine Mz ?_
  rintro⟨q1,n1,d1,q2,n2,d2,q3,n3,d3,rfl⟩
  dsimp only[gw]
  repeat'(first|refine ar ?_|(refine NY fun b_=>?_)|(refine aa.aj (f:=112) ?_;refine aa.he (HE.eU rfl rfl (fun w' _=>iR _ _ _ _ _ _ _ _ _ _ _ _ _ _ _ _ _ _ w')) rfl ?_;rintro⟨⟩ _)|fail)
  all_goals first|omega|skip
  all_goals(refine ah.aM (.inl rfl) rfl rfl rfl rfl rfl aH rfl rfl ?_;exact fun w' hw'=>gG.err (e:=_) (fH.mk ..) O0 hw'.at)
end Go.Proofs.YtdkcljdfbemnbaaGreatDoor
