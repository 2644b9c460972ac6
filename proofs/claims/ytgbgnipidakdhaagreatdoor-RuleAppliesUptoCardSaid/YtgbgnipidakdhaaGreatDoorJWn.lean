/- The reference's control frames (layer 22): Enter, opcode 4. Printed by gen_vi.py. -/
import Derived.Test.YtgbgnipidakdhaaGreatDoorJVh
import Derived.Test.YtgbgnipidakdhaaGreatDoorJWb
import Derived.Test.YtgbgnipidakdhaaGreatDoorJWz
namespace Go.Proofs.YtgbgnipidakdhaaGreatDoor
open Go.RowKit
set_option maxRecDepth 100000
set_option maxHeartbeats 16000000 in
theorem ur (F:Nat→Prop) (c:fN) (y:iP) (op:Int) (f:aL) (fp fq:Option Addr) (fc fd:Nat) (w:World) (h:bY c F w y) (hf:dr f F w (.slice fp f.params.length fc,.slice fq f.results.length fd)) (hs:c.ao.Wf) (hfl:c.fs.length≤1000000) (hpl:c.ao.ps.length≤1000000) (hb:c.ao.ts.length+f.params.length≤17592186044416) (ho:op=4) (hn:c.fs.length≠0):Calls G.P 20 #[.agg (er c y).toArray,.int .i64 op,.agg #[.slice fp f.params.length fc,.slice fq f.results.length fd]] w (fT (if(aE c.ao [1]).2≠0 then(c,(aE c.ao [1]).2)else if(aE (aE c.ao [1]).1 f.params).2≠0 then(c,(aE (aE c.ao [1]).1 f.params).2)else({c with ao:=aJ (aR (aE (aE c.ao [1]).1 f.params).1) f.params,fs:=c.fs++[⟨op,f.params,f.results,(ix c.fs (c.fs.length - 1)).live,(ix c.fs (c.fs.length - 1)).live⟩]},0)) F w):=by
 have hps:=hs.some
 have hat:=hs.at_
 obtain⟨p1,c1,p2,c2,p3,c3,p4,c4,p5,c5,ey,k4,h4,kz⟩:=h.fP
 have hn0:0<c.fs.length:=by omega
 obtain⟨_,_,g1,k1,g2,k2,_,-,e5,-,-⟩:=h.frame (i:=c.fs.length - 1) Mj
 have hz:=h.2.1
 have hI2:∀D w',Ext w w'→af (AF F w D) w' (.slice fp f.params.length fc) f.params:=fun D w' hx=>(((hf.1.mono (fun k hk hF=>⟨hF,hk⟩):af (fun k=>F k∧k<w.heap.size) w _ _)).aO hx (fun _ _ _ h=>h)).mono fun k _ h=>.inl h
 obtain⟨y,fv,rv,z⟩:=y
 cases ey
 dsimp only at e5 hz kz
 refine JF ?_
 dsimp only[er]
 have hn':¬(c.fs.length:Int)=0:=by omega
 refine ar ?_
 refine aa.box [.slice p1 c.ao.ts.length c1,.slice p2 c.ao.ps.length c2,.slice p3 c.ao.ps.length c3,.int .i64 c.ao.bH,.slice p4 c.fs.length c4,.slice p5 c.results.length c5,.int .i64 0] rfl rfl rfl fun b3=>?_
 refine aa.box [.slice fp f.params.length fc,.slice fq f.results.length fd] rfl rfl rfl fun b5=>?_
 refine aa.alloc (t:=73) [.slice none 0 0,.slice none 0 0,.slice none 0 0,.int .i64 0,.slice none 0 0,.slice none 0 0,.int .i64 0] rfl rfl rfl fun b6=>?_
 obtain⟨r1,hr1⟩:∃r,aE c.ao [1]=r:=⟨_,rfl⟩
 obtain⟨s1,e1⟩:=r1
 rw[hr1]
 have hw1:s1.Wf:=by have:=dn hs [1];rw[hr1]at this;exact this
 have hps1:s1.ps=c.ao.ps:=by have:=eM c.ao [1];rw[hr1]at this;exact this
 have hts1:s1.ts.length≤c.ao.ts.length:=by have:=dp c.ao [1];rw[hr1]at this;exact this
 have hpl1:s1.ps.length≤1000000:=by rw[hps1];exact hpl
 have hp0:=hs.some
 have ha0:=hs.at_.1
 have hle1:=hs.at_.2
 dsimp only
 repeat'(first|refine ar ?_|(refine eH fun b_ _=>?_)|fail)
 by_cases he1:e1=0
 ·subst he1
  rw[if_neg (fun h=>h rfl)]
  refine aa.he (HE.bF (V:=aY c.ao) (V2:=aY s1) (w0:=w) (F:=F) (D:=(fun _=>False)) (y:=⟨.slice p1 c.ao.ts.length c1,.slice p2 c.ao.ps.length c2,.slice p3 c.ao.ps.length c3⟩) (aY.fr _) (aY.lt _) (aY.mo _) ak bG (fun _=>aA) rfl rfl (fun w' hw' hh=>by have:=eC _ _ c.ao ⟨.slice p1 c.ao.ts.length c1,.slice p2 c.ao.ps.length c2,.slice p3 c.ao.ps.length c3⟩ (.slice (some ⟨b_,0,none⟩) 1 1) [1] w' hh (cZ (hw'.m (.aT b_ [.int .i64 1] fY) bG).1) hp0 ha0 hle1;rw[hr1]at this;exact this.mono fun _ _ g=>nm.to g)) rfl ?_
  rintro⟨D1,x1⟩ _
  refine aa.pure (φ:=∃q1 d1 q2 d2 q3 d3,x1=⟨.slice q1 s1.ts.length d1,.slice q2 s1.ps.length d2,.slice q3 s1.ps.length d3⟩) (fun w' hw'=>by obtain⟨q1,d1,q2,d2,q3,d3,e,-⟩:=(hw'.an (V:=aY s1) (w0:=w) (F:=F) (D:=D1) (y:=x1) ak bG).fP;exact⟨q1,d1,q2,d2,q3,d3,e⟩) ?_
  rintro⟨m1,mc1,m2,mc2,m3,mc3,rfl⟩
  dsimp only[fI]
  clear hp0 ha0 hle1
  have hp0:=hw1.some
  have ha0:=hw1.at_.1
  have hle1:=hw1.at_.2
  repeat'(first|refine ar ?_|(refine dK fun b_=>?_)|(refine dc fun b_=>?_)|fail)
  refine aa.jf (fQ.gx [.slice m1 s1.ts.length mc1,.slice m2 s1.ps.length mc2,.slice m3 s1.ps.length mc3,.int .i64 s1.bH] [.slice m1 s1.ts.length mc1,.slice m2 s1.ps.length mc2,.slice m3 s1.ps.length mc3,.int .i64 s1.bH,.slice p4 c.fs.length c4,.slice p5 c.results.length c5,.int .i64 0] rfl rfl rfl rfl rfl rfl aA rfl rfl) ?_
  rintro⟨⟩ _
  obtain⟨r2,hr2⟩:∃r,aE s1 f.params=r:=⟨_,rfl⟩
  obtain⟨s2,e2⟩:=r2
  rw[hr2]
  have hw2:s2.Wf:=by have:=dn hw1 f.params;rw[hr2]at this;exact this
  have hps2:s2.ps=s1.ps:=by have:=eM s1 f.params;rw[hr2]at this;exact this
  have hts2:s2.ts.length≤s1.ts.length:=by have:=dp s1 f.params;rw[hr2]at this;exact this
  dsimp only
  by_cases he2:e2=0
  ·subst he2
   rw[if_neg (fun h=>h rfl)]
   repeat'(first|refine ar ?_|fail)
   refine aa.he (HE.bF (V:=aY s1) (V2:=aY s2) (w0:=w) (F:=F) (D:=D1) (y:=⟨.slice m1 s1.ts.length mc1,.slice m2 s1.ps.length mc2,.slice m3 s1.ps.length mc3⟩) (aY.fr _) (aY.lt _) (aY.mo _) ak bG (fun _=>aA) rfl rfl (fun w' hw' hh=>by have:=eC _ _ s1 ⟨.slice m1 s1.ts.length mc1,.slice m2 s1.ps.length mc2,.slice m3 s1.ps.length mc3⟩ (.slice fp f.params.length fc) f.params w' hh (hf.1.aO (show Ext w w' from hw'.at) (fun _ _ _ h=>h)) hp0 ha0 hle1;rw[hr2]at this;exact this.mono fun _ _ g=>nm.to g)) rfl ?_
   rintro⟨D2,x2⟩ _
   refine aa.pure (φ:=∃q1 d1 q2 d2 q3 d3,x2=⟨.slice q1 s2.ts.length d1,.slice q2 s2.ps.length d2,.slice q3 s2.ps.length d3⟩) (fun w' hw'=>by obtain⟨q1,d1,q2,d2,q3,d3,e,-⟩:=(hw'.an (V:=aY s2) (w0:=w) (F:=F) (D:=D2) (y:=x2) ak bG).fP;exact⟨q1,d1,q2,d2,q3,d3,e⟩) ?_
   rintro⟨r1,rc1,r2,rc2,r3,rc3,rfl⟩
   dsimp only[fI]
   repeat'(first|refine ar ?_|(refine dK fun b_=>?_)|(refine dc fun b_=>?_)|fail)
   obtain⟨b10,rfl⟩:∃y:Nat,y=b_:=⟨_,rfl⟩
   refine JG ?_
   repeat'(first|refine Bl ?_|(refine bu.ep 52 ?_;refine bu.he rfl rfl (HE.bF (V:=aY s2) (V2:=aY (aR s2)) (tf:=fun y=>.agg (fI (aR s2) y).toArray) (w0:=w) (F:=F) (D:=D2) (y:=⟨.slice r1 s2.ts.length rc1,.slice r2 s2.ps.length rc2,.slice r3 s2.ps.length rc3⟩) (aY.fr _) (aY.lt _) (aY.mo _) ak bG (fun _=>aA) rfl rfl (fun w' hw' hh=>lP _ s2 ⟨.slice r1 s2.ts.length rc1,.slice r2 s2.ps.length rc2,.slice r3 s2.ps.length rc3⟩ w' hh (by rw[hps2];exact hpl1))) (fun _=>bc) (fun _=>aV) ?_;rintro⟨D3,x3⟩ _;refine cK.pure (φ:=∃q1 d1 q2 d2 q3 d3,x3=⟨.slice q1 (aR s2).ts.length d1,.slice q2 (aR s2).ps.length d2,.slice q3 (aR s2).ps.length d3⟩) (fun w' hw'=>by obtain⟨q1,d1,q2,d2,q3,d3,e,-⟩:=(hw'.an (V:=aY (aR s2)) (w0:=w) (F:=F) (D:=D3) (y:=x3) ak bG).fP;exact⟨q1,d1,q2,d2,q3,d3,e⟩) ?_;rintro⟨u1,uc1,u2,uc2,u3,uc3,rfl⟩;dsimp only[fI])|(refine bu.ep 25 ?_;refine bu.he rfl rfl (HE.bF (V:=aY (aR s2)) (V2:=aY (aJ (aR s2) f.params)) (tf:=fun y=>.agg (fI (aJ (aR s2) f.params) y).toArray) (w0:=w) (F:=F) (D:=D3) (y:=⟨.slice u1 (aR s2).ts.length uc1,.slice u2 (aR s2).ps.length uc2,.slice u3 (aR s2).ps.length uc3⟩) (aY.fr _) (aY.lt _) (aY.mo _) ak bG (fun _=>aA) rfl rfl (fun w' hw' hh=>iH _ (aR s2) ⟨.slice u1 (aR s2).ts.length uc1,.slice u2 (aR s2).ps.length uc2,.slice u3 (aR s2).ps.length uc3⟩ (.slice fp f.params.length fc) f.params w' hh (hI2 _ w' hw'.at) (by show s2.ts.length+_≤_;omega))) (fun _=>bc) (fun _=>aV) ?_;rintro⟨D4,x4⟩ _;refine cK.pure (φ:=∃q1 d1 q2 d2 q3 d3,x4=⟨.slice q1 (aJ (aR s2) f.params).ts.length d1,.slice q2 (aJ (aR s2) f.params).ps.length d2,.slice q3 (aJ (aR s2) f.params).ps.length d3⟩) (fun w' hw'=>by obtain⟨q1,d1,q2,d2,q3,d3,e,-⟩:=(hw'.an (V:=aY (aJ (aR s2) f.params)) (w0:=w) (F:=F) (D:=D4) (y:=x4) ak bG).fP;exact⟨q1,d1,q2,d2,q3,d3,e⟩) ?_;rintro⟨v1,vc1,v2,vc2,v3,vc3,rfl⟩;dsimp only[fI])|(refine bu.iq rfl (fQ.gx [.slice v1 (aJ (aR s2) f.params).ts.length vc1,.slice v2 (aJ (aR s2) f.params).ps.length vc2,.slice v3 (aJ (aR s2) f.params).ps.length vc3,.int .i64 (aJ (aR s2) f.params).bH] [.slice v1 (aJ (aR s2) f.params).ts.length vc1,.slice v2 (aJ (aR s2) f.params).ps.length vc2,.slice v3 (aJ (aR s2) f.params).ps.length vc3,.int .i64 (aJ (aR s2) f.params).bH,.slice p4 c.fs.length c4,.slice p5 c.results.length c5,.int .i64 0] rfl rfl rfl rfl rfl rfl aA rfl rfl) ?_;rintro⟨⟩ _)|refine cK.any LX ?_|exact bZ.fin rfl|refine bZ.skip LX ?_|refine bZ.go ?_ ?_)
   obtain⟨s4,hs4⟩:∃s,aJ (aR s2) f.params=s:=⟨_,rfl⟩
   rw[hs4]
   have htop:∀w',Ext w w'→aY s4 (fun _=>True) w' ⟨.slice v1 s4.ts.length vc1,.slice v2 s4.ps.length vc2,.slice v3 s4.ps.length vc3⟩→Calls G.P 60 #[.agg #[.slice v1 s4.ts.length vc1,.slice v2 s4.ps.length vc2,.slice v3 s4.ps.length vc3,.int .i64 s4.bH,.slice p4 c.fs.length c4,.slice p5 c.results.length c5,.int .i64 0]] w' fun e w2=>e=.returned (.agg #[.int .i64 (ix c.fs (c.fs.length - 1)).op,.slice g1 (ix c.fs (c.fs.length - 1)).par.length k1,.slice g2 (ix c.fs (c.fs.length - 1)).res.length k2,.bool (ix c.fs (c.fs.length - 1)).live,.bool (ix c.fs (c.fs.length - 1)).kf])∧Ext w' w2:=fun w' hx hh=>by
    have:=jm _ {c with ao:=s4} _ w' (bY.at h hx hh) hn0
    dsimp only[er]at this
    rw[e5]at this
    exact this
   repeat'(first|refine ar ?_|fail)
   refine JH ?_
   rintro⟨⟩ _
   refine aa.y_ (Yl.gB (T:=4) (o:=3) L9 L9 rfl rfl rfl rfl) rfl ?_
   repeat'(first|refine ar ?_|fail)
   refine JI ?_
   repeat'(first|refine Bl ?_|(refine bu.ix 0 ?_;refine bu.he rfl rfl (HE.jJ rfl rfl rfl rfl rfl eT Ml Ml) (fun _=>bc) (fun _=>aV) ?_;intro b6a _;refine cK.map (fun w' hw'=>hw'.iS (b:=b6a) (len:=0) (s:=5) (T:=Ek) aA rfl (Nat.zero_le _)) ?_)|(refine bu.ix 3 ?_;refine bu.he rfl rfl (HE.gA (j6 z) rfl rfl (fun _=>aA) ((rS hz ak).imp_left fun h=>by omega) (by rw[jZ,kz]) rfl rfl rfl Ml Ml Ml (nk _ hz.Dk) (by show(0+c.fs.length)*64≤140737488355328;omega) Mj (fun _ _=>Nat.zero_le _)) (fun _=>bc) (fun _=>aV) ?_;intro va _;simp only[Nat.zero_add,List.nil_append];refine cK.pure (φ:=∃p cc,va=.slice p c.fs.length cc) (fun w' hw'=>by obtain⟨p,cc,e,_⟩:=ax (hw'.own (v:=va));exact⟨p,cc,e⟩) ?_;rintro⟨pa,ca,rfl⟩)|(refine bu.ix 9 ?_;refine bu.he rfl rfl (HE.jJ rfl rfl rfl rfl rfl eT Ml Ml) (fun _=>bc) (fun _=>aV) ?_;intro b7a _)|(refine bu.ix 10 ?_;refine bu.he rfl rfl (HE.app (cs:=[.int .i64 op,.slice fp f.params.length fc,.slice fq f.results.length fd,.bool (ix c.fs (c.fs.length - 1)).live,.bool (ix c.fs (c.fs.length - 1)).live]) rfl rfl (fun _=>aA) aA rfl rfl rfl Ml Ml Ml Ml Ml Ml Mj (fun _ _=>Nat.zero_le _)) (fun _=>bc) (fun _=>aV) ?_;intro vb _;refine cK.pure (φ:=∃p cc,vb=.slice p (c.fs.length+1) cc∧c.fs.length+1≤cc) (fun w' hw'=>by obtain⟨p,cc,e,h,_⟩:=ax (hw'.own (v:=vb));exact⟨p,cc,e,h⟩) ?_;rintro⟨pb,cb,rfl,hcb⟩)|(refine bu.iq rfl (fQ.gx [.slice pb (c.fs.length+1) cb] [.slice v1 s4.ts.length vc1,.slice v2 s4.ps.length vc2,.slice v3 s4.ps.length vc3,.int .i64 s4.bH,.slice pb (c.fs.length+1) cb,.slice p5 c.results.length c5,.int .i64 0] rfl rfl rfl rfl rfl rfl aA rfl rfl) ?_;rintro⟨⟩ _)|refine cK.any LX ?_|exact bZ.fin rfl|refine bZ.skip LX ?_|refine bZ.go ?_ ?_)
   all_goals
    repeat'(first|refine ar ?_|fail)
    refine IR ?_
    intro w' hw'
    have hE:Ext w w':=hw'.at
    have hsd:=(bY.fr c h hE (fun _ _ _ h=>h)).mono (H:=fun k=>F k∨w.heap.size≤k) fun _ h=>.inl h
    have g:=nj (F:=F) (z++[(⟨op,f.params,f.results,(ix c.fs (c.fs.length - 1)).live,(ix c.fs (c.fs.length - 1)).live⟩,.slice fp f.params.length fc,.slice fq f.results.length fd)]) hw' ak bG (by rw[List.length_append,kz];rfl) (by rw[oq];rfl) (by rw[List.length_append,kz];show c.fs.length+1≤_;omega) (fun a ha=>by
     rcases List.mem_append.1 ha with ha|ha
     ·exact hsd.2.1.Dk a ha
     ·rw[List.mem_singleton.1 ha]
      exact dr.Dq (dr.fr _ hf hE (fun _ _ _ h=>h)) fun _ _ h=>.inl h)
    have g1:=hw'.new (V:=aY s4) (w:=w) (F:=F) (D:=D4) (y:=⟨.slice v1 s4.ts.length vc1,.slice v2 s4.ps.length vc2,.slice v3 s4.ps.length vc3⟩) (aY.mo _) ak bG
    have:=fT.ok (c:={c with ao:=s4,fs:=c.fs++[⟨op,f.params,f.results,(ix c.fs (c.fs.length - 1)).live,(ix c.fs (c.fs.length - 1)).live⟩]}) (⟨⟨.slice v1 s4.ts.length vc1,.slice v2 s4.ps.length vc2,.slice v3 s4.ps.length vc3⟩,.slice pb (c.fs.length+1) cb,.slice p5 c.results.length c5,z++[(⟨op,f.params,f.results,(ix c.fs (c.fs.length - 1)).live,(ix c.fs (c.fs.length - 1)).live⟩,.slice fp f.params.length fc,.slice fq f.results.length fd)]⟩:iP) (F:=F) (w:=w) (w':=w') ⟨g1,g,hsd.2.2.1,hcb,by dsimp only;rw[List.map_append,h.2.2.2.2];rfl⟩ hE
    exact this
  ·rw[if_pos he2]
   repeat'(first|refine ar ?_|fail)
   refine aa.he (HE.bF (V:=aY s1) (V2:=jD) (w0:=w) (F:=F) (D:=D1) (y:=⟨.slice m1 s1.ts.length mc1,.slice m2 s1.ps.length mc2,.slice m3 s1.ps.length mc3⟩) jD.fr jD.lt jD.mo ak bG (fun _=>aA) rfl rfl (fun w' hw' hh=>by have:=eC _ _ s1 ⟨.slice m1 s1.ts.length mc1,.slice m2 s1.ps.length mc2,.slice m3 s1.ps.length mc3⟩ (.slice fp f.params.length fc) f.params w' hh (hf.1.aO (show Ext w w' from hw'.at) (fun _ _ _ h=>h)) hp0 ha0 hle1;rw[hr2]at this;exact this.mono fun _ _ g=>nm.oQ g)) rfl ?_
   rintro⟨D2,x2⟩ _
   refine JJ ?_
   rintro⟨q1,n1,d1,q2,n2,d2,q3,n3,d3,rfl⟩
   dsimp only[fI]
   repeat'(first|refine ar ?_|(refine dK fun b_=>?_)|(refine dc fun b_=>?_)|(refine aa.ai (f:=59) ?_;refine aa.he (HE.dX rfl rfl (fun w' _=>hO _ _ _ _ _ _ _ _ _ _ _ _ _ _ _ _ _ _ w')) rfl ?_;rintro⟨⟩ _)|fail)
   all_goals first|omega|skip
   all_goals(refine ah.aF (.inl rfl) rfl rfl rfl rfl rfl aA rfl rfl ?_;exact fun w' hw'=>fT.err (e:=_) (fh.mk ..) LO hw'.at)
 ·rw[if_pos he1]
  refine aa.he (HE.bF (V:=aY c.ao) (V2:=jD) (w0:=w) (F:=F) (D:=(fun _=>False)) (y:=⟨.slice p1 c.ao.ts.length c1,.slice p2 c.ao.ps.length c2,.slice p3 c.ao.ps.length c3⟩) jD.fr jD.lt jD.mo ak bG (fun _=>aA) rfl rfl (fun w' hw' hh=>by have:=eC _ _ c.ao ⟨.slice p1 c.ao.ts.length c1,.slice p2 c.ao.ps.length c2,.slice p3 c.ao.ps.length c3⟩ (.slice (some ⟨b_,0,none⟩) 1 1) [1] w' hh (cZ (hw'.m (.aT b_ [.int .i64 1] fY) bG).1) hp0 ha0 hle1;rw[hr1]at this;exact this.mono fun _ _ g=>nm.oQ g)) rfl ?_
  rintro⟨D2,x2⟩ _
  refine JJ ?_
  rintro⟨q1,n1,d1,q2,n2,d2,q3,n3,d3,rfl⟩
  dsimp only[fI]
  repeat'(first|refine ar ?_|(refine dK fun b_=>?_)|(refine dc fun b_=>?_)|(refine aa.ai (f:=59) ?_;refine aa.he (HE.dX rfl rfl (fun w' _=>hO _ _ _ _ _ _ _ _ _ _ _ _ _ _ _ _ _ _ w')) rfl ?_;rintro⟨⟩ _)|fail)
  all_goals first|omega|skip
  all_goals(refine ah.aF (.inl rfl) rfl rfl rfl rfl rfl aA rfl rfl ?_;exact fun w' hw'=>fT.err (e:=_) (fh.mk ..) LO hw'.at)
def zH (i:Int) (x:lh):Bool:=decide (x.kind=0) && decide (x.index=i)
theorem oH {α:Type} [Inhabited α] {l:List α} {f:α→Bool} {j:Nat} (hj:j<l.length):(l.take (j+1)).any f=((l.take j).any f || f (ix l j)):=by rw[bE hj,List.any_append];simp
theorem qF {α:Type} {l:List α} {f:α→Bool} {j:Nat} (h:(l.take j).any f=true):l.any f=true:=by
 rw[List.any_eq_true]at h ⊢
 obtain⟨x,hx,h⟩:=h
 exact⟨x,List.mem_of_mem_take hx,h⟩
theorem CQ (m:aj) (i:Int) (h0:0≤i) (h1:i<(fX m).length):mB m i=(m.bh.any (zH i) || m.globals.any (fun g=>named g.mE i) || m.elems.any (fun e=>e.items.any fun l=>named l i)):=by
 unfold mB d6 d4
 rw[decide_eq_true h0,decide_eq_true h1,List.take_length,List.take_length]
 unfold zH
 rw[Bool.eq_iff_iff]
 simp only[Bool.true_and,Bool.or_eq_true]
 constructor
 ·rintro((h|h)|h)
  ·exact .inl (.inr h)
  ·exact .inr h
  ·exact .inl (.inl h)
 ·rintro((h|h)|h)
  ·exact .inr h
  ·exact .inl (.inl h)
  ·exact .inl (.inr h)
theorem xB (m:aj) (i:Int) (h:¬(0≤i∧i<(fX m).length)):mB m i=false:=by
 unfold mB
 by_cases a:0≤i
 ·rw[decide_eq_false (show¬i<((fX m).length:Int)by omega)];simp
 ·rw[decide_eq_false a];simp
set_option maxHeartbeats 16000000 in
theorem mQ (F:Nat→Prop) (m:aj) (i:Int) (cs:List Value) (w:World) (hm:ay F w cs m):Calls G.P 146 #[.agg cs.toArray,.int .i64 i] w fun e w'=>e=.returned (.bool (mB m i))∧Ext w w':=by
 have hm0:=hm
 obtain⟨v0,v1,v2,v3,v4,v5,v6,v7,v8,v9,rfl,r0,r1,r2,r3,r4,r5,r6,r7,r8,r9,g0⟩:=hm;obtain⟨p0,c0,rfl,l0⟩:=r0.slice;obtain⟨p1,c1,rfl,l1⟩:=r1.slice;obtain⟨p2,c2,rfl,l2⟩:=r2.slice;obtain⟨p3,c3,rfl,l3⟩:=r3.slice;obtain⟨p4,c4,rfl,l4⟩:=r4.slice;obtain⟨p5,c5,rfl,l5⟩:=r5.slice;obtain⟨p6,c6,rfl,l6⟩:=r6.slice;obtain⟨p7,c7,rfl,l7⟩:=r7.slice;obtain⟨p8,c8,rfl,l8⟩:=r8.slice;obtain⟨p9,c9,rfl,l9⟩:=r9.slice
 have hfn:∀w',Ext w w'→Calls G.P 172 #[.agg (([Value.slice p0 m.types.length c0,Value.slice p1 m.imports.length c1,Value.slice p2 m.funcs.length c2,Value.slice p3 m.tables.length c3,Value.slice p4 m.da.length c4,Value.slice p5 m.globals.length c5,Value.slice p6 m.bh.length c6,Value.bool m.br,Value.int .i64 m.start,Value.slice p7 m.elems.length c7,Value.slice p8 m.bD.length c8,Value.slice p9 m.dI.length c9]:List Value)).toArray] w' fun e w2=>e=.returned (.int .i64 (fX m).length)∧Ext w' w2:=fun w' hx=>xz F m _ w' (hm0.aO hx (fun _ _ _ h=>h))
 by_cases h0:0≤i
 ·by_cases h1:i<(fX m).length
  ·rw[CQ m i h0 h1]
   refine Ku ?_
   repeat'(first|refine ar ?_|fail)
   refine aa.box ([Value.slice p0 m.types.length c0,Value.slice p1 m.imports.length c1,Value.slice p2 m.funcs.length c2,Value.slice p3 m.tables.length c3,Value.slice p4 m.da.length c4,Value.slice p5 m.globals.length c5,Value.slice p6 m.bh.length c6,Value.bool m.br,Value.int .i64 m.start,Value.slice p7 m.elems.length c7,Value.slice p8 m.bD.length c8,Value.slice p9 m.dI.length c9]:List Value) rfl rfl rfl fun b=>?_
   repeat'(first|refine ar ?_|fail)
   refine aa.bV rfl rfl rfl rfl (fun w' hw'=>hfn w' hw'.at) ?_
   repeat'(first|refine ar ?_|fail)
   refine aZ.loop (σ:=Nat) (fun j=>[(1,.int .i64 i),(2,.pointer (some ⟨b,0,none⟩)),(5,.int .i64 j)]) (fun _=>[.aT b ([Value.slice p0 m.types.length c0,Value.slice p1 m.imports.length c1,Value.slice p2 m.funcs.length c2,Value.slice p3 m.tables.length c3,Value.slice p4 m.da.length c4,Value.slice p5 m.globals.length c5,Value.slice p6 m.bh.length c6,Value.bool m.br,Value.int .i64 m.start,Value.slice p7 m.elems.length c7,Value.slice p8 m.bD.length c8,Value.slice p9 m.dI.length c9]:List Value) kU]) (fun _=>[Ext w]) (fun j=>j≤m.bh.length∧(m.bh.take j).any (zH i)=false) (fun j=>m.bh.length - j) 0 bJ bc aV ⟨by omega,by simp⟩ ?_
   rintro j ⟨hj,hno⟩
   by_cases hjl:j<m.bh.length
   ·obtain⟨b1,o1,rfl,hFb,he⟩:=r6.el hjl
    have k1:=he.kind
    have k2:=he.index
    have hst:=oH (f:=zH i) hjl
    rw[hno,Bool.false_or]at hst
    by_cases g1:(ix m.bh j).kind=0
    ·by_cases g2:(ix m.bh j).index=i
     ·repeat'(first|refine ar ?_|fail)
      all_goals exact ah.aB rfl rfl fun w' hw'=>⟨by rw[qF (l:=m.bh) (j:=j+1) (by rw[hst];simp[zH,g1,g2])];rfl,hw'.at⟩
     ·repeat'(first|refine ar ?_|fail)
      all_goals exact ah.next (j+1) bJ bc aV ⟨by omega,by rw[hst];simp[zH,g2]⟩ Mj
    ·repeat'(first|refine ar ?_|fail)
     all_goals exact ah.next (j+1) bJ bc aV ⟨by omega,by rw[hst];simp[zH,g1]⟩ Mj
   ·obtain rfl:j=m.bh.length:=by omega
    rw[List.take_length]at hno
    rw[hno,Bool.false_or]
    repeat'(first|refine ar ?_|fail)
    refine aZ.loop (σ:=Nat) (fun j=>[(1,.int .i64 i),(2,.pointer (some ⟨b,0,none⟩)),(6,.int .i64 j)]) (fun _=>[.aT b ([Value.slice p0 m.types.length c0,Value.slice p1 m.imports.length c1,Value.slice p2 m.funcs.length c2,Value.slice p3 m.tables.length c3,Value.slice p4 m.da.length c4,Value.slice p5 m.globals.length c5,Value.slice p6 m.bh.length c6,Value.bool m.br,Value.int .i64 m.start,Value.slice p7 m.elems.length c7,Value.slice p8 m.bD.length c8,Value.slice p9 m.dI.length c9]:List Value) kU]) (fun _=>[Ext w]) (fun j=>j≤m.globals.length∧(m.globals.take j).any (fun g=>named g.mE i)=false) (fun j=>m.globals.length - j) 0 bJ bc aV ⟨by omega,by simp⟩ ?_
    rintro j ⟨hj,hno2⟩
    by_cases hjl:j<m.globals.length
    ·obtain⟨b1,o1,rfl,hFb,he⟩:=r5.el hjl
     obtain⟨u,hu,hb⟩:=he.mE
     have hst:=oH (f:=fun g:gn=>named g.mE i) hjl
     rw[hno2,Bool.false_or]at hst
     cases hn:named (ix m.globals j).mE i with
     |true=>
      repeat'(first|refine ar ?_|(refine aa.ai (f:=173) ?_;refine aa.aq (v:=.bool true) rfl rfl rfl (fun w' hw'=>by have:=kK F _ u i w' (hb.aO (show Ext w w' from hw'.at) (fun _ _ _ h=>h));rw[hn]at this;exact this) ?_)|fail)
      all_goals exact ah.aB rfl rfl fun w' hw'=>⟨by rw[qF (l:=m.globals) (j:=j+1) (by rw[hst,hn])];rfl,hw'.at⟩
     |false=>
      repeat'(first|refine ar ?_|(refine aa.ai (f:=173) ?_;refine aa.aq (v:=.bool false) rfl rfl rfl (fun w' hw'=>by have:=kK F _ u i w' (hb.aO (show Ext w w' from hw'.at) (fun _ _ _ h=>h));rw[hn]at this;exact this) ?_)|fail)
      all_goals exact ah.next (j+1) bJ bc aV ⟨by omega,by rw[hst,hn]⟩ Mj
    ·obtain rfl:j=m.globals.length:=by omega
     rw[List.take_length]at hno2
     rw[hno2,Bool.false_or]
     repeat'(first|refine ar ?_|fail)
     refine aZ.loop (σ:=Nat) (fun j=>[(1,.int .i64 i),(2,.pointer (some ⟨b,0,none⟩)),(7,.int .i64 j)]) (fun _=>[.aT b ([Value.slice p0 m.types.length c0,Value.slice p1 m.imports.length c1,Value.slice p2 m.funcs.length c2,Value.slice p3 m.tables.length c3,Value.slice p4 m.da.length c4,Value.slice p5 m.globals.length c5,Value.slice p6 m.bh.length c6,Value.bool m.br,Value.int .i64 m.start,Value.slice p7 m.elems.length c7,Value.slice p8 m.bD.length c8,Value.slice p9 m.dI.length c9]:List Value) kU]) (fun _=>[Ext w]) (fun j=>j≤m.elems.length∧(m.elems.take j).any (fun e=>e.items.any fun l=>named l i)=false) (fun j=>m.elems.length - j) 0 bJ bc aV ⟨by omega,by simp⟩ ?_
     rintro j ⟨hj,hno3⟩
     by_cases hjl:j<m.elems.length
     ·obtain⟨b1,o1,rfl,hFb,he⟩:=r7.el hjl
      obtain⟨u,hu,hb⟩:=he.items
      obtain⟨x2,y2,rfl,z2⟩:=hb.slice
      have hst:=oH (f:=fun e:oW=>e.items.any fun l=>named l i) hjl
      rw[hno3,Bool.false_or]at hst
      repeat'(first|refine ar ?_|fail)
      refine aZ.loop (σ:=Nat) (fun k=>[(1,.int .i64 i),(2,.pointer (some ⟨b,0,none⟩)),(7,.int .i64 j),(8,.int .i64 k)]) (fun _=>[.aT b ([Value.slice p0 m.types.length c0,Value.slice p1 m.imports.length c1,Value.slice p2 m.funcs.length c2,Value.slice p3 m.tables.length c3,Value.slice p4 m.da.length c4,Value.slice p5 m.globals.length c5,Value.slice p6 m.bh.length c6,Value.bool m.br,Value.int .i64 m.start,Value.slice (some ⟨b1,o1,none⟩) m.elems.length c7,Value.slice p8 m.bD.length c8,Value.slice p9 m.dI.length c9]:List Value) kU]) (fun _=>[Ext w]) (fun k=>k≤(ix m.elems j).items.length∧((ix m.elems j).items.take k).any (fun l=>named l i)=false) (fun k=>(ix m.elems j).items.length - k) 0 bJ bc aV ⟨by omega,by simp⟩ ?_
      rintro k ⟨hk,hno4⟩
      by_cases hkl:k<(ix m.elems j).items.length
      ·obtain⟨b2,o2,rfl,hF2,u2,k1,hb2⟩:=hb.el hkl
       rw[Nat.mul_one]at k1
       have hst2:=oH (f:=fun l:List cJ=>named l i) hkl
       rw[hno4,Bool.false_or]at hst2
       cases hn:named (ix (ix m.elems j).items k) i with
       |true=>
        repeat'(first|refine ar ?_|(refine aa.ai (f:=173) ?_;refine aa.aq (v:=.bool true) rfl rfl rfl (fun w' hw'=>by have:=kK F _ u2 i w' (hb2.aO (show Ext w w' from hw'.at) (fun _ _ _ h=>h));rw[hn]at this;exact this) ?_)|fail)
        all_goals exact ah.aB rfl rfl fun w' hw'=>⟨by rw[qF (l:=m.elems) (j:=j+1) (by rw[hst];exact qF (j:=k+1) (by rw[hst2,hn]))],hw'.at⟩
       |false=>
        repeat'(first|refine ar ?_|(refine aa.ai (f:=173) ?_;refine aa.aq (v:=.bool false) rfl rfl rfl (fun w' hw'=>by have:=kK F _ u2 i w' (hb2.aO (show Ext w w' from hw'.at) (fun _ _ _ h=>h));rw[hn]at this;exact this) ?_)|fail)
        all_goals exact ah.next (k+1) bJ bc aV ⟨by omega,by rw[hst2,hn]⟩ Mj
      ·obtain rfl:k=(ix m.elems j).items.length:=by omega
       rw[List.take_length]at hno4
       repeat'(first|refine ar ?_|fail)
       all_goals exact ah.next (j+1) bJ bc aV ⟨by omega,by rw[hst,hno4]⟩ Mj
     ·obtain rfl:j=m.elems.length:=by omega
      rw[List.take_length]at hno3
      rw[hno3]
      repeat'(first|refine ar ?_|fail)
      all_goals exact am
  ·rw[xB m i Mj]
   refine Ku ?_
   repeat'(first|refine ar ?_|fail)
   refine aa.box ([Value.slice p0 m.types.length c0,Value.slice p1 m.imports.length c1,Value.slice p2 m.funcs.length c2,Value.slice p3 m.tables.length c3,Value.slice p4 m.da.length c4,Value.slice p5 m.globals.length c5,Value.slice p6 m.bh.length c6,Value.bool m.br,Value.int .i64 m.start,Value.slice p7 m.elems.length c7,Value.slice p8 m.bD.length c8,Value.slice p9 m.dI.length c9]:List Value) rfl rfl rfl fun b=>?_
   repeat'(first|refine ar ?_|fail)
   refine aa.bV rfl rfl rfl rfl (fun w' hw'=>hfn w' hw'.at) ?_
   repeat'(first|refine ar ?_|fail)
   all_goals exact am
 ·rw[xB m i Mj]
  refine Ku ?_
  repeat'(first|refine ar ?_|fail)
  refine aa.box ([Value.slice p0 m.types.length c0,Value.slice p1 m.imports.length c1,Value.slice p2 m.funcs.length c2,Value.slice p3 m.tables.length c3,Value.slice p4 m.da.length c4,Value.slice p5 m.globals.length c5,Value.slice p6 m.bh.length c6,Value.bool m.br,Value.int .i64 m.start,Value.slice p7 m.elems.length c7,Value.slice p8 m.bD.length c8,Value.slice p9 m.dI.length c9]:List Value) rfl rfl rfl fun b=>?_
  repeat'(first|refine ar ?_|fail)
  all_goals exact am
end Go.Proofs.YtgbgnipidakdhaaGreatDoor
