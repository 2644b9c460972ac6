/- Rows: out of the laws' walks; what every seat needs. -/
import Derived.Test.YtdkcljdfbemnbaaGreatDoorRows
import Derived.Test.YtdkcljdfbemnbaaGreatDoorJTy
import Derived.ProofKit
import Derived.OpenShut
import Derived.Test.YtdkcljdfbemnbaaGreatDoorJVh
namespace Go.Proofs.YtdkcljdfbemnbaaGreatDoor
open Go.ChangeShapes Go.WideShapes Go.ChangeAt Go.RowKit
set_option maxHeartbeats 16000000
open List renaming append_nil→PM,length_append→Pt,mem_append→PE
theorem own:ownKnob Tryz.prog.godebug=none:=by kernel_rfl
theorem laidOut:laidOutB Tryz.prog=true:=by kernel_rfl
section
variable {H:Type} {enc:TypeId×Value→H} {P:Program}
def CP (P:Program) (ts:List TypeId):Bool:=ts.all fun t=>P.readableRec t && decide (t<P.types.size)
theorem pB (hl:laidOutB P=true) {W W':World} (hb:Below W.heap.size W W') {sp:Nat→Bool}:∀{ts:List TypeId} {vs:List Value} {ds:List (DataW H)} {ps:List MemPlace},CP P ts=true→
  DataW.TrodAll enc P W 0 (fun _=>true) true ts vs ds ps→(∀x∈ps,x.block<W.heap.size)→(∀x∈ps,sp x.block=true)→DataW.TrodAll enc P W' 0 sp true ts vs ds ps
 |[],_,_,_,_,h,_,_=>by
  obtain⟨rfl,rfl,rfl⟩:=trodAll_nil h
  exact trodAll_mk0
 |t::ts,_,_,_,hr,h,h1,h2=>by
  obtain⟨v,vs,d,ds,p,q,rfl,rfl,rfl,ht,hts⟩:=trodAll_cons h
  simp only[CP,List.all_cons,Bool.and_eq_true,decide_eq_true_eq]at hr
  refine trodAll_cons_mk (Go.WideElems.Trod_stays hl hr.1.1 hr.1.2 ht (fun x hx=>hb.same (h1 x (by simp[hx]))) (fun x hx=>h2 x (by simp[hx]))) (pB hl hb (by simpa[CP]using hr.2) hts (fun x hx=>h1 x (by simp[hx])) (fun x hx=>h2 x (by simp[hx])))
theorem yw {f:Func} {s:ChangeSpec} {apart fresh handsOn again:Bool} {W W':World} {args:Array Value} {ds gs:List (DataW H)} {before:List MemPlace} {tb:TypeId}
  (hl:laidOutB P=true) (hv:s.vars=[]) (hr:f.resultTypes=#[tb]) (hb:P.underlying tb=some .bool) (hp:CP P f.params.toList=true)
  (hW:DataW.Whole enc P f.params.toList s.vars apart W args.toList ds gs before) (hfn:gs=[]→s.fn H ds={results:=[.lit (.bool true)],args:=ds}) (hx:Below W.heap.size W W'):
  s.post enc P f apart fresh handsOn again W args (.bool true) W':=by
 have hlt:=hW.lt
 have hW':=hW
 obtain⟨pa,pv,hA,hV,rfl,hz,hn⟩:=hW
 rw[hv]at hV
 obtain⟨rfl,rfl⟩:=trodVars_none hV
 have e:s.fn H (ds++[])={results:=[.lit (.bool true)],args:=ds}:=by rw[PM];exact hfn rfl
 simp only[PM]at hlt hz hn hW'
 have hres:∀b sp hd,DataW.TrodAll enc P W' b sp hd f.resultTypes.toList ((Value.bool true).resultList f.resultTypes.size) [.lit (.bool true)] []:=fun b sp hd=>by
  rw[hr];exact trodAll_cons_mk (shut_bool hb _) trodAll_mk0
 have hargs:∀sp:Nat→Bool,(∀p∈pa,sp p.block=true)→DataW.TrodAll enc P W' 0 sp true f.params.toList args.toList ds pa:=fun sp hsp=>pB hl hx hp hA hlt hsp
 have hvars:∀sp:Nat→Bool,DataW.TrodVars enc P W' sp s.vars [] []:=fun sp=>by rw[hv];rfl
 refine⟨ds,[],pa,[],pa,[],hW',by rw[e];exact hres _ _ _,by rw[e];exact hargs _ (fun p hp=>by simpa using hlt p hp),by rw[e];exact hvars _,hx.frame _,fun _=>⟨?_,[.lit (.bool true)]++ds,[],([]++pa)++[],⟨[]++pa,[],?_,hvars _,rfl,?_,?_⟩,?_⟩⟩
 ·exact ok_one hr rfl (okWide_bool_mk hb _)
 ·exact trodAll_append (hargs _ (fun _ _=>rfl)) (hres _ _ _)
 ·intro b off hp
  have hp':MemPlace.cell b off∈pa:=by simpa using hp
  rw[hx.frozen (hlt _ hp')]
  exact hz b off hp'
 ·intro ha
  simpa using hn ha
 ·intro p hp _
  simpa using hp
theorem sr {P:Program}:∀(ts us:List TypeId) (ds:List (DataW H)),∀n∈DataW.weightsEach P ts ds,n∈DataW.weightsEach P (ts++us) ds
 |[],_,_,n,h=>by simp[DataW.weightsEach]at h
 |_::_,_,[],n,h=>by simp[DataW.weightsEach]at h
 |t::ts,us,d::ds,n,h=>by
  simp only[DataW.weightsEach,List.cons_append,PE]at h ⊢
  rcases h with h|h
  ·exact .inl h
  ·exact .inr (sr ts us ds n h)
end
section
variable {H:Type} {enc:TypeId×Value→H} {w:World} {t:TypeId} {v:Value} {d:DataW H} {ps:List MemPlace}
set_option maxRecDepth 100000
theorem HN (h:DataW.Trod enc G.P w 0 (fun _=>true) true t v d ps) (hw:∀n∈d.weights G.P t,n≤reachBytes):Tr w t v.cells.toList:=by
 obtain⟨fuel,h⟩:=h
 exact⟨H,enc,_,_,fuel,_,h,hw⟩
theorem A2 {bs:Nat} {fs:Array Field} (ht:G.P.underlying t=some (.struct fs)) (ho:Value.okWide G.P w .any bs t v) (h:DataW.Trod enc G.P w 0 (fun _=>true) true t v d ps) (hw:∀n∈d.weights G.P t,n≤reachBytes):∃cs:List Value,v=.agg cs.toArray∧cs.length=G.P.cellsOf t∧Tr w t cs:=by
 obtain⟨cs,rfl,hcl⟩:=okWide_struct ht ho
 exact⟨cs.toList,by simp,by simpa using hcl,HN h hw⟩
end
open Go.RowKit
theorem wg (F:Nat→Prop) (c:gA) (y:jE) (op:Int) (f:aO) (fp fq:Option Addr) (fc fd:Nat) (w:World) (h:cG c F w y) (hf:dH f F w (.slice fp f.params.length fc,.slice fq f.results.length fd)) (hs:c.ao.Wf) (_hfl:c.fs.length≤1000000) (hpl:c.ao.ps.length≤1000000) (_hb:c.ao.ts.length+f.params.length≤17592186044416) (ho:op=4) (_hn:c.fs.length≠0):Calls G.P 66 #[.agg (eN c y).toArray,.int .i64 op,.agg #[.slice fp f.params.length fc,.slice fq f.results.length fd]] w (gC (if(aK c.ao [1]).2≠0 then(c,(aK c.ao [1]).2)else if(aK (aK c.ao [1]).1 f.params).2≠0 then(c,(aK (aK c.ao [1]).1 f.params).2)else({c with ao:=aS (aW (aK (aK c.ao [1]).1 f.params).1) f.params,fs:=c.fs++[⟨op,f.params,f.results,(ix c.fs (c.fs.length - 1)).live,(ix c.fs (c.fs.length - 1)).live⟩]},0)) F w):=by
 have:=ho;clear this
 have hps:=hs.some
 have hat:=hs.at_
 obtain⟨p1,c1,p2,c2,p3,c3,p4,c4,p5,c5,ey,k4,h4,kz⟩:=h.gx
 have hn0:0<c.fs.length:=by omega
 obtain⟨_,_,g1,k1,g2,k2,_,-,e5,-,-⟩:=h.frame (i:=c.fs.length - 1) Pc
 have hz:=h.2.1
 have hI2:∀D w',Ext w w'→ai (AF F w D) w' (.slice fp f.params.length fc) f.params:=fun D w' hx=>(((hf.1.mono (fun k hk hF=>⟨hF,hk⟩):ai (fun k=>F k∧k<w.heap.size) w _ _)).aP hx (fun _ _ _ h=>h)).mono fun k _ h=>.inl h
 obtain⟨y,fv,rv,z⟩:=y
 cases ey
 dsimp only at e5 hz kz
 refine Mq ?_
 dsimp only[eN]
 have hn':¬(c.fs.length:Int)=0:=by omega
 refine ar ?_
 refine aa.box [.slice p1 c.ao.ts.length c1,.slice p2 c.ao.ps.length c2,.slice p3 c.ao.ps.length c3,.int .i64 c.ao.bQ,.slice p4 c.fs.length c4,.slice p5 c.results.length c5,.int .i64 0] rfl rfl rfl fun b3=>?_
 refine aa.box [.slice fp f.params.length fc,.slice fq f.results.length fd] rfl rfl rfl fun b5=>?_
 refine aa.alloc (t:=119) [.slice none 0 0,.slice none 0 0,.slice none 0 0,.int .i64 0,.slice none 0 0,.slice none 0 0,.int .i64 0] rfl rfl rfl fun b6=>?_
 obtain⟨r1,hr1⟩:∃r,aK c.ao [1]=r:=⟨_,rfl⟩
 obtain⟨s1,e1⟩:=r1
 rw[hr1]
 have hw1:s1.Wf:=by have:=dE hs [1];rw[hr1]at this;exact this
 have hps1:s1.ps=c.ao.ps:=by have:=fm c.ao [1];rw[hr1]at this;exact this
 have hts1:s1.ts.length≤c.ao.ts.length:=by have:=dD c.ao [1];rw[hr1]at this;exact this
 have hpl1:s1.ps.length≤1000000:=by rw[hps1];exact hpl
 have hp0:=hs.some
 have ha0:=hs.at_.1
 have hle1:=hs.at_.2
 dsimp only
 repeat'(first|refine ar ?_|(refine fB fun b_ _=>?_)|fail)
 by_cases he1:e1=0
 ·subst he1
  rw[if_neg (fun h=>h rfl)]
  refine aa.he (HE.bV (V:=bz c.ao) (V2:=bz s1) (w0:=w) (F:=F) (D:=(fun _=>False)) (y:=⟨.slice p1 c.ao.ts.length c1,.slice p2 c.ao.ps.length c2,.slice p3 c.ao.ps.length c3⟩) (bz.fr _) (bz.lt _) (bz.mo _) ak bO (fun _=>aH) rfl rfl (fun w' hw' hh=>by have:=eZ _ _ c.ao ⟨.slice p1 c.ao.ts.length c1,.slice p2 c.ao.ps.length c2,.slice p3 c.ao.ps.length c3⟩ (.slice (some ⟨b_,0,none⟩) 1 1) [1] w' hh (dJ (hw'.m (.aV b_ [.int .i64 1] fT) bO).1) hp0 ha0 hle1;rw[hr1]at this;exact this.mono fun _ _ g=>oK.to g)) rfl ?_
  rintro⟨D1,x1⟩ _
  refine aa.pure (φ:=∃q1 d1 q2 d2 q3 d3,x1=⟨.slice q1 s1.ts.length d1,.slice q2 s1.ps.length d2,.slice q3 s1.ps.length d3⟩) (fun w' hw'=>by obtain⟨q1,d1,q2,d2,q3,d3,e,-⟩:=(hw'.an (V:=bz s1) (w0:=w) (F:=F) (D:=D1) (y:=x1) ak bO).gx;exact⟨q1,d1,q2,d2,q3,d3,e⟩) ?_
  rintro⟨m1,mc1,m2,mc2,m3,mc3,rfl⟩
  dsimp only[gw]
  clear hp0 ha0 hle1
  have hp0:=hw1.some
  have ha0:=hw1.at_.1
  have hle1:=hw1.at_.2
  repeat'(first|refine ar ?_|(refine eu fun b_=>?_)|(refine dy fun b_=>?_)|fail)
  refine aa.jQ (gj.ir [.slice m1 s1.ts.length mc1,.slice m2 s1.ps.length mc2,.slice m3 s1.ps.length mc3,.int .i64 s1.bQ] [.slice m1 s1.ts.length mc1,.slice m2 s1.ps.length mc2,.slice m3 s1.ps.length mc3,.int .i64 s1.bQ,.slice p4 c.fs.length c4,.slice p5 c.results.length c5,.int .i64 0] rfl rfl rfl rfl rfl rfl aH rfl rfl) ?_
  rintro⟨⟩ _
  obtain⟨r2,hr2⟩:∃r,aK s1 f.params=r:=⟨_,rfl⟩
  obtain⟨s2,e2⟩:=r2
  rw[hr2]
  have hw2:s2.Wf:=by have:=dE hw1 f.params;rw[hr2]at this;exact this
  have hps2:s2.ps=s1.ps:=by have:=fm s1 f.params;rw[hr2]at this;exact this
  have hts2:s2.ts.length≤s1.ts.length:=by have:=dD s1 f.params;rw[hr2]at this;exact this
  dsimp only
  by_cases he2:e2=0
  ·subst he2
   rw[if_neg (fun h=>h rfl)]
   repeat'(first|refine ar ?_|fail)
   refine aa.he (HE.bV (V:=bz s1) (V2:=bz s2) (w0:=w) (F:=F) (D:=D1) (y:=⟨.slice m1 s1.ts.length mc1,.slice m2 s1.ps.length mc2,.slice m3 s1.ps.length mc3⟩) (bz.fr _) (bz.lt _) (bz.mo _) ak bO (fun _=>aH) rfl rfl (fun w' hw' hh=>by have:=eZ _ _ s1 ⟨.slice m1 s1.ts.length mc1,.slice m2 s1.ps.length mc2,.slice m3 s1.ps.length mc3⟩ (.slice fp f.params.length fc) f.params w' hh (hf.1.aP (show Ext w w' from hw'.at) (fun _ _ _ h=>h)) hp0 ha0 hle1;rw[hr2]at this;exact this.mono fun _ _ g=>oK.to g)) rfl ?_
   rintro⟨D2,x2⟩ _
   refine aa.pure (φ:=∃q1 d1 q2 d2 q3 d3,x2=⟨.slice q1 s2.ts.length d1,.slice q2 s2.ps.length d2,.slice q3 s2.ps.length d3⟩) (fun w' hw'=>by obtain⟨q1,d1,q2,d2,q3,d3,e,-⟩:=(hw'.an (V:=bz s2) (w0:=w) (F:=F) (D:=D2) (y:=x2) ak bO).gx;exact⟨q1,d1,q2,d2,q3,d3,e⟩) ?_
   rintro⟨r1,rc1,r2,rc2,r3,rc3,rfl⟩
   dsimp only[gw]
   repeat'(first|refine ar ?_|(refine eu fun b_=>?_)|(refine dy fun b_=>?_)|fail)
   obtain⟨b10,rfl⟩:∃y:Nat,y=b_:=⟨_,rfl⟩
   refine Ms ?_
   repeat'(first|refine CV ?_|(refine bA.dz 61 ?_;refine bA.he rfl rfl (HE.bV (V:=bz s2) (V2:=bz (aW s2)) (tf:=fun y=>.agg (gw (aW s2) y).toArray) (w0:=w) (F:=F) (D:=D2) (y:=⟨.slice r1 s2.ts.length rc1,.slice r2 s2.ps.length rc2,.slice r3 s2.ps.length rc3⟩) (bz.fr _) (bz.lt _) (bz.mo _) ak bO (fun _=>aH) rfl rfl (fun w' hw' hh=>nm _ s2 ⟨.slice r1 s2.ts.length rc1,.slice r2 s2.ps.length rc2,.slice r3 s2.ps.length rc3⟩ w' hh (by rw[hps2];exact hpl1))) (fun _=>bw) (fun _=>aU) ?_;rintro⟨D3,x3⟩ _;refine db.pure (φ:=∃q1 d1 q2 d2 q3 d3,x3=⟨.slice q1 (aW s2).ts.length d1,.slice q2 (aW s2).ps.length d2,.slice q3 (aW s2).ps.length d3⟩) (fun w' hw'=>by obtain⟨q1,d1,q2,d2,q3,d3,e,-⟩:=(hw'.an (V:=bz (aW s2)) (w0:=w) (F:=F) (D:=D3) (y:=x3) ak bO).gx;exact⟨q1,d1,q2,d2,q3,d3,e⟩) ?_;rintro⟨u1,uc1,u2,uc2,u3,uc3,rfl⟩;dsimp only[gw])|(refine bA.dz 113 ?_;refine bA.he rfl rfl (HE.bV (V:=bz (aW s2)) (V2:=bz (aS (aW s2) f.params)) (tf:=fun y=>.agg (gw (aS (aW s2) f.params) y).toArray) (w0:=w) (F:=F) (D:=D3) (y:=⟨.slice u1 (aW s2).ts.length uc1,.slice u2 (aW s2).ps.length uc2,.slice u3 (aW s2).ps.length uc3⟩) (bz.fr _) (bz.lt _) (bz.mo _) ak bO (fun _=>aH) rfl rfl (fun w' hw' hh=>kf _ (aW s2) ⟨.slice u1 (aW s2).ts.length uc1,.slice u2 (aW s2).ps.length uc2,.slice u3 (aW s2).ps.length uc3⟩ (.slice fp f.params.length fc) f.params w' hh (hI2 _ w' hw'.at) (by show s2.ts.length+_≤_;omega))) (fun _=>bw) (fun _=>aU) ?_;rintro⟨D4,x4⟩ _;refine db.pure (φ:=∃q1 d1 q2 d2 q3 d3,x4=⟨.slice q1 (aS (aW s2) f.params).ts.length d1,.slice q2 (aS (aW s2) f.params).ps.length d2,.slice q3 (aS (aW s2) f.params).ps.length d3⟩) (fun w' hw'=>by obtain⟨q1,d1,q2,d2,q3,d3,e,-⟩:=(hw'.an (V:=bz (aS (aW s2) f.params)) (w0:=w) (F:=F) (D:=D4) (y:=x4) ak bO).gx;exact⟨q1,d1,q2,d2,q3,d3,e⟩) ?_;rintro⟨v1,vc1,v2,vc2,v3,vc3,rfl⟩;dsimp only[gw])|(refine bA.iM rfl (gj.ir [.slice v1 (aS (aW s2) f.params).ts.length vc1,.slice v2 (aS (aW s2) f.params).ps.length vc2,.slice v3 (aS (aW s2) f.params).ps.length vc3,.int .i64 (aS (aW s2) f.params).bQ] [.slice v1 (aS (aW s2) f.params).ts.length vc1,.slice v2 (aS (aW s2) f.params).ps.length vc2,.slice v3 (aS (aW s2) f.params).ps.length vc3,.int .i64 (aS (aW s2) f.params).bQ,.slice p4 c.fs.length c4,.slice p5 c.results.length c5,.int .i64 0] rfl rfl rfl rfl rfl rfl aH rfl rfl) ?_;rintro⟨⟩ _)|refine db.any O3 ?_|exact cw.fin rfl|refine cw.skip O3 ?_|refine cw.go ?_ ?_)
   obtain⟨s4,hs4⟩:∃s,aS (aW s2) f.params=s:=⟨_,rfl⟩
   rw[hs4]
   have htop:∀w',Ext w w'→bz s4 (fun _=>True) w' ⟨.slice v1 s4.ts.length vc1,.slice v2 s4.ps.length vc2,.slice v3 s4.ps.length vc3⟩→Calls G.P 63 #[.agg #[.slice v1 s4.ts.length vc1,.slice v2 s4.ps.length vc2,.slice v3 s4.ps.length vc3,.int .i64 s4.bQ,.slice p4 c.fs.length c4,.slice p5 c.results.length c5,.int .i64 0]] w' fun e w2=>e=.returned (.agg #[.int .i64 (ix c.fs (c.fs.length - 1)).op,.slice g1 (ix c.fs (c.fs.length - 1)).par.length k1,.slice g2 (ix c.fs (c.fs.length - 1)).res.length k2,.bool (ix c.fs (c.fs.length - 1)).live,.bool (ix c.fs (c.fs.length - 1)).lq])∧Ext w' w2:=fun w' hx hh=>by
    have:=kg _ {c with ao:=s4} _ w' (cG.at h hx hh) hn0
    dsimp only[eN]at this
    rw[e5]at this
    exact this
   repeat'(first|refine ar ?_|fail)
   refine Mt ?_
   rintro⟨⟩ _
   refine aa.y_ (Yl.iw (T:=4) (o:=3) O5 O5 rfl rfl rfl rfl) rfl ?_
   repeat'(first|refine ar ?_|fail)
   refine Mu ?_
   repeat'(first|refine CV ?_|(refine bA.ix 0 ?_;refine bA.he rfl rfl (HE.jJ rfl rfl rfl rfl rfl ep Pe Pe) (fun _=>bw) (fun _=>aU) ?_;intro b6a _;refine db.map (fun w' hw'=>hw'.jP (b:=b6a) (len:=0) (s:=5) (T:=Gb) aH rfl (Nat.zero_le _)) ?_)|(refine bA.ix 3 ?_;refine bA.he rfl rfl (HE.gP (kY z) rfl rfl (fun _=>aH) ((uU hz ak).imp_left fun h=>by omega) (by rw[kZ,kz]) rfl rfl rfl Pe Pe Pe (oQ _ hz.Ge) (by show(0+c.fs.length)*64≤140737488355328;omega) Pc (fun _ _=>Nat.zero_le _)) (fun _=>bw) (fun _=>aU) ?_;intro va _;simp only[Nat.zero_add,List.nil_append];refine db.pure (φ:=∃p cc,va=.slice p c.fs.length cc) (fun w' hw'=>by obtain⟨p,cc,e,_⟩:=aw (hw'.own (v:=va));exact⟨p,cc,e⟩) ?_;rintro⟨pa,ca,rfl⟩)|(refine bA.ix 9 ?_;refine bA.he rfl rfl (HE.jJ rfl rfl rfl rfl rfl ep Pe Pe) (fun _=>bw) (fun _=>aU) ?_;intro b7a _)|(refine bA.ix 10 ?_;refine bA.he rfl rfl (HE.app (cs:=[.int .i64 op,.slice fp f.params.length fc,.slice fq f.results.length fd,.bool (ix c.fs (c.fs.length - 1)).live,.bool (ix c.fs (c.fs.length - 1)).live]) rfl rfl (fun _=>aH) aH rfl rfl rfl Pe Pe Pe Pe Pe Pe Pc (fun _ _=>Nat.zero_le _)) (fun _=>bw) (fun _=>aU) ?_;intro vb _;refine db.pure (φ:=∃p cc,vb=.slice p (c.fs.length+1) cc∧c.fs.length+1≤cc) (fun w' hw'=>by obtain⟨p,cc,e,h,_⟩:=aw (hw'.own (v:=vb));exact⟨p,cc,e,h⟩) ?_;rintro⟨pb,cb,rfl,hcb⟩)|(refine bA.iM rfl (gj.ir [.slice pb (c.fs.length+1) cb] [.slice v1 s4.ts.length vc1,.slice v2 s4.ps.length vc2,.slice v3 s4.ps.length vc3,.int .i64 s4.bQ,.slice pb (c.fs.length+1) cb,.slice p5 c.results.length c5,.int .i64 0] rfl rfl rfl rfl rfl rfl aH rfl rfl) ?_;rintro⟨⟩ _)|refine db.any O3 ?_|exact cw.fin rfl|refine cw.skip O3 ?_|refine cw.go ?_ ?_)
   all_goals
    repeat'(first|refine ar ?_|fail)
    refine Mv ?_
    intro w' hw'
    have hE:Ext w w':=hw'.at
    have hsd:=(cG.fr c h hE (fun _ _ _ h=>h)).mono (H:=fun k=>F k∨w.heap.size≤k) fun _ h=>.inl h
    have g:=oP (F:=F) (z++[(⟨op,f.params,f.results,(ix c.fs (c.fs.length - 1)).live,(ix c.fs (c.fs.length - 1)).live⟩,.slice fp f.params.length fc,.slice fq f.results.length fd)]) hw' ak bO (by rw[Pt,kz];rfl) (by rw[qT];rfl) (by rw[Pt,kz];show c.fs.length+1≤_;omega) (fun a ha=>by
     rcases PE.1 ha with ha|ha
     ·exact hsd.2.1.Ge a ha
     ·rw[List.mem_singleton.1 ha]
      exact dH.GB (dH.fr _ hf hE (fun _ _ _ h=>h)) fun _ _ h=>.inl h)
    have g1:=hw'.new (V:=bz s4) (w:=w) (F:=F) (D:=D4) (y:=⟨.slice v1 s4.ts.length vc1,.slice v2 s4.ps.length vc2,.slice v3 s4.ps.length vc3⟩) (bz.mo _) ak bO
    have:=gC.ok (c:={c with ao:=s4,fs:=c.fs++[⟨op,f.params,f.results,(ix c.fs (c.fs.length - 1)).live,(ix c.fs (c.fs.length - 1)).live⟩]}) (⟨⟨.slice v1 s4.ts.length vc1,.slice v2 s4.ps.length vc2,.slice v3 s4.ps.length vc3⟩,.slice pb (c.fs.length+1) cb,.slice p5 c.results.length c5,z++[(⟨op,f.params,f.results,(ix c.fs (c.fs.length - 1)).live,(ix c.fs (c.fs.length - 1)).live⟩,.slice fp f.params.length fc,.slice fq f.results.length fd)]⟩:jE) (F:=F) (w:=w) (w':=w') ⟨g1,g,hsd.2.2.1,hcb,by dsimp only;rw[List.map_append,h.2.2.2.2];rfl⟩ hE
    exact this
  ·rw[if_pos he2]
   repeat'(first|refine ar ?_|fail)
   refine aa.he (HE.bV (V:=bz s1) (V2:=ky) (w0:=w) (F:=F) (D:=D1) (y:=⟨.slice m1 s1.ts.length mc1,.slice m2 s1.ps.length mc2,.slice m3 s1.ps.length mc3⟩) ky.fr ky.lt ky.mo ak bO (fun _=>aH) rfl rfl (fun w' hw' hh=>by have:=eZ _ _ s1 ⟨.slice m1 s1.ts.length mc1,.slice m2 s1.ps.length mc2,.slice m3 s1.ps.length mc3⟩ (.slice fp f.params.length fc) f.params w' hh (hf.1.aP (show Ext w w' from hw'.at) (fun _ _ _ h=>h)) hp0 ha0 hle1;rw[hr2]at this;exact this.mono fun _ _ g=>oK.qW g)) rfl ?_
   rintro⟨D2,x2⟩ _
   refine Mw ?_
   rintro⟨q1,n1,d1,q2,n2,d2,q3,n3,d3,rfl⟩
   dsimp only[gw]
   repeat'(first|refine ar ?_|(refine eu fun b_=>?_)|(refine dy fun b_=>?_)|(refine aa.aj (f:=112) ?_;refine aa.he (HE.eK rfl rfl (fun w' _=>iP _ _ _ _ _ _ _ _ _ _ _ _ _ _ _ _ _ _ w')) rfl ?_;rintro⟨⟩ _)|fail)
   all_goals first|omega|skip
   all_goals(refine ah.aM (.inl rfl) rfl rfl rfl rfl rfl aH rfl rfl ?_;exact fun w' hw'=>gC.err (e:=_) (fG.mk ..) OU hw'.at)
 ·rw[if_pos he1]
  refine aa.he (HE.bV (V:=bz c.ao) (V2:=ky) (w0:=w) (F:=F) (D:=(fun _=>False)) (y:=⟨.slice p1 c.ao.ts.length c1,.slice p2 c.ao.ps.length c2,.slice p3 c.ao.ps.length c3⟩) ky.fr ky.lt ky.mo ak bO (fun _=>aH) rfl rfl (fun w' hw' hh=>by have:=eZ _ _ c.ao ⟨.slice p1 c.ao.ts.length c1,.slice p2 c.ao.ps.length c2,.slice p3 c.ao.ps.length c3⟩ (.slice (some ⟨b_,0,none⟩) 1 1) [1] w' hh (dJ (hw'.m (.aV b_ [.int .i64 1] fT) bO).1) hp0 ha0 hle1;rw[hr1]at this;exact this.mono fun _ _ g=>oK.qW g)) rfl ?_
  rintro⟨D2,x2⟩ _
  refine Mw ?_
  rintro⟨q1,n1,d1,q2,n2,d2,q3,n3,d3,rfl⟩
  dsimp only[gw]
  repeat'(first|refine ar ?_|(refine eu fun b_=>?_)|(refine dy fun b_=>?_)|(refine aa.aj (f:=112) ?_;refine aa.he (HE.eK rfl rfl (fun w' _=>iP _ _ _ _ _ _ _ _ _ _ _ _ _ _ _ _ _ _ w')) rfl ?_;rintro⟨⟩ _)|fail)
  all_goals first|omega|skip
  all_goals(refine ah.aM (.inl rfl) rfl rfl rfl rfl rfl aH rfl rfl ?_;exact fun w' hw'=>gC.err (e:=_) (fG.mk ..) OU hw'.at)
end Go.Proofs.YtdkcljdfbemnbaaGreatDoor
