/- The reference's operand stack (layer 21): Shut. -/
import Derived.Test.YtgbgnipidakdhaaGreatDoorJRw
import Derived.Test.YtgbgnipidakdhaaGreatDoorJRg
namespace Go.Proofs.YtgbgnipidakdhaaGreatDoor
open Go.RowKit
set_option maxRecDepth 100000
def jD (_:Nat→Prop) (_:World) (y:jq):Prop:=y.Sl
theorem jD.fr:tp jD:=fun h _ _=>h
theorem jD.lt:BK jD:=fun h=>h
theorem jD.mo:vP jD:=fun _ h=>h
theorem nm.to {s:bP} {F:Nat→Prop} {w w':World} {e:Ending} (h:nm (s,0) F w e w'):bg (aY s) (fun y=>.tuple #[.agg (fI s y).toArray,.int .i64 0]) F w e w':=by
 obtain⟨⟨x,e1,_,h1⟩,hx⟩:=h
 exact⟨⟨x,e1,h1 rfl⟩,hx⟩
theorem nm.oQ {r:bP×Int} {F:Nat→Prop} {w w':World} {e:Ending} (h:nm r F w e w'):bg jD (fun y=>.tuple #[.agg (fI r.1 y).toArray,.int .i64 r.2]) F w e w':=by
 obtain⟨⟨x,e1,h1,_⟩,hx⟩:=h
 exact⟨⟨x,e1,h1⟩,hx⟩
set_option maxHeartbeats 8000000 in
theorem mf (F D2:Nat→Prop) (s:bP) (y:jq) (v:Value) (l:List Int) (w:World) (h:aY s F w y) (hI:af D2 w v l) (hp2:2≤s.ps.length) (h0:0≤s.at_) (hle:s.at_≤s.ts.length):
  Calls G.P 120 #[.agg (fI s y).toArray,v] w (nm (cw s l) F w):=by
 have hp:0<s.ps.length:=by omega
 have hpb:s.ps.length≤17592186044416:=by
  obtain⟨_,_,_,h⟩:=h.2.1.slice
  simpa[bP.marks]using h
 obtain⟨p1,c1,p2,c2,p3,c3,rfl,k1,k2,k3⟩:=h.fP
 obtain⟨q,d,rfl,hql⟩:=hI.slice
 refine ae (l:=[_,_]) Tryz.func120 rfl Tryz.ntmps120 rfl (Ok.eI (V:=aY s) (aY.fr s) (aY.lt s) h) ?_
 obtain⟨r,hr⟩:∃r,ew s l.reverse s.ts.length=r:=⟨_,rfl⟩
 obtain⟨n,e⟩:=r
 have hwk:aE s l=if e=0 then({s with ts:=s.ts.take n},0)else(s,e):=by unfold aE;rw[hr]
 have hsk:cw s l=if e≠0 then(s,e)else if s.at_<n then(s,14)else({s with ts:=s.ts.take n,ps:=s.ps.take (s.ps.length - 1)},0):=by unfold cw;rw[hr];dsimp only;rw[if_neg (show¬s.ps.length=1 by omega)]
 have hnl:e=0→s.at_≤n∧n≤s.ts.length:=fun h=>by
  have:=iX l.reverse s.ts.length hle (by rw[hr];exact h)
  rw[hr]at this;exact this
 have hwt:=fun DD w' (h:aY s DD w' ⟨.slice p1 s.ts.length c1,.slice p2 s.ps.length c2,.slice p3 s.ps.length c3⟩) hx=>eC DD D2 s ⟨.slice p1 s.ts.length c1,.slice p2 s.ps.length c2,.slice p3 s.ps.length c3⟩ (.slice q l.length d) l w' h (hI.aO (show Ext w w' from hx) (fun _ _ _ h=>h)) hp h0 hle
 rw[hwk]at hwt
 rw[hsk]
 dsimp only[fI]at hwt ⊢
 refine ar ?_
 refine aa.box [.slice p1 s.ts.length c1,.slice p2 s.ps.length c2,.slice p3 s.ps.length c3,.int .i64 s.bH] rfl rfl rfl fun b2=>?_
 refine aa.alloc (t:=mJ) [.slice none 0 0,.slice none 0 0,.slice none 0 0,.int .i64 0] rfl rfl rfl fun b4=>?_
 by_cases he:e=0
 ·subst he
  obtain⟨hn1,hn2⟩:=hnl rfl
  have e1:(s.ts.take n).length=n:=by rw[List.length_take];omega
  rw[if_pos rfl]at hwt
  rw[if_neg Mh]
  try dsimp only at hwt ⊢
  repeat'(first|refine ar ?_|fail)
  refine aa.he (HE.bF (V:=aY s) (V2:=aY {s with ts:=s.ts.take n}) (w0:=w) (F:=F) (D:=fun _=>False) (y:=⟨.slice p1 s.ts.length c1,.slice p2 s.ps.length c2,.slice p3 s.ps.length c3⟩) (aY.fr _) (aY.lt _) (aY.mo _) ak bG (fun _=>aA) rfl rfl (fun w' hw' h=>(hwt _ w' h hw'.at).mono fun _ _ h=>nm.to h)) rfl ?_
  rintro⟨D',y'⟩ _
  refine aa.pure (φ:=∃p1 c1 p2 c2 p3 c3,y'=⟨.slice p1 n c1,.slice p2 s.ps.length c2,.slice p3 s.ps.length c3⟩∧s.ps.length≤c2∧s.ps.length≤c3) (fun w' hw'=>?_) ?_
  ·obtain⟨p1,c1,p2,c2,p3,c3,e,-,h2,h3⟩:=(hw'.an (V:=aY {s with ts:=s.ts.take n}) (w0:=w) (F:=F) (D:=D') (y:=y') ak bG).fP
   dsimp only at e h2 h3;rw[e1]at e;exact⟨p1,c1,p2,c2,p3,c3,e,h2,h3⟩
  rintro⟨q4,k4,q5,k5,q6,k6,rfl,h5,h6⟩
  dsimp only[fI]
  have hmk:∀D' w',aY {s with ts:=s.ts.take n} D' w' ⟨.slice q4 n k4,.slice q5 s.ps.length k5,.slice q6 s.ps.length k6⟩→Calls G.P 118 #[.agg #[.slice q4 n k4,.slice q5 s.ps.length k5,.slice q6 s.ps.length k6,.int .i64 s.bH]] w' fun e w2=>e=.returned (.int .i64 s.at_)∧Ext w' w2:=fun D' w' h=>by
   have:=od D' {s with ts:=s.ts.take n} ⟨.slice q4 n k4,.slice q5 s.ps.length k5,.slice q6 s.ps.length k6⟩ w' h hp
   exact this
  repeat'(first|refine ar ?_|fail)
  refine aa.alloc (t:=mJ) [.slice none 0 0,.slice none 0 0,.slice none 0 0,.int .i64 0] rfl rfl rfl fun b6=>?_
  by_cases hat:s.at_<n
  ·rw[if_pos hat]
   try dsimp only
   repeat'(first|refine ar ?_|fail)
   refine aZ.cT [.aT b6 [.slice q4 n k4,.slice q5 s.ps.length k5,.slice q6 s.ps.length k6,.int .i64 s.bH] mJ] [] bc aV ?_
   repeat'(first|refine og ?_|(refine av.ep 118 ?_;refine av.he rfl rfl (HE.dX rfl rfl (fun w' hw'=>hmk _ w' (hw'.an (V:=aY {s with ts:=s.ts.take n}) (w0:=w) (F:=F) (D:=D') (y:=⟨.slice q4 n k4,.slice q5 s.ps.length k5,.slice q6 s.ps.length k6⟩) ak bG))) (fun _=>bc) (fun _=>aV) ?_;rintro⟨⟩ _)|refine aP.nil LX ?_|refine aP.any LX ?_|exact aN.fin rfl|refine aN.skip LX ?_|refine aN.go ?_ ?_)
   repeat'(first|refine ar ?_|fail)
   all_goals first|omega|skip
   all_goals(refine ah.aF (.inl rfl) rfl rfl rfl rfl rfl aA rfl rfl ?_;exact fun w' hw'=>nm.err (e:=_) ⟨.slice p1 s.ts.length c1,.slice p2 s.ps.length c2,.slice p3 s.ps.length c3⟩ (jq.Sl.mk ..) Mh hw'.at)
  ·rw[if_neg hat]
   try dsimp only
   repeat'(first|refine ar ?_|fail)
   refine aZ.cT [.aT b6 [.slice q4 n k4,.slice q5 s.ps.length k5,.slice q6 s.ps.length k6,.int .i64 s.bH] mJ] [] bc aV ?_
   repeat'(first|refine og ?_|(refine av.ep 118 ?_;refine av.he rfl rfl (HE.dX rfl rfl (fun w' hw'=>hmk _ w' (hw'.an (V:=aY {s with ts:=s.ts.take n}) (w0:=w) (F:=F) (D:=D') (y:=⟨.slice q4 n k4,.slice q5 s.ps.length k5,.slice q6 s.ps.length k6⟩) ak bG))) (fun _=>bc) (fun _=>aV) ?_;rintro⟨⟩ _)|refine aP.nil LX ?_|refine aP.any LX ?_|exact aN.fin rfl|refine aN.skip LX ?_|refine aN.go ?_ ?_)
   repeat'(first|refine ar ?_|(refine aa.y_ (Yl.cO (i:=s.ps.length - 1) rfl rfl rfl rfl rfl Mj Mj) rfl ?_)|fail)
   all_goals first|omega|skip
   refine IR ?_
   intro w' hw'
   have hcv:∀D' w',aY {s with ts:=s.ts.take n} D' w' ⟨.slice q4 n k4,.slice q5 s.ps.length k5,.slice q6 s.ps.length k6⟩→aY {s with ts:=s.ts.take n,ps:=s.ps.take (s.ps.length - 1)} D' w' ⟨.slice q4 n k4,.slice q5 (s.ps.length - 1) k5,.slice q6 (s.ps.length - 1) k6⟩:=fun D' w' h=>by
    have a1:=h.2.1.take (s.ps.length - 1) (by simp[bP.marks])
    have a2:=iG.take h.2.2.1 (s.ps.length - 1) (by simp[bP.eB])
    have m1:({s with ts:=s.ts.take n}:bP).marks.take (s.ps.length - 1)=({s with ts:=s.ts.take n,ps:=s.ps.take (s.ps.length - 1)}:bP).marks:=by simp[bP.marks,List.map_take]
    have m2:({s with ts:=s.ts.take n}:bP).eB.take (s.ps.length - 1)=({s with ts:=s.ts.take n,ps:=s.ps.take (s.ps.length - 1)}:bP).eB:=by simp[bP.eB,List.map_take]
    rw[m1]at a1
    rw[m2]at a2
    exact⟨h.1,a1,a2,h.2.2.2.1,(show s.ps.length - 1≤k5 by omega),(show s.ps.length - 1≤k6 by omega)⟩
   exact nm.ok (s:={s with ts:=s.ts.take n,ps:=s.ps.take (s.ps.length - 1)}) (D:=D') ⟨.slice q4 n k4,.slice q5 (s.ps.length - 1) k5,.slice q6 (s.ps.length - 1) k6⟩ (hw'.nV (V:=aY {s with ts:=s.ts.take n}) (V2:=aY {s with ts:=s.ts.take n,ps:=s.ps.take (s.ps.length - 1)}) (w0:=w) (F:=F) (D:=D') (y:=⟨.slice q4 n k4,.slice q5 s.ps.length k5,.slice q6 s.ps.length k6⟩) ⟨.slice q4 n k4,.slice q5 (s.ps.length - 1) k5,.slice q6 (s.ps.length - 1) k6⟩ aA hcv) ak bG
 ·rw[if_neg he]at hwt
  rw[if_pos he]
  try dsimp only at hwt ⊢
  repeat'(first|refine ar ?_|fail)
  refine aa.he (HE.bF (V:=aY s) (V2:=jD) (w0:=w) (F:=F) (D:=fun _=>False) (y:=⟨.slice p1 s.ts.length c1,.slice p2 s.ps.length c2,.slice p3 s.ps.length c3⟩) jD.fr jD.lt jD.mo ak bG (fun _=>aA) rfl rfl (fun w' hw' h=>(hwt _ w' h hw'.at).mono fun _ _ h=>nm.oQ h)) rfl ?_
  rintro⟨D',y'⟩ _
  refine aa.pure (φ:=y'.Sl) (fun w' hw'=>hw'.an (V:=jD) (w0:=w) (F:=F) (D:=D') (y:=y') ak bG) ?_
  rintro⟨q4,n4,k4,q5,n5,k5,q6,n6,k6,rfl⟩
  repeat'(first|refine ar ?_|(refine dc fun b_=>?_)|fail)
  all_goals(refine ah.aF (.inl rfl) rfl rfl rfl rfl rfl aA rfl rfl ?_;exact fun w' hw'=>nm.err (e:=_) ⟨.slice p1 s.ts.length c1,.slice p2 s.ps.length c2,.slice p3 s.ps.length c3⟩ (jq.Sl.mk ..) he hw'.at)
theorem Yl.gB {n t k T o:Nat} {E:Env} {C:World→Prop} {x:Operand} {ti:TI} {cs:List Value} {v:Value} (hu:G.P.underlying t=some (.struct (G.P.fieldsOf t))) (hf:((G.P.fieldsOf t)[k]?.map fun f=>(f.type,f.offset))=some (T,o)) (hti:G.ty T=some ti) (hag:ti.agg=false) (hx:ev E x=some (.agg cs.toArray)) (hc:cs[o]?=some v):Yl G n (.field t x k) E C v:=
 ⟨fun w _ a ha d ty pos aft gd=>by
  obtain⟨fd,h1,h2⟩:=Option.map_eq_some_iff.1 hf
  cases h2
  have h3:=(G.iw fd.type ti hti).agg w
  rw[hag]at h3
  simp[execOp,ha.eval hx,Instr.field,run_underlying hu,h1,part,h3,asAgg,hc]⟩
structure Dg where
 op:Int
 par:List Int
 res:List Int
 live:Bool
 kf:Bool
 deriving Inhabited
abbrev Dg.fn (f:Dg):aL:=⟨f.par,f.res⟩
def tM (f:Dg) (x:Value×Value):List Value:=[.int .i64 f.op,x.1,x.2,.bool f.live,.bool f.kf]
theorem dr.Dq {f:aL} {F H:Nat→Prop} {w:World} {x:Value×Value} (h:dr f F w x) (hd:∀k,k<w.heap.size→F k→H k):dr f H w x:=⟨h.1.mono hd,h.2.mono hd⟩
abbrev rU:=Dg×Value×Value
def yZ:rH rU:=fun F w b o z=>dr z.1.fn F w z.2∧∀j,j<5→w.cell? ⟨b,o+j,none⟩=(tM z.1 z.2)[j]?
theorem zZ (f:Dg) (x:Value×Value) (j:Nat) (h:j<5):∃u,(tM f x)[j]?=some u:=⟨_,List.getElem?_eq_getElem (show j<(tM f x).length from h)⟩
theorem yZ.fr:Fr yZ:=fun{F S w w' b o z} ⟨h1,h2⟩ hc hF hd=>by
 refine⟨dr.fr _ h1 hc hd,fun j hj=>?_⟩
 obtain⟨u,hu⟩:=zZ z.1 z.2 j hj
 rw[hu]
 have h3:=h2 j hj
 rw[hu]at h3
 exact hc.cell (hd b (fC h3) hF) h3
theorem yZ.mo:Mo yZ:=fun{_F _H _w _b _o _z} ⟨h1,h2⟩ hd=>⟨dr.Dq h1 hd,h2⟩
theorem yZ.ce:Ce yZ:=fun{F w b o z} ⟨h1,h2⟩=>fC (h2 0 Mj)
abbrev uj:=gy 5 1000001 yZ
structure fN where
 ao:bP
 fs:List Dg
 results:List Int
structure iP where
 r:jq
 f:Value
 rv:Value
 z:List rU
def bY (c:fN) (D:Nat→Prop) (w:World) (y:iP):Prop:=aY c.ao D w y.r∧uj D w y.f y.z∧af D w y.rv c.results∧DP y.f∧y.z.map Prod.fst=c.fs
theorem bY.fr (c:fN):tp (bY c):=fun h hc hd=>⟨aY.fr _ h.1 hc hd,gy.aO yZ.fr yZ.ce h.2.1 hc hd,h.2.2.1.aO hc hd,h.2.2.2⟩
theorem bY.lt (c:fN):BK (bY c):=fun h=>⟨aY.lt _ h.1,gy.mono yZ.mo yZ.ce h.2.1 fun _ hk hd=>⟨hd,hk⟩,h.2.2.1.mono fun _ hk hd=>⟨hd,hk⟩,h.2.2.2⟩
def er (c:fN) (y:iP):List Value:=[y.r.l,y.r.m,y.r.o,.int .i64 c.ao.bH,y.f,y.rv,.int .i64 0]
theorem bY.fP {c:fN} {D:Nat→Prop} {w:World} {y:iP} (h:bY c D w y):∃p1 c1 p2 c2 p3 c3 p4 c4 p5 c5,y=⟨⟨.slice p1 c.ao.ts.length c1,.slice p2 c.ao.ps.length c2,.slice p3 c.ao.ps.length c3⟩,.slice p4 c.fs.length c4,.slice p5 c.results.length c5,y.z⟩∧c.fs.length≤c4∧c.fs.length≤1000001∧y.z.length=c.fs.length:=by
 obtain⟨r,f,rv,z⟩:=y
 obtain⟨p1,c1,p2,c2,p3,c3,e,-⟩:=h.1.fP
 obtain⟨p4,c4,e4,h4⟩:=gy.slice h.2.1
 obtain⟨p5,c5,e5,-⟩:=h.2.2.1.slice
 have k4:=h.2.2.2.1
 have kz:z.length=c.fs.length:=by rw[←h.2.2.2.2,List.length_map]
 dsimp only at e e4 e5 k4 h4
 rw[kz]at e4 h4
 subst e e4 e5
 exact⟨p1,c1,p2,c2,p3,c3,p4,c4,p5,c5,rfl,k4,h4,kz⟩
theorem bY.GR {c:fN} {D:Nat→Prop} {w:World} {y:iP} (h:bY c D w y) {i:Nat} (hi:i<c.fs.length):(ix y.z i).1=ix c.fs i:=by
 have kz:y.z.length=c.fs.length:=by rw[←h.2.2.2.2,List.length_map]
 rw[←h.2.2.2.2,pz Mj]
theorem FX (D:Nat→Prop) (c:fN) (y:iP) (w:World) (h:bY c D w y):Calls G.P 32 #[.agg (er c y).toArray] w fun e w'=>e=.returned (.int .i64 c.fs.length)∧Ext w w':=by
 obtain⟨p1,c1,p2,c2,p3,c3,p4,c4,p5,c5,ey,k4,h4,kz⟩:=h.fP
 obtain⟨r,f,rv,z⟩:=y
 cases ey
 refine ae (l:=[_]) Tryz.func32 rfl Tryz.ntmps32 rfl (Ok.start w) ?_
 dsimp only[er]
 repeat'(first|refine ar ?_|(refine aC fun b_=>?_)|fail)
 all_goals exact am
theorem vT (D:Nat→Prop) (c:fN) (y:iP) (w:World) (h:bY c D w y):Calls G.P 70 #[.agg (er c y).toArray] w fun e w'=>e=.returned y.rv∧Ext w w':=by
 obtain⟨p1,c1,p2,c2,p3,c3,p4,c4,p5,c5,ey,k4,h4,kz⟩:=h.fP
 obtain⟨r,f,rv,z⟩:=y
 cases ey
 refine ae (l:=[_]) Tryz.func70 rfl Tryz.ntmps70 rfl (Ok.start w) ?_
 dsimp only[er]
 repeat'(first|refine ar ?_|(refine aC fun b_=>?_)|fail)
 all_goals exact am
theorem jm (D:Nat→Prop) (c:fN) (y:iP) (w:World) (h:bY c D w y) (h0:0<c.fs.length):Calls G.P 60 #[.agg (er c y).toArray] w fun e w'=>e=.returned (.agg (tM (ix c.fs (c.fs.length - 1)) (ix y.z (c.fs.length - 1)).2).toArray)∧Ext w w':=by
 rw[←h.GR (i:=c.fs.length - 1) Mj]
 obtain⟨p1,c1,p2,c2,p3,c3,p4,c4,p5,c5,ey,k4,h4,kz⟩:=h.fP
 obtain⟨r,f,rv,z⟩:=y
 cases ey
 dsimp only at kz h ⊢
 have hz:=h.2.1
 dsimp only at hz
 rw[←kz]at hz
 obtain⟨b,o,rfl,hF,hc⟩:=gy.at hz (i:=c.fs.length - 1) Mj
 obtain⟨hx,hcx⟩:=hc (c.fs.length - 1) Mj
 generalize ix z (c.fs.length - 1)=fx at hx hcx ⊢
 obtain⟨fr,x⟩:=fx
 dsimp only at hx hcx ⊢
 obtain⟨q1,d1,q2,d2,rfl⟩:=hx.fP
 refine ae (l:=[_]) Tryz.func60 rfl Tryz.ntmps60 rfl (Ok.start w) ?_
 dsimp only[er]
 repeat'(first|refine ar ?_|(refine aC fun b_=>?_)|(refine aa.fj (t:=132) ?_;refine aa.alloc (t:=132) [.int .i64 0,.slice none 0 0,.slice none 0 0,.bool false,.bool false] rfl rfl rfl fun b_=>?_)|(refine aa.ek ?_;refine aa.y_ (Yl.idx (i:=c.fs.length - 1) rfl rfl rfl rfl rfl Mj Mj) rfl ?_)|fail)
 refine aa.y_ (Yl.nO (cs:=tM fr (.slice q1 fr.par.length d1,.slice q2 fr.res.length d2)) rfl rfl rfl ak rfl rfl hcx) rfl ?_
 dsimp only[tM]
 repeat'(first|refine ar ?_|fail)
 refine J4 ?_
 exact fun w' hw'=>⟨rfl,hw'.at⟩
theorem dK {ops:Array Oper} {Q:Exit→Act→World→Prop} {n:Nat} {rest:List Oper} {E:Env} {M:List a8} {R:List (World→Prop)} {d:Nat} {ty:TypeId} {pos:String} {aft:Array Edge} (h:∀b:Nat,aa ops Q n rest ((d,.pointer (some ⟨b,0,none⟩))::E) (.aT b [.slice none 0 0,.slice none 0 0,.slice none 0 0,.int .i64 0,.slice none 0 0,.slice none 0 0,.int .i64 0] 73::M) R) (hd:Nat.blt d n=true:=by rfl):aa ops Q n (⟨some d,.alloc 73,ty,pos,aft,none⟩::rest) E M R:=aa.alloc (t:=73) [.slice none 0 0,.slice none 0 0,.slice none 0 0,.int .i64 0,.slice none 0 0,.slice none 0 0,.int .i64 0] rfl rfl hd h
theorem hO (p1:Option Addr) (n1 c1:Nat) (p2:Option Addr) (n2 c2:Nat) (p3:Option Addr) (n3 c3:Nat) (m:Int) (p4:Option Addr) (n4 c4:Nat) (p5:Option Addr) (n5 c5:Nat) (e0 e:Int) (w:World):Calls G.P 59 #[.agg #[.slice p1 n1 c1,.slice p2 n2 c2,.slice p3 n3 c3,.int .i64 m,.slice p4 n4 c4,.slice p5 n5 c5,.int .i64 e0],.int .i64 e] w fun ee w'=>ee=.returned (.tuple #[.agg #[.slice p1 n1 c1,.slice p2 n2 c2,.slice p3 n3 c3,.int .i64 m,.slice p4 n4 c4,.slice p5 n5 c5,.int .i64 e],.int .i64 e])∧Ext w w':=by
 refine ae (l:=[_,_]) Tryz.func59 rfl Tryz.ntmps59 rfl (Ok.start w) ?_
 repeat'(first|refine ar ?_|(refine aC fun b_=>?_)|(refine dK fun b_=>?_)|fail)
 all_goals(refine ah.aF (.inl rfl) rfl rfl rfl rfl rfl aA rfl rfl ?_;exact fun w' hw'=>⟨rfl,hw'.at⟩)
theorem zA (D:Nat→Prop) (c:fN) (y:iP) (w:World) (h:bY c D w y) (h0:0<c.fs.length):Calls G.P 30 #[.agg (er c y).toArray] w fun e w'=>e=.returned (.bool (ix c.fs (c.fs.length - 1)).live)∧Ext w w':=by
 obtain⟨p1,c1,p2,c2,p3,c3,p4,c4,p5,c5,ey,k4,h4,kz⟩:=h.fP
 obtain⟨r,f,rv,z⟩:=y
 cases ey
 have ht:∀w',Ext w w'→Calls G.P 60 #[.agg #[.slice p1 c.ao.ts.length c1,.slice p2 c.ao.ps.length c2,.slice p3 c.ao.ps.length c3,.int .i64 c.ao.bH,.slice p4 c.fs.length c4,.slice p5 c.results.length c5,.int .i64 0]] w' fun e w2=>e=.returned (.agg #[.int .i64 (ix c.fs (c.fs.length - 1)).op,(ix z (c.fs.length - 1)).2.1,(ix z (c.fs.length - 1)).2.2,.bool (ix c.fs (c.fs.length - 1)).live,.bool (ix c.fs (c.fs.length - 1)).kf])∧Ext w' w2:=fun w' hx=>by
  have:=jm D c ⟨⟨.slice p1 c.ao.ts.length c1,.slice p2 c.ao.ps.length c2,.slice p3 c.ao.ps.length c3⟩,.slice p4 c.fs.length c4,.slice p5 c.results.length c5,z⟩ w' (bY.fr c h hx (fun _ _ _ h=>h)) h0
  exact this
 refine ae (l:=[_]) Tryz.func30 rfl Tryz.ntmps30 rfl (Ok.start w) ?_
 dsimp only[er]
 repeat'(first|refine ar ?_|(refine aC fun b_=>?_)|(refine aa.cm (f:=60) ?_;refine aa.bV ny rfl rfl rfl (fun w' hw'=>ht w' hw'.at) ?_)|fail)
 refine aa.yg LV (Yl.gB (T:=4) (o:=3) L9 L9 rfl rfl rfl rfl) rfl ?_
 repeat'(first|refine ar ?_|fail)
 all_goals first|omega|exact ah.aB rfl rfl fun w' hw'=>⟨rfl,hw'.at⟩
abbrev Ek:Nat:=132
theorem fE {ops:Array Oper} {Q:Exit→Act→World→Prop} {n:Nat} {rest:List Oper} {E:Env} {M:List a8} {R:List (World→Prop)} {d:Nat} {ty:TypeId} {pos:String} {aft:Array Edge} (h:∀b:Nat,aa ops Q n rest ((d,.pointer (some ⟨b,0,none⟩))::E) (.aT b [.int .i64 0,.slice none 0 0,.slice none 0 0,.bool false,.bool false] Ek::M) R) (hd:Nat.blt d n=true:=by rfl):aa ops Q n (⟨some d,.alloc Ek,ty,pos,aft,none⟩::rest) E M R:=aa.alloc (t:=Ek) [.int .i64 0,.slice none 0 0,.slice none 0 0,.bool false,.bool false] rfl rfl hd h
theorem bY.frame {c:fN} {D:Nat→Prop} {w:World} {y:iP} (h:bY c D w y) {i:Nat} (hi:i<c.fs.length):∃b o q1 d1 q2 d2 cc,y.f=.slice (some ⟨b,o,none⟩) c.fs.length cc∧(ix y.z i).2=(.slice q1 (ix c.fs i).par.length d1,.slice q2 (ix c.fs i).res.length d2)∧dr (ix c.fs i).fn D w (ix y.z i).2∧∀j,j<5→w.cell? ⟨b,o+i*5+j,none⟩=(tM (ix c.fs i) (ix y.z i).2)[j]?:=by
 have hx:=h.GR hi
 obtain⟨p1,c1,p2,c2,p3,c3,p4,c4,p5,c5,ey,k4,h4,kz⟩:=h.fP
 have hz:=h.2.1
 have e4:y.f=.slice p4 c.fs.length c4:=by rw[ey]
 rw[e4,←kz]at hz
 obtain⟨b,o,rfl,hF,hc⟩:=gy.at hz (i:=i) Mj
 obtain⟨h1,h2⟩:=hc i Mj
 rw[hx]at h1 h2
 obtain⟨q1,d1,q2,d2,e⟩:=h1.fP
 exact⟨b,o,q1,d1,q2,d2,c4,e4,e,h1,h2⟩
set_option maxHeartbeats 4000000 in
theorem pN (D:Nat→Prop) (c:fN) (y:iP) (n:Int) (w:World) (h:bY c D w y):Calls G.P 71 #[.agg (er c y).toArray,.int .i64 n] w fun e w'=>e=.returned (if n<0∨c.fs.length≤n then .tuple #[.slice none 0 0,.int .i64 15]else .tuple #[if(ix c.fs (c.fs.length - 1 - n.toNat)).op=3 then(ix y.z (c.fs.length - 1 - n.toNat)).2.1 else(ix y.z (c.fs.length - 1 - n.toNat)).2.2,.int .i64 0])∧Ext w w':=by
 obtain⟨p1,c1,p2,c2,p3,c3,p4,c4,p5,c5,ey,k4,h4,kz⟩:=h.fP
 by_cases hb:n<0∨(c.fs.length:Int)≤n
 ·rw[if_pos hb]
  obtain⟨r,f,rv,z⟩:=y
  cases ey
  refine ae (l:=[_,_]) Tryz.func71 rfl Tryz.ntmps71 rfl (Ok.start w) ?_
  dsimp only[er]
  repeat'(first|refine ar ?_|(refine aC fun b_=>?_)|(refine a7 ?_ ?_<;>intro hc_))
  all_goals first|omega|exact ah.nz rfl rfl rfl fun w' hw'=>⟨rfl,hw'.at⟩
 ·rw[if_neg hb]
  obtain⟨k,hk⟩:∃k,c.fs.length - 1 - n.toNat=k:=⟨_,rfl⟩
  rw[hk]
  obtain⟨b,o,q1,d1,q2,d2,cc,e4,e5,-,hc⟩:=h.frame (i:=k) Mj
  obtain⟨r,f,rv,z⟩:=y
  cases ey
  dsimp only at e4 e5 hc ⊢
  cases e4
  generalize ix z k=fx at e5 hc ⊢
  obtain⟨f0,x⟩:=fx
  dsimp only at e5 hc ⊢
  subst e5
  generalize ix c.fs k=fr at hc ⊢
  obtain⟨o5,ho5⟩:∃o5,o+k*5=o5:=⟨_,rfl⟩
  rw[ho5]at hc
  refine ae (l:=[_,_]) Tryz.func71 rfl Tryz.ntmps71 rfl (Ok.start w) ?_
  dsimp only[er]
  repeat'(first|refine ar ?_|(refine aC fun b_=>?_)|(refine fE fun b_=>?_)|(refine aa.ek ?_;refine aa.y_ (Yl.idx (i:=k) rfl rfl rfl rfl rfl Mj Mj) rfl ?_;rw[ho5];refine aa.y_ (Yl.nO (cs:=tM fr (.slice q1 fr.par.length d1,.slice q2 fr.res.length d2)) rfl rfl rfl ak rfl rfl hc) rfl ?_;dsimp only[tM])|(refine a7 ?_ ?_<;>intro hc_))
  all_goals exact ah.nz rfl rfl rfl fun w' hw'=>⟨by first|rw[if_pos hc_]|rw[if_neg hc_],hw'.at⟩
def j6:List rU→List Value
 |[]=>[]
 |z::r=>tM z.1 z.2++j6 r
theorem jZ:∀z:List rU,(j6 z).length=z.length*5
 |[]=>rfl
 |a::r=>by
  have ih:=jZ r
  show(tM a.1 a.2++j6 r).length=(r.length+1)*5
  rw[List.length_append,ih];show 5+_=_;omega
theorem oq:∀z z':List rU,j6 (z++z')=j6 z++j6 z'
 |[],_=>rfl
 |a::r,z'=>by
  show tM a.1 a.2++j6 (r++z')=(tM a.1 a.2++j6 r)++j6 z'
  rw[oq r z',List.append_assoc]
theorem Ci:∀(z:List rU) (i j:Nat),i<z.length→j<5→(j6 z)[i*5+j]?=(tM (ix z i).1 (ix z i).2)[j]?
 |[],_,_,h,_=>absurd h Mk
 |a::r,0,j,_,hj=>by
  show(tM a.1 a.2++j6 r)[0*5+j]?=_
  rw[Nat.zero_mul,Nat.zero_add,List.getElem?_append_left (show j<5 from hj)];rfl
 |a::r,i+1,j,h,hj=>by
  show(tM a.1 a.2++j6 r)[(i+1)*5+j]?=_
  rw[List.getElem?_append_right (show 5≤_ by omega),show(i+1)*5+j - (tM a.1 a.2).length=i*5+j by show(i+1)*5+j - 5=_;omega]
  exact Ci r i j LY hj
theorem rS {F:Nat→Prop} {w:World} {p:Option Addr} {n c:Nat} {z:List rU} {M:List a8} {R:List (World→Prop)} (h:uj F w (.slice p n c) z) (hR:Ext w∈R):z.length=0∨∃bk o,p=some ⟨bk,o,none⟩∧∀w',Ok M R w'→∀j u,(j6 z)[j]?=some u→w'.cell? ⟨bk,o+j,none⟩=some u:=by
 obtain⟨p',c',e,hl,h⟩:=h
 cases e
 rcases h with h|⟨b,o,rfl,hF,h⟩
 ·exact .inl (by rw[h];rfl)
 ·refine .inr ⟨b,o,rfl,fun w' hw' j u hj=>?_⟩
  have hj':j<(j6 z).length:=(List.getElem?_eq_some_iff.1 hj).1
  rw[jZ]at hj'
  have h1:=(h (j / 5) Mj).2 (j % 5) Mj
  rw[←Ci z (j / 5) (j % 5) Mj Mj,show j / 5*5+j % 5=j by omega,hj,show o+j / 5*5+j % 5=o+j by omega]at h1
  exact(show Ext w w' from hw'.at hR).cell h1
theorem nk {F:Nat→Prop} {w:World}:∀z:List rU,(∀a∈z,dr a.1.fn F w a.2)→∀u∈j6 z,u.oneCell'=true
 |[],_,u,hu=>by cases hu
 |a::r,h,u,hu=>by
  rcases List.mem_append.1 (show u∈tM a.1 a.2++j6 r from hu)with hu|hu
  ·obtain⟨q1,d1,q2,d2,e⟩:=(h a List.mem_cons_self).fP
   rw[e]at hu
   simp only[tM,List.mem_cons,List.not_mem_nil,or_false]at hu
   rcases hu with rfl|rfl|rfl|rfl|rfl<;>rfl
  ·exact nk r (fun b hb=>h b (List.mem_cons_of_mem _ hb)) u hu
theorem uj.take {F:Nat→Prop} {w:World} {p:Option Addr} {n c:Nat} {z:List rU} (h:uj F w (.slice p n c) z) (k:Nat) (hk:k≤z.length):uj F w (.slice p k c) (z.take k):=by
 obtain⟨p',c',e,hl,h⟩:=h
 cases e
 have ht:(z.take k).length=k:=by rw[List.length_take];omega
 refine⟨p,c,by rw[ht],by omega,?_⟩
 rcases h with h|⟨b,o,rfl,hF,h⟩
 ·exact .inl (by rw[h];simp)
 ·refine .inr ⟨b,o,rfl,hF,fun i hi=>?_⟩
  rw[ht]at hi
  rw[cD Mj,List.getElem_take,←cD Mj]
  exact h i Mj
theorem uj.Dk {F:Nat→Prop} {w:World} {v:Value} {z:List rU} (h:uj F w v z):∀a∈z,dr a.1.fn F w a.2:=fun a ha=>by
 obtain⟨p',c',e,hl,h⟩:=h
 obtain⟨i,hi,rfl⟩:=List.mem_iff_getElem.1 ha
 rcases h with h|⟨b,o,-,-,h⟩
 ·subst h;cases hi
 ·have:=(h i hi).1
  rw[cD hi]at this;exact this
theorem nj {F:Nat→Prop} {w w':World} {M:List a8} {R:List (World→Prop)} {B T n:Nat} {v:Value} {cs:List Value} (z:List rU) (hw:Ok M R w') (hR:Ext w∈R) (hm:a8.own B T 5 v n cs∈M) (hn:n=z.length) (hcs:cs=j6 z) (hl:z.length≤1000001) (hf:∀a∈z,dr a.1.fn (fun k=>F k∨w.heap.size≤k) w' a.2):uj (fun k=>F k∨w.heap.size≤k) w' v z:=by
 subst hn hcs
 have ho:w'.ownsRow B T 5 v z.length (j6 z):=(hw.m _ hm).1
 obtain⟨p,c,rfl,hn,hc,hg⟩:=ax ho
 refine⟨p,c,rfl,hl,?_⟩
 by_cases h0:z.length=0
 ·exact .inl (List.eq_nil_of_length_eq_zero h0)
 ·obtain⟨g,rfl,hg1⟩:=hg Mj
  refine .inr ⟨g,0,rfl,.inr ?_,fun i hi=>⟨hf _ (by rw[cD hi];exact List.getElem_mem hi),fun j hj=>?_⟩⟩
  ·rcases Nat.lt_or_ge g w.heap.size with h|h
   ·exact(hw.origin (S:=fun _=>False) hR g ⟨_,hm,rfl⟩ h).elim
   ·exact h
  ·obtain⟨u,hu⟩:=zZ (ix z i).1 (ix z i).2 j hj
   rw[hu,Nat.zero_add]
   exact dP ho (by rw[Ci z i j hi hj,hu])
set_option maxHeartbeats 8000000 in
theorem sg (F:Nat→Prop) (c:fN) (y:iP) (f:Dg) (x:Value×Value) (w:World) (h:bY c F w y) (hx:dr f.fn F w x) (h0:0<c.fs.length) (hfl:c.fs.length≤1000000):Calls G.P 63 #[.agg (er c y).toArray,.agg (tM f x).toArray] w (bg (bY {c with fs:=c.fs.take (c.fs.length - 1)++[f]}) (fun y=>.agg (er {c with fs:=c.fs.take (c.fs.length - 1)++[f]} y).toArray) F w):=by
 obtain⟨p1,c1,p2,c2,p3,c3,p4,c4,p5,c5,ey,k4,h4,kz⟩:=h.fP
 obtain⟨r,fv,rv,z⟩:=y
 cases ey
 dsimp only at kz
 obtain⟨q1,d1,q2,d2,rfl⟩:=hx.fP
 have hz:=h.2.1
 dsimp only at hz
 have htk:=hz.take (c.fs.length - 1) Mj
 have htl:(z.take (c.fs.length - 1)).length=c.fs.length - 1:=by rw[List.length_take];omega
 refine ae (l:=[_,_]) Tryz.func63 rfl Tryz.ntmps63 rfl (Ok.start w) ?_
 dsimp only[er,tM]
 refine ar ?_
 refine aa.box [.slice p1 c.ao.ts.length c1,.slice p2 c.ao.ps.length c2,.slice p3 c.ao.ps.length c3,.int .i64 c.ao.bH,.slice p4 c.fs.length c4,.slice p5 c.results.length c5,.int .i64 0] rfl rfl rfl fun b2=>?_
 refine aa.box [.int .i64 f.op,.slice q1 f.par.length d1,.slice q2 f.res.length d2,.bool f.live,.bool f.kf] rfl rfl rfl fun b3=>?_
 repeat'(first|refine ar ?_|(refine dK fun b_=>?_)|fail)
 refine JM ?_
 intro b6 _
 refine aa.iS (b:=b6) (len:=0) 5 aA rfl (Nat.zero_le _) ?_
 repeat'(first|refine ar ?_|(refine aa.y_ (Yl.cO (i:=c.fs.length - 1) rfl rfl rfl rfl rfl Mj Mj) rfl ?_)|fail)
 refine aa.he (HE.gA (j6 (z.take (c.fs.length - 1))) rfl rfl (fun _=>aA) ((rS htk ak).imp_left fun h=>by omega) (by rw[jZ,htl]) rfl rfl rfl Ml Ml Ml (nk _ htk.Dk) LF Mj (fun _ _=>Nat.zero_le _)) rfl ?_
 intro v1 _
 simp only[Nat.zero_add,List.nil_append]
 refine aa.pure (φ:=∃p cc,v1=.slice p (c.fs.length - 1) cc) (fun w' hw'=>?_) ?_
 ·obtain⟨p,cc,e,_⟩:=ax (hw'.own (v:=v1));exact⟨p,cc,e⟩
 rintro⟨p6,c6,rfl⟩
 repeat'(first|refine ar ?_|fail)
 refine JM ?_
 intro b7 _
 repeat'(first|refine ar ?_|fail)
 refine JC ?_
 intro v2 _
 refine aa.pure (φ:=∃p cc,v2=.slice p (c.fs.length - 1+1) cc∧c.fs.length - 1+1≤cc) (fun w' hw'=>?_) ?_
 ·obtain⟨p,cc,e,h,_⟩:=ax (hw'.own (v:=v2));exact⟨p,cc,e,h⟩
 rintro⟨p7,c7,rfl,k7⟩
 repeat'(first|refine ar ?_|fail)
 refine J4 ?_
 intro w' hw'
 have hE:Ext w w':=hw'.at
 have hs:bY c (fun k=>F k∨w.heap.size≤k) w' ⟨⟨.slice p1 c.ao.ts.length c1,.slice p2 c.ao.ps.length c2,.slice p3 c.ao.ps.length c3⟩,.slice p4 c.fs.length c4,.slice p5 c.results.length c5,z⟩:=by
  have h2:=bY.fr c h hE (fun _ _ _ h=>h)
  exact⟨h2.1.mono fun _ h=>.inl h,gy.mono yZ.mo yZ.ce h2.2.1 fun _ _ h=>.inl h,h2.2.2.1.mono fun _ _ h=>.inl h,h2.2.2.2⟩
 have hzn:(z.take (c.fs.length - 1)++[(f,.slice q1 f.par.length d1,.slice q2 f.res.length d2)]:List rU).length=c.fs.length - 1+1:=by rw[List.length_append,htl];rfl
 have g:=nj (F:=F) (z.take (c.fs.length - 1)++[(f,.slice q1 f.par.length d1,.slice q2 f.res.length d2)]) hw' ak bG hzn.symm (by rw[oq];rfl) Mj (fun a ha=>by
  rcases List.mem_append.1 ha with ha|ha
  ·exact hs.2.1.Dk a (List.mem_of_mem_take ha)
  ·rw[List.mem_singleton.1 ha]
   exact dr.Dq (dr.fr _ hx hE (fun _ _ _ h=>h)) fun _ _ h=>.inl h)
 refine⟨⟨(⟨⟨.slice p1 c.ao.ts.length c1,.slice p2 c.ao.ps.length c2,.slice p3 c.ao.ps.length c3⟩,.slice p7 (c.fs.length - 1+1) c7,.slice p5 c.results.length c5,z.take (c.fs.length - 1)++[(f,.slice q1 f.par.length d1,.slice q2 f.res.length d2)]⟩:iP),rfl,hs.1,g,hs.2.2.1,k7,?_⟩,hE⟩
 dsimp only
 rw[List.map_append,List.map_take,h.2.2.2.2]
 rfl
section
variable {n:Nat} {E:Env} {M M':List a8} {R:List (World→Prop)} {v:Value} {x y:Operand} {t:TypeId} {w:World}
theorem ck.gx {ti:TI} {b j T:Nat} {old cs out:List Value} (ht:G.ty t=some ti) (hx:ev E x=some (.pointer (some ⟨b,j,none⟩))) (hy:ev E y=some v) (hcs:v.cells=cs.toArray) (hs:ti.size=cs.length) (hv:∀u∈cs,u.oneCell'=true)
  (hb:gO w b old T) (hl:j+cs.length≤old.length) (ho:old.take j++cs++old.drop (j+cs.length)=out):ck G n (.store t x y) E w (fun _ w'=>gO w' b out T∧cg (fun k=>k=b) w w'∧w'.heap.size=w.heap.size):=by
 have h3:=run_storeCells_at (P:=G.P) b j T cs 0 old.toArray w hb Ma hv
 have e3:(old.toArray.toList.take (j+0)++cs++old.toArray.toList.drop (j+0+cs.length)).toArray=out.toArray:=by
  show(old.take (j+0)++cs++old.drop (j+0+cs.length)).toArray=_
  rw[Nat.add_zero,ho]
 rw[e3]at h3
 have hset:∀k,k≠b→(w.setRow b out.toArray).heap[k]?=w.heap[k]?:=fun k hk=>by
  simp only[World.setRow,Array.getElem?_modify]
  rw[if_neg (fun e=>hk e.symm)]
 refine ck.iI (w':=w.setRow b out.toArray) (fun a ha d ty pos aft gd=>?_) ⟨setRow_heap w b _ _ T _ hb,⟨rfl,rfl,rfl,by simp[World.setRow],fun k _ hk=>hset k hk⟩,by simp[World.setRow]⟩
 have h1:=(G.iw t ti ht).size w
 simp[execOp,ha.eval hx,ha.eval hy,Instr.storeAt,Instr.sureAddr,storeVar,h1,hcs,hs,h3]
theorem fQ.gx {ti:TI} {b j T:Nat} {old:List Value} (cs out:List Value) (ht:G.ty t=some ti) (hx:ev E x=some (.pointer (some ⟨b,j,none⟩))) (hy:ev E y=some v) (hcs:v.cells=cs.toArray) (hs:ti.size=cs.length) (hv:(cs.all fun u=>u.oneCell')=true)
  (hM:Up (.aT b old T) (.aT b out T) M M') (hl:Nat.ble (j+cs.length) old.length=true) (ho:old.take j++cs++old.drop (j+cs.length)=out):fQ n (.store t x y) E M R (fun _:Unit=>True) (fun _=>M') (fun _=>R):=
 ⟨fun _w hw=>(ck.gx ht hx hy hcs hs (fun u hu=>List.all_eq_true.1 hv u hu) (hw.m _ hM.mem).1 (Nat.le_of_ble_eq_true hl) ho).mono fun _ _w' ⟨hb,hc,_⟩=>⟨(),trivial,vB hw hM hb hc⟩⟩
end
theorem bY.mono {c:fN} {D H:Nat→Prop} {w:World} {y:iP} (h:bY c D w y) (hd:∀k,D k→H k):bY c H w y:=
 ⟨h.1.mono hd,gy.mono yZ.mo yZ.ce h.2.1 fun k _=>hd k,h.2.2.1.mono fun k _=>hd k,h.2.2.2⟩
def oX (c:fN) (y:iP) (s:bP) (D:Nat→Prop) (w:World) (x:jq):Prop:=bY c D w y∧aY s D w x
theorem oX.fr (c:fN) (y:iP) (s:bP):tp (oX c y s):=fun h hc hd=>⟨bY.fr c h.1 hc hd,aY.fr s h.2 hc hd⟩
theorem oX.lt (c:fN) (y:iP) (s:bP):BK (oX c y s):=fun h=>⟨bY.lt c h.1,aY.lt s h.2⟩
theorem bY.mo (c:fN):vP (bY c):=fun hd h=>bY.mono h hd
theorem oX.mo (c:fN) (y:iP) (s:bP):vP (oX c y s):=fun hd h=>⟨bY.mono h.1 hd,aY.mono h.2 hd⟩
theorem oX.gives {c:fN} {y:iP} {s:bP} {tf:jq→Value} {D:Nat→Prop} {w w':World} {e:Ending} (h:bY c D w y) (hg:bg (aY s) tf D w e w'):bg (oX c y s) tf D w e w':=by
 obtain⟨⟨x,e1,h1⟩,hx⟩:=hg
 exact⟨⟨x,e1,(bY.fr c h hx (fun _ _ _ h=>h)).mono fun _ h=>.inl h,h1⟩,hx⟩
theorem oX.put {c:fN} {y:iP} {s:bP} {D:Nat→Prop} {w:World} {x:jq} (h:oX c y s D w x):bY {c with ao:=s} D w {y with r:=x}:=⟨h.2,h.1.2.1,h.1.2.2.1,h.1.2.2.2⟩
def nD (c:fN):fN:={c with ao:=dq c.ao,fs:=c.fs.take (c.fs.length - 1)++[{ix c.fs (c.fs.length - 1)with live:=false}]}
set_option maxHeartbeats 8000000 in
theorem zi (F:Nat→Prop) (c:fN) (y:iP) (w:World) (h:bY c F w y) (h0:0<c.fs.length) (hfl:c.fs.length≤1000000) (hp:0<c.ao.ps.length) (ha:0≤c.ao.at_) (hle:c.ao.at_≤c.ao.ts.length) (hpl:c.ao.ps.length≤1000000):Calls G.P 22 #[.agg (er c y).toArray] w (bg (bY (nD c)) (fun y=>.agg (er (nD c) y).toArray) F w):=by
 obtain⟨_,_,q1,d1,q2,d2,_,-,e5,-,-⟩:=h.frame (i:=c.fs.length - 1) Mj
 obtain⟨p1,c1,p2,c2,p3,c3,p4,c4,p5,c5,ey,k4,h4,kz⟩:=h.fP
 obtain⟨r,fv,rv,z⟩:=y
 cases ey
 dsimp only at kz e5
 have htop:∀D w',bY c D w' ⟨⟨.slice p1 c.ao.ts.length c1,.slice p2 c.ao.ps.length c2,.slice p3 c.ao.ps.length c3⟩,.slice p4 c.fs.length c4,.slice p5 c.results.length c5,z⟩→Calls G.P 60 #[.agg #[.slice p1 c.ao.ts.length c1,.slice p2 c.ao.ps.length c2,.slice p3 c.ao.ps.length c3,.int .i64 c.ao.bH,.slice p4 c.fs.length c4,.slice p5 c.results.length c5,.int .i64 0]] w' fun e w2=>e=.returned (.agg #[.int .i64 (ix c.fs (c.fs.length - 1)).op,.slice q1 (ix c.fs (c.fs.length - 1)).par.length d1,.slice q2 (ix c.fs (c.fs.length - 1)).res.length d2,.bool (ix c.fs (c.fs.length - 1)).live,.bool (ix c.fs (c.fs.length - 1)).kf])∧Ext w' w2:=fun D w' hh=>by
  have:=jm D c ⟨⟨.slice p1 c.ao.ts.length c1,.slice p2 c.ao.ps.length c2,.slice p3 c.ao.ps.length c3⟩,.slice p4 c.fs.length c4,.slice p5 c.results.length c5,z⟩ w' hh h0
  dsimp only at this
  rw[e5]at this
  exact this
 refine ae (l:=[_]) Tryz.func22 rfl Tryz.ntmps22 rfl (Ok.eI (V:=bY c) (bY.fr c) (bY.lt c) h) ?_
 dsimp only[er]
 repeat'(first|refine ar ?_|(refine aC fun b_=>?_)|(refine dK fun b_=>?_)|fail)
 all_goals first|omega|skip
 refine aa.he (HE.dX rfl rfl (fun w' hw'=>htop _ w' (hw'.an (V:=bY c) (w0:=w) (F:=F) (D:=fun _=>False) (y:=⟨⟨.slice p1 c.ao.ts.length c1,.slice p2 c.ao.ps.length c2,.slice p3 c.ao.ps.length c3⟩,.slice p4 c.fs.length c4,.slice p5 c.results.length c5,z⟩) ak bG))) rfl ?_
 rintro⟨⟩ _
 refine aa.alloc (t:=Ek) [.int .i64 0,.slice none 0 0,.slice none 0 0,.bool false,.bool false] rfl rfl rfl fun b3=>?_
 repeat'(first|refine ar ?_|fail)
 have hlo:∀D w',bY c D w' ⟨⟨.slice p1 c.ao.ts.length c1,.slice p2 c.ao.ps.length c2,.slice p3 c.ao.ps.length c3⟩,.slice p4 c.fs.length c4,.slice p5 c.results.length c5,z⟩→Calls G.P 62 #[.agg #[.slice p1 c.ao.ts.length c1,.slice p2 c.ao.ps.length c2,.slice p3 c.ao.ps.length c3,.int .i64 c.ao.bH]] w' (bg (oX c ⟨⟨.slice p1 c.ao.ts.length c1,.slice p2 c.ao.ps.length c2,.slice p3 c.ao.ps.length c3⟩,.slice p4 c.fs.length c4,.slice p5 c.results.length c5,z⟩ (dq c.ao)) (fun x=>.agg (fI (dq c.ao) x).toArray) D w'):=fun D w' hh=>
  (yp D c.ao ⟨.slice p1 c.ao.ts.length c1,.slice p2 c.ao.ps.length c2,.slice p3 c.ao.ps.length c3⟩ w' hh.1 hp ha hle hpl).mono fun _ _ hg=>oX.gives hh hg
 refine aa.he (HE.bF (V:=bY c) (V2:=oX c ⟨⟨.slice p1 c.ao.ts.length c1,.slice p2 c.ao.ps.length c2,.slice p3 c.ao.ps.length c3⟩,.slice p4 c.fs.length c4,.slice p5 c.results.length c5,z⟩ (dq c.ao)) (w0:=w) (F:=F) (D:=fun _=>False) (y:=⟨⟨.slice p1 c.ao.ts.length c1,.slice p2 c.ao.ps.length c2,.slice p3 c.ao.ps.length c3⟩,.slice p4 c.fs.length c4,.slice p5 c.results.length c5,z⟩) (oX.fr _ _ _) (oX.lt _ _ _) (oX.mo _ _ _) ak bG (fun _=>aA) rfl rfl (fun w' _ h=>hlo _ w' h)) rfl ?_
 rintro⟨D',x⟩ _
 refine aa.pure (φ:=∃p1 n1 c1 p2 n2 c2 p3 n3 c3,x=⟨.slice p1 n1 c1,.slice p2 n2 c2,.slice p3 n3 c3⟩) (fun w' hw'=>?_) ?_
 ·obtain⟨p1,c1,p2,c2,p3,c3,e,-⟩:=(hw'.an (V:=oX c ⟨⟨.slice p1 c.ao.ts.length c1,.slice p2 c.ao.ps.length c2,.slice p3 c.ao.ps.length c3⟩,.slice p4 c.fs.length c4,.slice p5 c.results.length c5,z⟩ (dq c.ao)) (w0:=w) (F:=F) (D:=D') (y:=x) ak bG).2.fP
  exact⟨p1,_,c1,p2,_,c2,p3,_,c3,e⟩
 rintro⟨s1,m1,k1,s2,m2,k2,s3,m3,k3,rfl⟩
 dsimp only[fI]
 repeat'(first|refine ar ?_|fail)
 refine aa.jf (fQ.gx [.slice s1 m1 k1,.slice s2 m2 k2,.slice s3 m3 k3,.int .i64 (dq c.ao).bH] [.slice s1 m1 k1,.slice s2 m2 k2,.slice s3 m3 k3,.int .i64 (dq c.ao).bH,.slice p4 c.fs.length c4,.slice p5 c.results.length c5,.int .i64 0] rfl rfl rfl rfl rfl rfl aA rfl rfl) ?_
 rintro⟨⟩ _
 repeat'(first|refine ar ?_|fail)
 have hwi:∀D' w',oX c ⟨⟨.slice p1 c.ao.ts.length c1,.slice p2 c.ao.ps.length c2,.slice p3 c.ao.ps.length c3⟩,.slice p4 c.fs.length c4,.slice p5 c.results.length c5,z⟩ (dq c.ao) D' w' ⟨.slice s1 m1 k1,.slice s2 m2 k2,.slice s3 m3 k3⟩→Calls G.P 63 #[.agg #[.slice s1 m1 k1,.slice s2 m2 k2,.slice s3 m3 k3,.int .i64 (dq c.ao).bH,.slice p4 c.fs.length c4,.slice p5 c.results.length c5,.int .i64 0],.agg #[.int .i64 (ix c.fs (c.fs.length - 1)).op,.slice q1 (ix c.fs (c.fs.length - 1)).par.length d1,.slice q2 (ix c.fs (c.fs.length - 1)).res.length d2,.bool false,.bool (ix c.fs (c.fs.length - 1)).kf]] w' (bg (bY (nD c)) (fun y=>.agg (er (nD c) y).toArray) D' w'):=fun D' w' hh=>by
  obtain⟨_,_,_,_,_,_,_,-,-,hx,-⟩:=hh.1.frame (i:=c.fs.length - 1) Mj
  dsimp only at hx
  rw[e5]at hx
  have:=sg D' {c with ao:=dq c.ao} ⟨⟨.slice s1 m1 k1,.slice s2 m2 k2,.slice s3 m3 k3⟩,.slice p4 c.fs.length c4,.slice p5 c.results.length c5,z⟩ {ix c.fs (c.fs.length - 1)with live:=false} (.slice q1 (ix c.fs (c.fs.length - 1)).par.length d1,.slice q2 (ix c.fs (c.fs.length - 1)).res.length d2) w' (oX.put hh) hx h0 hfl
  exact this
 refine aa.he (HE.bF (V:=oX c ⟨⟨.slice p1 c.ao.ts.length c1,.slice p2 c.ao.ps.length c2,.slice p3 c.ao.ps.length c3⟩,.slice p4 c.fs.length c4,.slice p5 c.results.length c5,z⟩ (dq c.ao)) (V2:=bY (nD c)) (w0:=w) (F:=F) (D:=D') (y:=⟨.slice s1 m1 k1,.slice s2 m2 k2,.slice s3 m3 k3⟩) (bY.fr _) (bY.lt _) (bY.mo _) ak bG (fun _=>aA) rfl rfl (fun w' _ h=>hwi _ w' h)) rfl ?_
 rintro⟨D2,y2⟩ _
 refine aa.pure (φ:=∃p1 n1 c1 p2 n2 c2 p3 n3 c3 p4 n4 c4 p5 n5 c5,∃z:List rU,y2=⟨⟨.slice p1 n1 c1,.slice p2 n2 c2,.slice p3 n3 c3⟩,.slice p4 n4 c4,.slice p5 n5 c5,z⟩) (fun w' hw'=>?_) ?_
 ·obtain⟨p1,c1,p2,c2,p3,c3,p4,c4,p5,c5,e,-⟩:=(hw'.an (V:=bY (nD c)) (w0:=w) (F:=F) (D:=D2) (y:=y2) ak bG).fP
  exact⟨p1,_,c1,p2,_,c2,p3,_,c3,p4,_,c4,p5,_,c5,_,e⟩
 rintro⟨t1,e1,l1,t2,e2,l2,t3,e3,l3,t4,e4,l4,t5,e5',l5,z5,rfl⟩
 dsimp only[er]
 repeat'(first|refine ar ?_|fail)
 refine J4 ?_
 exact fun w' hw'=>bg.qg (V:=bY (nD c)) (D:=D2) (y:=⟨⟨.slice t1 e1 l1,.slice t2 e2 l2,.slice t3 e3 l3⟩,.slice t4 e4 l4,.slice t5 e5' l5,z5⟩) (bY.mo _) hw' ak bG
theorem bu.ix {z:Nat} {l:List Oper} {Q:Exit→Act→World→Prop} {Mc:List a8} {Rc:List (World→Prop)} {n fuel i:Nat} {listed:Array Bool} {E:Env} {M:List a8} {R:List (World→Prop)} (k:Nat) (h:bu z l Q Mc Rc n fuel listed i E M R) (_:Nat.beq i k=true:=by decide):bu z l Q Mc Rc n fuel listed i E M R:=h
theorem cK.map {z:Nat} {l:List Oper} {Q:Exit→Act→World→Prop} {Mc:List a8} {Rc:List (World→Prop)} {n fuel:Nat} {listed:Array Bool} {E:Env} {M M':List a8} {R R':List (World→Prop)} (hp:∀w,Ok M R w→Ok M' R' w) (h:cK z l Q Mc Rc n fuel listed E M' R'):cK z l Q Mc Rc n fuel listed E M R:=⟨fun w hw=>h.h w (hp w hw)⟩
def fh (l:List Value):Prop:=∃p1 n1 c1 p2 n2 c2 p3 n3 c3 m p4 n4 c4 p5 n5 c5 b,l=[.slice p1 n1 c1,.slice p2 n2 c2,.slice p3 n3 c3,.int .i64 m,.slice p4 n4 c4,.slice p5 n5 c5,.int .i64 b]
theorem fh.mk (p1:Option Addr) (n1 c1:Nat) (p2:Option Addr) (n2 c2:Nat) (p3:Option Addr) (n3 c3:Nat) (m:Int) (p4:Option Addr) (n4 c4:Nat) (p5:Option Addr) (n5 c5:Nat) (b:Int):fh [.slice p1 n1 c1,.slice p2 n2 c2,.slice p3 n3 c3,.int .i64 m,.slice p4 n4 c4,.slice p5 n5 c5,.int .i64 b]:=⟨p1,n1,c1,p2,n2,c2,p3,n3,c3,m,p4,n4,c4,p5,n5,c5,b,rfl⟩
theorem bY.v7 {c:fN} {D:Nat→Prop} {w:World} {y:iP} (h:bY c D w y):fh (er c y):=by
 obtain⟨p1,c1,p2,c2,p3,c3,p4,c4,p5,c5,e,-⟩:=h.fP
 rw[e]
 exact fh.mk ..
def fm (r:fN×Int) (D:Nat→Prop) (w:World) (x:iP×List Value):Prop:=fh x.2∧(r.2=0→x.2=er r.1 x.1∧bY r.1 D w x.1)
def fT (r:fN×Int) (F:Nat→Prop) (w:World):Ending→World→Prop:=bg (fm r) (fun x=>.tuple #[.agg x.2.toArray,.int .i64 r.2]) F w
theorem fm.fr (r:fN×Int):tp (fm r):=fun h hc hd=>⟨h.1,fun e=>⟨(h.2 e).1,bY.fr _ (h.2 e).2 hc hd⟩⟩
theorem fm.lt (r:fN×Int):BK (fm r):=fun h=>⟨h.1,fun e=>⟨(h.2 e).1,bY.lt _ (h.2 e).2⟩⟩
theorem fm.mo (r:fN×Int):vP (fm r):=fun hd h=>⟨h.1,fun e=>⟨(h.2 e).1,bY.mono (h.2 e).2 hd⟩⟩
theorem fT.err {c:fN} {e:Int} {F:Nat→Prop} {w w':World} {l:List Value} (hl:fh l) (he:e≠0) (hx:Ext w w'):fT (c,e) F w (.returned (.tuple #[.agg l.toArray,.int .i64 e])) w':=⟨⟨(⟨⟨.slice none 0 0,.slice none 0 0,.slice none 0 0⟩,.slice none 0 0,.slice none 0 0,[]⟩,l),rfl,hl,fun h=>absurd h he⟩,hx⟩
theorem fT.ok {c:fN} {F:Nat→Prop} {w w':World} (y:iP) (h:bY c (fun k=>F k∨w.heap.size≤k) w' y) (hx:Ext w w'):fT (c,0) F w (.returned (.tuple #[.agg (er c y).toArray,.int .i64 0])) w':=⟨⟨(y,er c y),rfl,h.v7,fun _=>⟨rfl,h⟩⟩,hx⟩
theorem bY.at {c:fN} {F D:Nat→Prop} {s:bP} {w w':World} {y:iP} {x:jq} (h:bY c F w y) (hx:Ext w w') (hr:aY s D w' x):bY {c with ao:=s} (fun _=>True) w' {y with r:=x}:=by
 have h2:=(bY.fr c h hx (fun _ _ _ h=>h)).mono (H:=fun _=>True) fun _ _=>trivial
 exact⟨hr.mono fun _ _=>trivial,h2.2⟩
theorem Ok.new {M:List a8} {R:List (World→Prop)} {β:Type} {V:(Nat→Prop)→World→β→Prop} {w w':World} {F D:Nat→Prop} {y:β} (hm:vP V) (hw:Ok M R w') (hR:Ext w∈R) (hM:a8.an V w F D y∈M):V (fun k=>F k∨w.heap.size≤k) w' y:=by
 obtain⟨⟨x,e,h⟩,_⟩:=bg.qg (V:=V) (tf:=fun _=>.bool true) hm hw hR hM
 exact hm (fun k hk=>hk.elim (fun h=>.inl h.1) fun h=>by
  rcases Nat.lt_or_ge k w.heap.size with hlt|hge
  ·exact(hw.origin (S:=fun _=>False) hR k ⟨_,hM,h⟩ hlt).elim
  ·exact .inr hge) (hw.an hR hM)
def lS (c:fN) (op:Int) (f:aL):fN×Int:=
 if op≠2∧op≠3∧op≠4 then(c,1)else if c.fs.length=0 then(c,16)else
  if(if op=4 then aE c.ao [1]else(c.ao,0)).2≠0 then(c,(if op=4 then aE c.ao [1]else(c.ao,0)).2)else
   if(aE (if op=4 then aE c.ao [1]else(c.ao,0)).1 f.params).2≠0 then(c,(aE (if op=4 then aE c.ao [1]else(c.ao,0)).1 f.params).2)else
    ({c with ao:=aJ (aR (aE (if op=4 then aE c.ao [1]else(c.ao,0)).1 f.params).1) f.params,fs:=c.fs++[⟨op,f.params,f.results,(ix c.fs (c.fs.length - 1)).live,(ix c.fs (c.fs.length - 1)).live⟩]},0)
set_option maxHeartbeats 8000000 in
theorem mN (F:Nat→Prop) (c:fN) (y:iP) (op:Int) (f:aL) (fp fq:Option Addr) (fc fd:Nat) (w:World) (h:bY c F w y) (_hf:dr f F w (.slice fp f.params.length fc,.slice fq f.results.length fd)) (hs:c.ao.Wf) (_hfl:c.fs.length≤1000000) (_hpl:c.ao.ps.length≤1000000) (_hb:c.ao.ts.length+f.params.length≤17592186044416) (he:(op≠2∧op≠3∧op≠4)∨c.fs.length=0):Calls G.P 20 #[.agg (er c y).toArray,.int .i64 op,.agg #[.slice fp f.params.length fc,.slice fq f.results.length fd]] w (fT (c,if op≠2∧op≠3∧op≠4 then 1 else 16) F w):=by
 have hps:=hs.some
 have hat:=hs.at_
 obtain⟨p1,c1,p2,c2,p3,c3,p4,c4,p5,c5,ey,k4,h4,kz⟩:=h.fP
 obtain⟨r,fv,rv,z⟩:=y
 cases ey
 refine JF ?_
 dsimp only[er]
 by_cases ho:op≠2∧op≠3∧op≠4
 ·rw[if_pos ho]
  obtain⟨o2,o3,o4⟩:=ho
  repeat'(first|refine ar ?_|(refine aC fun b_=>?_)|(refine dK fun b_=>?_)|(refine dc fun b_=>?_)|(refine a7 ?_ ?_<;>intro hc_))
  all_goals exact t7
 ·rw[if_neg ho]
  have hn:c.fs.length=0:=he.resolve_left ho
  have hn':(c.fs.length:Int)=0:=by omega
  repeat'(first|refine ar ?_|(refine aC fun b_=>?_)|(refine dK fun b_=>?_)|(refine dc fun b_=>?_)|(refine a7 ?_ ?_<;>intro hc_))
  all_goals exact t7
theorem bY.HO {c:fN} {F D:Nat→Prop} {s:bP} {w w':World} {y:iP} {x:jq} (h:bY c F w y) (hx:Ext w w') (hr:aY s (AF F w D) w' x):bY {c with ao:=s} (AF F w D) w' {y with r:=x}:=by
 have h2:=(bY.fr c (bY.lt c h) hx (fun _ _ _ h=>h)).mono (H:=AF F w D) fun _ hk=>.inl hk
 exact⟨hr,h2.2⟩
def uN (c:fN):fN×Int:=
 if c.fs.length=0∨(ix c.fs (c.fs.length - 1)).op≠4 then(c,16)else if(cw c.ao (ix c.fs (c.fs.length - 1)).res).2≠0 then(c,(cw c.ao (ix c.fs (c.fs.length - 1)).res).2)else
  ({c with ao:=aJ (aR (cw c.ao (ix c.fs (c.fs.length - 1)).res).1) (ix c.fs (c.fs.length - 1)).par,fs:=c.fs.take (c.fs.length - 1)++[{ix c.fs (c.fs.length - 1)with op:=5,live:=(ix c.fs (c.fs.length - 1)).kf}]},0)
set_option maxHeartbeats 8000000 in
theorem qq (F:Nat→Prop) (c:fN) (y:iP) (w:World) (h:bY c F w y) (hs:c.ao.Wf) (_hfl:c.fs.length≤1000000) (_hpl:c.ao.ps.length≤1000000) (hn:c.fs.length=0):Calls G.P 67 #[.agg (er c y).toArray] w (fT (c,16) F w):=by
 have hp0:=hs.some
 have ha0:=hs.at_.1
 have hle0:=hs.at_.2
 obtain⟨p1,c1,p2,c2,p3,c3,p4,c4,p5,c5,ey,k4,h4,kz⟩:=h.fP
 obtain⟨y,fv,rv,z⟩:=y
 cases ey
 refine J6 ?_
 dsimp only[er]
 have hn':(c.fs.length:Int)=0:=by omega
 repeat'(first|refine ar ?_|(refine KQ fun b_=>?_)|fail)
 all_goals exact t7
set_option maxHeartbeats 8000000 in
theorem tJ (F:Nat→Prop) (c:fN) (y:iP) (w:World) (h:bY c F w y) (hs:c.ao.Wf) (hfl:c.fs.length≤1000000) (_hpl:c.ao.ps.length≤1000000) (hn:c.fs.length≠0) (ho:(ix c.fs (c.fs.length - 1)).op≠4):Calls G.P 67 #[.agg (er c y).toArray] w (fT (c,16) F w):=by
 have hp0:=hs.some
 have ha0:=hs.at_.1
 have hle0:=hs.at_.2
 obtain⟨p1,c1,p2,c2,p3,c3,p4,c4,p5,c5,ey,k4,h4,kz⟩:=h.fP
 obtain⟨_,_,g1,k1,g2,k2,_,-,e5,hfx,-⟩:=h.frame (i:=c.fs.length - 1) Mj
 have hz:=h.2.1
 have htop:∀w',Ext w w'→Calls G.P 60 #[.agg (er c y).toArray] w' fun e w2=>e=.returned (.agg #[.int .i64 (ix c.fs (c.fs.length - 1)).op,.slice g1 (ix c.fs (c.fs.length - 1)).par.length k1,.slice g2 (ix c.fs (c.fs.length - 1)).res.length k2,.bool (ix c.fs (c.fs.length - 1)).live,.bool (ix c.fs (c.fs.length - 1)).kf])∧Ext w' w2:=fun w' hx=>by
  have:=jm F c y w' (bY.fr c h hx (fun _ _ _ h=>h)) Mj
  rw[e5]at this
  exact this
 obtain⟨y,fv,rv,z⟩:=y
 cases ey
 dsimp only[er]at e5 hz kz hfx htop
 rw[e5]at hfx
 have hI:∀l v,af F w v l→∀D w',Ext w w'→af (AF F w D) w' v l:=fun l v hv D w' hx=>(((hv.mono (fun k hk hF=>⟨hF,hk⟩):af (fun k=>F k∧k<w.heap.size) w _ _)).aO hx (fun _ _ _ h=>h)).mono fun k _ h=>.inl h
 refine J6 ?_
 dsimp only[er]
 have hn':¬(c.fs.length:Int)=0:=by omega
 repeat'(first|refine ar ?_|(refine KQ fun b_=>?_)|refine K9 ?_|(refine aa.yg LV (Yl.gB (T:=35) (o:=0) L9 L9 rfl rfl rfl rfl) rfl ?_)|fail)
 all_goals exact t7
set_option maxHeartbeats 16000000 in
theorem vM (F:Nat→Prop) (c:fN) (y:iP) (w:World) (h:bY c F w y) (hs:c.ao.Wf) (hfl:c.fs.length≤1000000) (hpl:c.ao.ps.length≤1000000) (hn:c.fs.length≠0) (ho:(ix c.fs (c.fs.length - 1)).op=4) (hp2:2≤c.ao.ps.length) (hb:c.ao.ts.length+(ix c.fs (c.fs.length - 1)).par.length≤17592186044416):Calls G.P 67 #[.agg (er c y).toArray] w (fT (if(cw c.ao (ix c.fs (c.fs.length - 1)).res).2≠0 then(c,(cw c.ao (ix c.fs (c.fs.length - 1)).res).2)else
  ({c with ao:=aJ (aR (cw c.ao (ix c.fs (c.fs.length - 1)).res).1) (ix c.fs (c.fs.length - 1)).par,fs:=c.fs.take (c.fs.length - 1)++[{ix c.fs (c.fs.length - 1)with op:=5,live:=(ix c.fs (c.fs.length - 1)).kf}]},0)) F w):=by
 have hp0:=hs.some
 have ha0:=hs.at_.1
 have hle0:=hs.at_.2
 obtain⟨p1,c1,p2,c2,p3,c3,p4,c4,p5,c5,ey,k4,h4,kz⟩:=h.fP
 obtain⟨_,_,g1,k1,g2,k2,_,-,e5,hfx,-⟩:=h.frame (i:=c.fs.length - 1) Mj
 have hz:=h.2.1
 have htop:∀w',Ext w w'→Calls G.P 60 #[.agg (er c y).toArray] w' fun e w2=>e=.returned (.agg #[.int .i64 (ix c.fs (c.fs.length - 1)).op,.slice g1 (ix c.fs (c.fs.length - 1)).par.length k1,.slice g2 (ix c.fs (c.fs.length - 1)).res.length k2,.bool (ix c.fs (c.fs.length - 1)).live,.bool (ix c.fs (c.fs.length - 1)).kf])∧Ext w' w2:=fun w' hx=>by
  have:=jm F c y w' (bY.fr c h hx (fun _ _ _ h=>h)) Mj
  rw[e5]at this
  exact this
 obtain⟨y,fv,rv,z⟩:=y
 cases ey
 dsimp only[er]at e5 hz kz hfx htop
 rw[e5]at hfx
 have hI:∀l v,af F w v l→∀D w',Ext w w'→af (AF F w D) w' v l:=fun l v hv D w' hx=>(((hv.mono (fun k hk hF=>⟨hF,hk⟩):af (fun k=>F k∧k<w.heap.size) w _ _)).aO hx (fun _ _ _ h=>h)).mono fun k _ h=>.inl h
 refine J6 ?_
 dsimp only[er]
 have hn':¬(c.fs.length:Int)=0:=by omega
 obtain⟨r1,hr1⟩:∃r,cw c.ao (ix c.fs (c.fs.length - 1)).res=r:=⟨_,rfl⟩
 obtain⟨s1,e1⟩:=r1
 rw[hr1]
 have hts1:s1.ts.length≤c.ao.ts.length:=by have:=kW c.ao (ix c.fs (c.fs.length - 1)).res;rw[hr1]at this;exact this
 dsimp only
 repeat'(first|refine ar ?_|(refine KQ fun b_=>?_)|(refine aa.ai (f:=60) ?_;refine aa.aq rfl rfl rfl (fun w' hw'=>htop w' hw'.at) ?_)|refine K9 ?_|(refine aa.yg LV (Yl.gB (T:=35) (o:=0) L9 L9 rfl rfl rfl rfl) rfl ?_)|fail)
 all_goals first|omega|skip
 obtain⟨b4,rfl⟩:∃y:Nat,y=b_:=⟨_,rfl⟩
 by_cases he1:e1=0
 ·subst he1
  rw[if_neg (fun h=>h rfl)]
  obtain⟨hpa,hpb⟩:0<s1.ps.length∧s1.ps.length≤c.ao.ps.length:=by have:=rk c.ao (ix c.fs (c.fs.length - 1)).res hp2 (by rw[hr1]);rw[hr1]at this;exact this
  refine aa.he (HE.bF (V:=aY c.ao) (V2:=aY s1) (w0:=w) (F:=F) (D:=fun _=>False) (y:=⟨.slice p1 c.ao.ts.length c1,.slice p2 c.ao.ps.length c2,.slice p3 c.ao.ps.length c3⟩) (aY.fr _) (aY.lt _) (aY.mo _) ak bG (fun _=>aA) rfl rfl (fun w' hw' hh=>by have:=mf _ F c.ao ⟨.slice p1 c.ao.ts.length c1,.slice p2 c.ao.ps.length c2,.slice p3 c.ao.ps.length c3⟩ (.slice g2 (ix c.fs (c.fs.length - 1)).res.length k2) (ix c.fs (c.fs.length - 1)).res w' hh (hfx.2.aO (show Ext w w' from hw'.at) (fun _ _ _ h=>h)) hp2 ha0 hle0;rw[hr1]at this;exact this.mono fun _ _ g=>nm.to g)) rfl ?_
  rintro⟨D1,x1⟩ _
  refine aa.pure (φ:=∃q1 d1 q2 d2 q3 d3,x1=⟨.slice q1 s1.ts.length d1,.slice q2 s1.ps.length d2,.slice q3 s1.ps.length d3⟩) (fun w' hw'=>by obtain⟨q1,d1,q2,d2,q3,d3,e,-⟩:=(hw'.an (V:=aY s1) (w0:=w) (F:=F) (D:=D1) (y:=x1) ak bG).fP;exact⟨q1,d1,q2,d2,q3,d3,e⟩) ?_
  rintro⟨r1,rc1,r2,rc2,r3,rc3,rfl⟩
  dsimp only[fI]
  repeat'(first|refine ar ?_|(refine KR fun b_=>?_)|fail)
  obtain⟨b5,rfl⟩:∃y:Nat,y=b_:=⟨_,rfl⟩
  refine aZ.hH 7 [.aT b5 [.slice r1 s1.ts.length rc1,.slice r2 s1.ps.length rc2,.slice r3 s1.ps.length rc3,.int .i64 s1.bH] mJ,.aT b4 [.int .i64 (ix c.fs (c.fs.length - 1)).op,.slice g1 (ix c.fs (c.fs.length - 1)).par.length k1,.slice g2 (ix c.fs (c.fs.length - 1)).res.length k2,.bool (ix c.fs (c.fs.length - 1)).live,.bool (ix c.fs (c.fs.length - 1)).kf] Ek] [Ext w] bc aV ?_
  repeat'(first|refine Bl ?_|(refine bu.ep 52 ?_;refine bu.he rfl rfl (HE.bF (V:=aY s1) (V2:=aY (aR s1)) (tf:=fun y=>.agg (fI (aR s1) y).toArray) (w0:=w) (F:=F) (D:=D1) (y:=⟨.slice r1 s1.ts.length rc1,.slice r2 s1.ps.length rc2,.slice r3 s1.ps.length rc3⟩) (aY.fr _) (aY.lt _) (aY.mo _) ak bG (fun _=>aA) rfl rfl (fun w' hw' hh=>lP _ s1 ⟨.slice r1 s1.ts.length rc1,.slice r2 s1.ps.length rc2,.slice r3 s1.ps.length rc3⟩ w' hh Mj)) (fun _=>bc) (fun _=>aV) ?_;rintro⟨D3,x3⟩ _;refine cK.pure (φ:=∃q1 d1 q2 d2 q3 d3,x3=⟨.slice q1 (aR s1).ts.length d1,.slice q2 (aR s1).ps.length d2,.slice q3 (aR s1).ps.length d3⟩) (fun w' hw'=>by obtain⟨q1,d1,q2,d2,q3,d3,e,-⟩:=(hw'.an (V:=aY (aR s1)) (w0:=w) (F:=F) (D:=D3) (y:=x3) ak bG).fP;exact⟨q1,d1,q2,d2,q3,d3,e⟩) ?_;rintro⟨u1,uc1,u2,uc2,u3,uc3,rfl⟩;dsimp only[fI])|(refine bu.ep 25 ?_;refine bu.he rfl rfl (HE.bF (V:=aY (aR s1)) (V2:=aY (aJ (aR s1) (ix c.fs (c.fs.length - 1)).par)) (tf:=fun y=>.agg (fI (aJ (aR s1) (ix c.fs (c.fs.length - 1)).par) y).toArray) (w0:=w) (F:=F) (D:=D3) (y:=⟨.slice u1 (aR s1).ts.length uc1,.slice u2 (aR s1).ps.length uc2,.slice u3 (aR s1).ps.length uc3⟩) (aY.fr _) (aY.lt _) (aY.mo _) ak bG (fun _=>aA) rfl rfl (fun w' hw' hh=>iH _ (aR s1) ⟨.slice u1 (aR s1).ts.length uc1,.slice u2 (aR s1).ps.length uc2,.slice u3 (aR s1).ps.length uc3⟩ (.slice g1 (ix c.fs (c.fs.length - 1)).par.length k1) (ix c.fs (c.fs.length - 1)).par w' hh (hI _ _ hfx.1 _ w' hw'.at) (by show s1.ts.length+_≤_;omega))) (fun _=>bc) (fun _=>aV) ?_;rintro⟨D4,x4⟩ _;refine cK.pure (φ:=∃q1 d1 q2 d2 q3 d3,x4=⟨.slice q1 (aJ (aR s1) (ix c.fs (c.fs.length - 1)).par).ts.length d1,.slice q2 (aJ (aR s1) (ix c.fs (c.fs.length - 1)).par).ps.length d2,.slice q3 (aJ (aR s1) (ix c.fs (c.fs.length - 1)).par).ps.length d3⟩) (fun w' hw'=>by obtain⟨q1,d1,q2,d2,q3,d3,e,-⟩:=(hw'.an (V:=aY (aJ (aR s1) (ix c.fs (c.fs.length - 1)).par)) (w0:=w) (F:=F) (D:=D4) (y:=x4) ak bG).fP;exact⟨q1,d1,q2,d2,q3,d3,e⟩) ?_;rintro⟨v1,vc1,v2,vc2,v3,vc3,rfl⟩;dsimp only[fI])|(refine bu.iq rfl (fQ.gx [.slice v1 (aJ (aR s1) (ix c.fs (c.fs.length - 1)).par).ts.length vc1,.slice v2 (aJ (aR s1) (ix c.fs (c.fs.length - 1)).par).ps.length vc2,.slice v3 (aJ (aR s1) (ix c.fs (c.fs.length - 1)).par).ps.length vc3,.int .i64 (aJ (aR s1) (ix c.fs (c.fs.length - 1)).par).bH] [.slice v1 (aJ (aR s1) (ix c.fs (c.fs.length - 1)).par).ts.length vc1,.slice v2 (aJ (aR s1) (ix c.fs (c.fs.length - 1)).par).ps.length vc2,.slice v3 (aJ (aR s1) (ix c.fs (c.fs.length - 1)).par).ps.length vc3,.int .i64 (aJ (aR s1) (ix c.fs (c.fs.length - 1)).par).bH,.slice p4 c.fs.length c4,.slice p5 c.results.length c5,.int .i64 0] rfl rfl rfl rfl rfl rfl aA rfl rfl) ?_;rintro⟨⟩ _)|refine cK.any LX ?_|exact bZ.fin rfl|refine bZ.skip LX ?_|refine bZ.go ?_ ?_)
  obtain⟨s4,hs4⟩:∃s,aJ (aR s1) (ix c.fs (c.fs.length - 1)).par=s:=⟨_,rfl⟩
  rw[hs4]
  repeat'(first|refine ar ?_|fail)
  refine aa.he (HE.bF (V:=aY s4) (V2:=bY {c with ao:=s4,fs:=c.fs.take (c.fs.length - 1)++[{ix c.fs (c.fs.length - 1)with op:=5,live:=(ix c.fs (c.fs.length - 1)).kf}]}) (tf:=fun y=>.agg (er {c with ao:=s4,fs:=c.fs.take (c.fs.length - 1)++[{ix c.fs (c.fs.length - 1)with op:=5,live:=(ix c.fs (c.fs.length - 1)).kf}]} y).toArray) (w0:=w) (F:=F) (D:=D4) (y:=⟨.slice v1 s4.ts.length vc1,.slice v2 s4.ps.length vc2,.slice v3 s4.ps.length vc3⟩) (bY.fr _) (bY.lt _) (bY.mo _) ak bG (fun _=>aA) rfl rfl (fun w' hw' hh=>by have:=sg _ {c with ao:=s4} ⟨⟨.slice v1 s4.ts.length vc1,.slice v2 s4.ps.length vc2,.slice v3 s4.ps.length vc3⟩,.slice p4 c.fs.length c4,.slice p5 c.results.length c5,z⟩ {ix c.fs (c.fs.length - 1)with op:=5,live:=(ix c.fs (c.fs.length - 1)).kf} (.slice g1 (ix c.fs (c.fs.length - 1)).par.length k1,.slice g2 (ix c.fs (c.fs.length - 1)).res.length k2) w' (bY.HO h hw'.at hh) ⟨hI _ _ hfx.1 _ w' hw'.at,hI _ _ hfx.2 _ w' hw'.at⟩ (by show 0<c.fs.length;omega) hfl;exact this)) rfl ?_
  rintro⟨D5,y5⟩ _
  refine aa.pure (φ:=∃a1 n1 c1 a2 n2 c2 a3 n3 c3 a4 n4 c4 a5 n5 c5,∃z:List rU,y5=⟨⟨.slice a1 n1 c1,.slice a2 n2 c2,.slice a3 n3 c3⟩,.slice a4 n4 c4,.slice a5 n5 c5,z⟩) (fun w' hw'=>by obtain⟨p1,c1,p2,c2,p3,c3,p4,c4,p5,c5,e,-⟩:=(hw'.an (V:=bY {c with ao:=s4,fs:=c.fs.take (c.fs.length - 1)++[{ix c.fs (c.fs.length - 1)with op:=5,live:=(ix c.fs (c.fs.length - 1)).kf}]}) (w0:=w) (F:=F) (D:=D5) (y:=y5) ak bG).fP;exact⟨p1,_,c1,p2,_,c2,p3,_,c3,p4,_,c4,p5,_,c5,_,e⟩) ?_
  rintro⟨t1,m1,l1,t2,m2,l2,t3,m3,l3,t4,m4,l4,t5,m5,l5,z5,rfl⟩
  dsimp only[er]
  repeat'(first|refine ar ?_|fail)
  refine IR ?_
  exact fun w' hw'=>fT.ok (c:={c with ao:=s4,fs:=c.fs.take (c.fs.length - 1)++[{ix c.fs (c.fs.length - 1)with op:=5,live:=(ix c.fs (c.fs.length - 1)).kf}]}) ⟨⟨.slice t1 m1 l1,.slice t2 m2 l2,.slice t3 m3 l3⟩,.slice t4 m4 l4,.slice t5 m5 l5,z5⟩ (hw'.new (V:=bY {c with ao:=s4,fs:=c.fs.take (c.fs.length - 1)++[{ix c.fs (c.fs.length - 1)with op:=5,live:=(ix c.fs (c.fs.length - 1)).kf}]}) (w:=w) (F:=F) (D:=D5) (y:=⟨⟨.slice t1 m1 l1,.slice t2 m2 l2,.slice t3 m3 l3⟩,.slice t4 m4 l4,.slice t5 m5 l5,z5⟩) (bY.mo _) ak bG) hw'.at
 ·rw[if_pos he1]
  refine aa.he (HE.bF (V:=aY c.ao) (V2:=jD) (w0:=w) (F:=F) (D:=fun _=>False) (y:=⟨.slice p1 c.ao.ts.length c1,.slice p2 c.ao.ps.length c2,.slice p3 c.ao.ps.length c3⟩) jD.fr jD.lt jD.mo ak bG (fun _=>aA) rfl rfl (fun w' hw' hh=>by have:=mf _ F c.ao ⟨.slice p1 c.ao.ts.length c1,.slice p2 c.ao.ps.length c2,.slice p3 c.ao.ps.length c3⟩ (.slice g2 (ix c.fs (c.fs.length - 1)).res.length k2) (ix c.fs (c.fs.length - 1)).res w' hh (hfx.2.aO (show Ext w w' from hw'.at) (fun _ _ _ h=>h)) hp2 ha0 hle0;rw[hr1]at this;exact this.mono fun _ _ g=>nm.oQ g)) rfl ?_
  rintro⟨D2,x2⟩ _
  refine JJ ?_
  rintro⟨q1,n1,d1,q2,n2,d2,q3,n3,d3,rfl⟩
  dsimp only[fI]
  repeat'(first|refine ar ?_|(refine KR fun b_=>?_)|(refine aa.ai (f:=59) ?_;refine aa.he (HE.dX rfl rfl (fun w' _=>hO _ _ _ _ _ _ _ _ _ _ _ _ _ _ _ _ _ _ w')) rfl ?_;rintro⟨⟩ _)|fail)
  all_goals first|omega|skip
  all_goals(refine ah.aF (.inl rfl) rfl rfl rfl rfl rfl aA rfl rfl ?_;exact fun w' hw'=>fT.err (e:=_) (fh.mk ..) LO hw'.at)
theorem HE.Dw {n:Nat} {E:Env} {M:List a8} {R:List (World→Prop)} {β2:Type} {V2:(Nat→Prop)→World→β2→Prop} (hV2:tp V2) (hl:BK V2) {tf:β2→Value} {f:Nat} {args:List Operand} {tys:Array TypeId} {vs:List Value}
  (hf:G.fb[f]?=some true) (ha:jQ E args=some vs) (hc:∀w,Ok M R w→Calls G.P f vs.toArray w (bg V2 tf (fun _=>False) w)):
  HE n (.call ⟨.value (.func f),args.toArray,tys⟩) E M R (fun _:(Nat→Prop)×β2=>True) (fun x=>tf x.2) (fun x=>.j8 V2 hV2 x.1 x.2::M) (fun _=>R):=
 ⟨fun w hw=>(ck.call hf ha (hc w hw) (fun e w' h=>by obtain⟨⟨x,e1,_⟩,_⟩:=h;exact⟨_,e1⟩)).mono fun v w' ⟨⟨x,e1,hv⟩,hx⟩=>by
  cases e1
  refine⟨(fun k=>(False∨w.heap.size≤k)∧k<w'.heap.size,x),trivial,rfl,hw.push hx (hl hv) ?_⟩
  rintro k ⟨hk,hlt⟩
  exact⟨hk.elim (fun h=>h.elim) (fun h=>h),hlt⟩⟩
def tU (l:List Int):fN:=⟨aR ⟨[],[(0,false)],0⟩,[⟨11,[],l,true,true⟩],l⟩
set_option maxHeartbeats 8000000 in
theorem Bt (F:Nat→Prop) (l:List Int) (v:Value) (w:World) (h:af F w v l):Calls G.P 18 #[v] w (bg (bY (tU l)) (fun y=>.agg (er (tU l) y).toArray) F w):=by
 obtain⟨q,d,rfl,hl⟩:=h.slice
 refine ae (l:=[_]) Tryz.func18 rfl Tryz.ntmps18 rfl (Ok.start w) ?_
 repeat'(first|refine ar ?_|(refine dK fun b_=>?_)|fail)
 refine aa.alloc (t:=Ek) [.int .i64 0,.slice none 0 0,.slice none 0 0,.bool false,.bool false] rfl rfl rfl fun b3=>?_
 repeat'(first|refine ar ?_|fail)
 refine aZ.hH 6 [.aT b3 [.int .i64 11,.slice none 0 0,.slice q l.length d,.bool true,.bool true] Ek] [Ext w] bc aV ?_
 repeat'(first|refine Bl ?_|(refine bu.ep 53 ?_;refine bu.he rfl rfl (HE.Dw (V2:=aY ⟨[],[(0,false)],0⟩) (aY.fr _) (aY.lt _) (tf:=fun y=>.agg (fI ⟨[],[(0,false)],0⟩ y).toArray) rfl rfl (fun w' hw'=>Bj w')) (fun _=>bc) (fun _=>aV) ?_;rintro⟨D1,y1⟩ _;dsimp only)|(refine bu.ep 52 ?_;refine bu.he rfl rfl (HE.Fc (V:=aY ⟨[],[(0,false)],0⟩) (V2:=aY (aR ⟨[],[(0,false)],0⟩)) (aY.fr _) (aY.fr _) (aY.lt _) (tf:=fun y=>.agg (fI (aR ⟨[],[(0,false)],0⟩) y).toArray) (fun _=>aA) rfl rfl (fun w' hw'=>lP D1 ⟨[],[(0,false)],0⟩ y1 w' (show aY ⟨[],[(0,false)],0⟩ D1 w' y1 from(hw'.m (.j8 (aY ⟨[],[(0,false)],0⟩) (aY.fr _) D1 y1) bG).1) Mh)) (fun _=>bc) (fun _=>aV) ?_;rintro⟨D2,y2⟩ _;dsimp only;refine cK.pure (φ:=∃p1 c1 p2 c2 p3 c3,y2=⟨.slice p1 0 c1,.slice p2 2 c2,.slice p3 2 c3⟩) (fun w' hw'=>?_) ?_;(·obtain⟨p1,c1,p2,c2,p3,c3,e,-⟩:=(show aY (aR ⟨[],[(0,false)],0⟩) D2 w' y2 from(hw'.m (.j8 (aY (aR ⟨[],[(0,false)],0⟩)) (aY.fr _) D2 y2) bG).1).fP;exact⟨p1,c1,p2,c2,p3,c3,e⟩);rintro⟨r1,k1,r2,k2,r3,k3,rfl⟩;dsimp only[fI])|(refine bu.kZ ?_;refine bu.he rfl rfl (HE.jJ rfl rfl rfl rfl rfl eT Ml Ml) (fun _=>bc) (fun _=>aV) ?_;intro b7 _)|(refine bu.iq rfl (fQ.bn [.slice r1 0 k1,.slice r2 2 k2,.slice r3 2 k3,.int .i64 0,.slice (some ⟨b7,0,none⟩) 1 1,.slice q l.length d,.int .i64 0] rfl rfl rfl rfl rfl rfl aA rfl) ?_;rintro⟨⟩ _)|refine cK.any LX ?_|exact bZ.fin rfl|refine bZ.skip LX ?_|refine bZ.go ?_ ?_)
 all_goals
  repeat'(first|refine ar ?_|fail)
  refine J4 ?_
  intro w' hw'
  have g1:aY (aR ⟨[],[(0,false)],0⟩) (fun k=>F k∨w.heap.size≤k) w' ⟨.slice r1 0 k1,.slice r2 2 k2,.slice r3 2 k3⟩:=aY.mono (show aY (aR ⟨[],[(0,false)],0⟩) D2 w' ⟨.slice r1 0 k1,.slice r2 2 k2,.slice r3 2 k3⟩from(hw'.m (.j8 (aY (aR ⟨[],[(0,false)],0⟩)) (aY.fr _) D2 _) bG).1) fun k hk=>by
   rcases Nat.lt_or_ge k w.heap.size with h|h
   ·exact(hw'.origin (S:=fun _=>False) (show Ext w∈_ from ak) k ⟨.j8 (aY (aR ⟨[],[(0,false)],0⟩)) (aY.fr _) D2 ⟨.slice r1 0 k1,.slice r2 2 k2,.slice r3 2 k3⟩,bG,hk⟩ h).elim
   ·exact .inr h
  have g2:uj (fun k=>F k∨w.heap.size≤k) w' (.slice (some ⟨b7,0,none⟩) 1 1) [(⟨11,[],l,true,true⟩,.slice none 0 0,.slice q l.length d)]:=nj (n:=1) (cs:=[.int .i64 11,.slice none 0 0,.slice q l.length d,.bool true,.bool true]) _ (hw'.iS (b:=b7) (len:=1) (s:=5) (T:=132) aA rfl LR) ak bG rfl rfl (show 1≤1000001 by omega) (fun a ha=>by
   rw[List.mem_singleton.1 ha]
   exact⟨af.bR _ _,h.ki hw' ak⟩)
  exact⟨⟨(⟨⟨.slice r1 0 k1,.slice r2 2 k2,.slice r3 2 k3⟩,.slice (some ⟨b7,0,none⟩) 1 1,.slice q l.length d,[(⟨11,[],l,true,true⟩,.slice none 0 0,.slice q l.length d)]⟩:iP),rfl,g1,g2,h.ki hw' ak,Nat.le_refl _,rfl⟩,hw'.at⟩
end Go.Proofs.YtgbgnipidakdhaaGreatDoor
