/- Walk of nest.look. -/
import Derived.Test.YtceedealggognaaGreatDoorJN1
namespace Go.Proofs.YtceedealggognaaGreatDoor
open Go.RowKit
theorem yV {xs:List bP} {i:Nat} (h:dE (ix xs i).op=true) (j:Nat) (hj:j<(au xs i).length+1):nL (qX xs i) (au xs i).length [.int .i64 (i:Int),.bool false] j=qX xs (i+1) j:=by
 have h5:(ix xs i).op≠5:=by simp[dE]at h;omega
 unfold qX
 rw[me h]
 by_cases e:j=(au xs i).length
 ·subst e
  rw[kW,oR rfl,wT]
 ·rw[h9 _ _ e,oS Hb,kK h5]
theorem xr {xs:List bP} {i:Nat} (h:dE (ix xs i).op=false) (h11:(ix xs i).op≠11) (h5:(ix xs i).op≠5) (j:Nat):qX xs i j=qX xs (i+1) j:=by
 unfold qX
 rw[gO h h11,kK h5]
theorem yU {xs:List bP} {i h:Nat} (h5:(ix xs i).op=5) (hz:0<(au xs i).length) (hl:eV (au xs i)=h) (hi:h<i) (j:Nat) (hj:j<(au xs i).length):
  nL (qX xs i) ((au xs i).length - 1) ((qX xs i ((au xs i).length - 1)).set 1 (.bool true)) j=qX xs (i+1) j:=by
 have hr:au xs (i+1)=au xs i:=gO (by rw[h5];rfl) Hb
 have hl':ix (au xs i) ((au xs i).length - 1)=h:=hl
 unfold qX
 rw[hr]
 by_cases e:j=(au xs i).length - 1
 ·subst e
  rw[kW,hl',uN h5 hz hl hi];rfl
 ·rw[h9 _ _ e,oN (fun e2=>e (xz hj Hb e2.symm))]
theorem tH {α:Type} [Inhabited α] {l:List α} {j:Nat} (h:j<l.length - 1):ix l.dropLast j=ix l j:=by
 rw[cw G5,cw Hb,List.getElem_dropLast]
theorem vV {xs:List bP} {i:Nat} (h11:(ix xs i).op=11) (hz:0<(au xs i).length) (j:Nat) (hj:j<(au xs i).length - 1):qX xs i j=qX xs (i+1) j:=by
 unfold qX
 rw[nm h11 hz,kK Hb,tH hj]
set_option maxRecDepth 100000 in
set_option maxHeartbeats 4000000 in
theorem xo (xs:List bP) (v:Value) (w:World) (hb:Body w v xs) (hsm:xs.length≤1000000000):
  Calls G.P 48 #[v] w (x9 w xs):=by
 obtain⟨p,cap,rfl,hl⟩:=hb.slice
 refine enter (G:=G) Tryz.func48 rfl Tryz.ntmps48 rfl ?_
 refine da ?_
 refine FR ?_
 rintro _ wa ⟨rfl,hna⟩
 refine da ?_
 refine ah.call rfl rfl rfl (lh xs.length wa Hb) ?_
 rintro _ w1 ⟨rfl,ho1,hx1,hz1⟩
 refine⟨_,rfl,?_⟩
 refine da ?_
 refine ah.call rfl rfl rfl (lh xs.length w1 Hb) ?_
 rintro _ w2 ⟨rfl,ho2,hx2,hz2⟩
 refine⟨_,rfl,?_⟩
 refine da ?_
 refine ah.call rfl rfl rfl (lh xs.length w2 Hb) ?_
 rintro _ w3 ⟨rfl,ho3,hx3,hz3⟩
 refine⟨_,rfl,?_⟩
 refine da ?_
 refine ah.call rfl rfl rfl (lh xs.length w3 Hb) ?_
 rintro _ w4 ⟨rfl,ho4,hx4,hz4⟩
 refine⟨_,rfl,?_⟩
 refine ah.y (Yl.build (v:=.agg #[sl wa.heap.size xs.length,sl w1.heap.size xs.length,sl w2.heap.size xs.length,sl w3.heap.size xs.length]) rfl (fun _=>by kernel_rfl)) rfl ?_
 refine FR ?_
 rintro _ w5 ⟨rfl,hn5⟩
 refine ah.e0 (bB.aM rfl rfl rfl rfl rfl GZ hn5.aJ rfl) ?_
 rintro _ w6 ⟨hb6,hc6,hs6⟩
 refine da ?_
 refine ah.y (Yl.build (v:=.agg #[.int .i64 (-1),.bool false]) rfl (fun _=>by kernel_rfl)) rfl ?_
 refine ah.e (bB.buildSlice (cs:=[.int .i64 (-1),.bool false]) (e:=176) rfl G7) rfl ?_
 rintro _ w7 ⟨rfl,hn7⟩
 have hxa:Ext w wa:=hna.ext
 have hza:=hna.size
 have hz5:=hn5.size
 have hz7:=hn7.size
 have h67:bA (fun k=>k=w4.heap.size) w4 w7:=(hn5.ext.any.trans hc6).trans hn7.ext.any
 have hLS:LS w w7 w.heap.size wa.heap.size w1.heap.size w2.heap.size w3.heap.size w4.heap.size xs.length (dv xs 0) (dS xs 0) (fE xs 0) (gD xs 0) (.slice (some ⟨w6.heap.size,0,none⟩) 1 1) 1 (qX xs 0):=by
  have e17:bA (fun k=>k=w4.heap.size) w1 w7:=(show Ext w1 w4 from(hx2.trans hx3).trans hx4).any.trans h67
  have e27:bA (fun k=>k=w4.heap.size) w2 w7:=(show Ext w2 w4 from hx3.trans hx4).any.trans h67
  have e37:bA (fun k=>k=w4.heap.size) w3 w7:=hx4.any.trans h67
  have key:∀e,e<w4.heap.size→∀k,(sl e xs.length).ownBlock=some k→¬k=w4.heap.size:=fun e he k hk hs=>by
   have e2:e=k:=Option.some.inj hk
   omega
  refine⟨(((((hxa.trans hx1).trans hx2).trans hx3).trans hx4)).trans' h67 (fun q hq e=>by omega),⟨Nat.le_refl _,by omega,by omega,by omega,by omega,by omega,by omega⟩,?_,hb6.aD hn7.ext (fun h=>h),?_,?_,?_,?_,?_,?_⟩
  ·exact(hna.aJ.aD hx1 (fun h=>h)).aD e17 (fun e=>by omega)
  ·exact mP (bC ho1 e17 (key _ Hb)) (fun k hk=>by have e2:wa.heap.size=k:=Option.some.inj hk;omega)
  ·exact mP (bC ho2 e27 (key _ Hb)) (fun k hk=>by have e2:w1.heap.size=k:=Option.some.inj hk;omega)
  ·exact mP (bC ho3 e37 (key _ Hb)) (fun k hk=>by have e2:w2.heap.size=k:=Option.some.inj hk;omega)
  ·exact mP (bC ho4 h67 (key _ Hb)) (fun k hk=>by have e2:w3.heap.size=k:=Option.some.inj hk;omega)
  ·refine(eQ.cO hn7 Hb).congr (fun i hi=>?_)
   obtain rfl:i=0:=by omega
   rfl
  ·intro k hk
   have e2:w6.heap.size=k:=Option.some.inj hk
   omega
 clear h67 hn7 hn5 hb6 hc6 hna hxa ho1 ho2 ho3 ho4 hx1 hx2 hx3 hx4 hza hz1 hz2 hz3 hz4 hz5 hz7
 generalize w.heap.size=rb at hLS ⊢
 generalize wa.heap.size=e1 at hLS ⊢
 generalize w1.heap.size=e2 at hLS ⊢
 generalize w2.heap.size=e3 at hLS ⊢
 generalize w3.heap.size=e4 at hLS ⊢
 generalize w4.heap.size=sb at hLS ⊢
 refine da ?_
 refine Cd.loop (σ:=Nat×Value) (fun s=>[(0,.slice p xs.length cap),(2,.pointer (some ⟨rb,0,none⟩)),(5,.int .i64 xs.length),(6,.pointer (some ⟨sb,0,none⟩)),(7,s.2),(24,.slice p xs.length cap),(25,.int .i64 xs.length),(26,.int .i64 s.1)])
  (fun s wr=>s.1≤xs.length∧du xs=cm xs (xs.length - s.1) s.1∧(∀j,j<s.1→ez xs j=none)∧LS w wr rb e1 e2 e3 e4 sb xs.length (dv xs s.1) (dS xs s.1) (fE xs s.1) (gD xs s.1) s.2 (au xs s.1).length (qX xs s.1)) (fun s=>xs.length - s.1) (0,_) bR ⟨Nat.zero_le _,rfl,fun j hj=>by omega,hLS⟩ ?_
 rintro⟨i,ov⟩ wr ⟨hi,hn,hall,hls⟩
 dsimp only at hi hn hall hls ⊢
 have hord:=hls.ord
 have hlen:=vh xs i
 by_cases hlt:i<xs.length
 ·rw[show xs.length - i=(xs.length - (i+1))+1 by omega,cm]at hn
  obtain⟨b,off,rfl,-,hI0⟩:=hb.at hlt
  have hbr:Body wr _ xs:=hb.ext hls.ext
  obtain⟨b',off',hbb,-,hI⟩:=hbr.at hlt
  cases hbb
  obtain⟨pt,ct,pl,cl,hti,hli,hcells⟩:=(hI i hlt).cells
  refine da ?_
  refine ah.y (Yl.nE (s:=9) rfl rfl rfl rfl rfl (by intro _ hw_;cases hw_;exact hcells)) rfl ?_
  refine FR ?_
  rintro _ wx ⟨rfl,hnx⟩
  refine da ?_
  refine ah.e0 (bB.aM rfl rfl rfl rfl rfl (by simp[wV,Value.oneCell']) hnx.aJ rfl) ?_
  rintro _ wy ⟨hby,hcy,hsy⟩
  have hxo:ov.ownBlock≠some wr.heap.size:=fun e=>by have:=hls.op.lt _ e;omega
  have hxb:sb<wr.heap.size:=by omega
  have hlsy:=(hls.aD hnx.ext (fun _ h=>h.elim)).aD hcy (fun k hk=>by subst hk;exact⟨hxb,hxo⟩)
  have hordy:=hlsy.ord
  clear hcells hcy hnx hti hli hls
  generalize hxbe:wr.heap.size=xb at*
  obtain⟨po,co,rfl,hco,hcm,hg⟩:=hlsy.op.slice
  by_cases hz:0<(au xs i).length
  ·obtain⟨g,rfl,hg1,hg2⟩:=hg hz
   have hsg:sb<g:=hlsy.ob g rfl
   have hgx:g≠xb:=fun e=>hxo (by rw[e];rfl)
   have hlast:=CL hz
   have hd3:wy.cell? ⟨sb,0+2,none⟩=some (sl e3 xs.length):=hlsy.sh.cell rfl
   refine da ?_
   refine ah.y (Yl.idx rfl rfl rfl rfl rfl (i:=(au xs i).length - 1) Hb Hb) rfl ?_
   refine da ?_
   refine ah.e0 (bB.store rfl rfl rfl rfl rfl (hlsy.o3.get (by rw[rN];exact hlt)) (hlsy.o3.free _)) ?_
   rintro _ wz hwz
   have hls3:LS w wz rb e1 e2 e3 e4 sb xs.length (dv xs i) (dS xs i) (fE xs (i+1)) (gD xs i) (.slice (some ⟨g,0,none⟩) (au xs i).length co) (au xs i).length (qX xs i):=by rw[hwz];exact hlsy.DP i _
   have hbz:=hby.aD (hlsy.o3.set i ((au xs i).length:Int)).2 (fun e=>by omega)
   rw[←hwz]at hbz
   clear hwz hlsy hby
   have hd4:wz.cell? ⟨sb,0+3,none⟩=some (sl e4 xs.length):=hls3.sh.cell rfl
   have hat:wz.cell? ⟨g,0+((au xs i).length - 1)*2,none⟩=some (.int .i64 (eV (au xs i))):=hls3.op.cell (j:=0) Hb rfl
   refine da ?_
   refine Cd.so 8 G7 ?_
   refine da ?_
   have hls3d:=hls3.aD (w':=wz.drew) (S:=fun _=>False) (bA.refl _ _).drew (fun _ h=>h.elim)
   refine ah.e0 (bB.store rfl rfl rfl rfl rfl (hls3d.o4.get (by rw[tD];exact hlt)) (hls3d.o4.free _)) ?_
   rintro _ w4 hw4
   have hls4:LS w w4 rb e1 e2 e3 e4 sb xs.length (dv xs i) (dS xs i) (fE xs (i+1)) (gD xs (i+1)) (.slice (some ⟨g,0,none⟩) (au xs i).length co) (au xs i).length (qX xs i):=by rw[hw4];exact hls3d.DQ i _
   have hb4:=(hbz.aD (S:=fun _=>False) (w':=wz.drew) (bA.refl _ _).drew (fun h=>h)).aD (hls3d.o4.set i (eV (au xs i))).2 (fun e=>by omega)
   rw[←hw4]at hb4
   clear hw4 hls3d hls3 hbz hat hd4 hd3
   have hop:w4.cell? ⟨xb,0,none⟩=some (.int .i64 (ix xs i).op):=hb4.cell rfl
   have hat:w4.cell? ⟨g,0+((au xs i).length - 1)*2,none⟩=some (.int .i64 (eV (au xs i))):=hls4.op.cell (j:=0) Hb rfl
   have hhad:w4.cell? ⟨g,0+((au xs i).length - 1)*2+1,none⟩=some (.bool (ja xs (eV (au xs i)) i)):=hls4.op.cell (j:=1) Hb rfl
   have hz':(au xs i).length≠0:=by omega
   have hck:ez xs i=if(ix xs i).op=5∧(eV (au xs i)<0∨(ix xs (eV (au xs i)).toNat).op≠4∨fL xs (eV (au xs i)).toNat i=true)then some ((i:Int),16)
     else if dE (ix xs i).op=true∧32≤(au xs i).length then some ((i:Int),6)else none:=by
    unfold ez;dsimp only;rw[if_neg hz']
   have h32:=tP i hall
   have hr4:=hls4.ext
   have hallS:ez xs i=none→∀j,j<i+1→ez xs j=none:=fun hc j hj=>by
    by_cases e:j=i
    ·subst e;exact hc
    ·exact hall j Hb
   refine da ?_
   by_cases h5:(ix xs i).op=5
   ·have ho:dE (ix xs i).op=false:=by rw[h5];rfl
    by_cases hneg:eV (au xs i)<0
    ·rw[if_pos ⟨h5,.inl hneg⟩]at hck
     refine da ?_
     refine FS ?_
     refine da ?_
     refine FT ?_
     rintro _ w9 ⟨hb9,hc9,hs9⟩
     refine da ?_
     rw[hck]at hn
     refine Fin.mU rfl rfl rfl rfl rfl hb9 rfl rfl rfl ⟨hls4.ext.trans' hc9 (fun q hq e=>by have:=hls4.ord;omega),.inl ⟨by rw[hn];exact(by decide:(16:Int)≠0),by rw[hn]⟩⟩
    ·obtain⟨h,hh⟩:=Int.eq_ofNat_of_zero_le (Int.not_lt.1 hneg)
     rw[hh]at hat hhad hck hlast
     simp only[Int.toNat_natCast]at hck
     have hoph:=hr4.cell (hI0 h Hb).op
     by_cases h4:(ix xs h).op=4
     ·have hhe:ja xs (h:Int) i=fL xs h i:=by simp[ja]
      rw[hhe]at hhad
      cases hel:fL xs h i with
      |true=>
       rw[hel]at hhad
       rw[if_pos ⟨h5,.inr (.inr hel)⟩]at hck
       refine da ?_
       refine FS ?_
       refine da ?_
       refine FT ?_
       rintro _ w9 ⟨hb9,hc9,hs9⟩
       refine da ?_
       rw[hck]at hn
       refine Fin.mU rfl rfl rfl rfl rfl hb9 rfl rfl rfl ⟨hls4.ext.trans' hc9 (fun q hq e=>by have:=hls4.ord;omega),.inl ⟨by rw[hn];exact(by decide:(16:Int)≠0),by rw[hn]⟩⟩
      |false=>
       rw[hel]at hhad
       rw[if_neg (by simp[h4,hel]),if_neg (by simp[ho])]at hck
       rw[hck]at hn
       refine da ?_
       refine ah.e0 (bB.store rfl rfl rfl rfl rfl hhad (hls4.op.free _)) ?_
       rintro _ w5 hw5
       have hls5:=hls4.DR (i:=(au xs i).length - 1) (j:=1) Hb Hb (.bool true)
       rw[←hw5]at hls5
       clear hw5
       have hd2:w5.cell? ⟨sb,0+1,none⟩=some (sl e2 xs.length):=hls5.sh.cell rfl
       have hat5:w5.cell? ⟨g,0+((au xs i).length - 1)*2,none⟩=some (.int .i64 h):=hls5.op.cell (j:=0) Hb (by rw[kW];simp[qX];exact hh)
       refine da ?_
       refine Cd.so 8 G7 ?_
       refine da ?_
       have hls5d:=hls5.aD (w':=w5.drew) (S:=fun _=>False) (bA.refl _ _).drew (fun _ h=>h.elim)
       refine ah.e0 (bB.store rfl rfl rfl rfl rfl (hls5d.o2.get (by rw[tx];omega)) (hls5d.o2.free _)) ?_
       rintro _ w6 hw6
       have hls6:=hls5d.DO h (i:Int)
       rw[←hw6]at hls6
       refine da ?_
       refine Fin.next (i+1,_) bR ⟨by omega,hn,hallS hck,?_⟩ G2
       have q1:dv xs (i+1)=dv xs i:=by simp[dv,h5]
       have q2:dS xs (i+1)=(dS xs i).set h i:=by simp[dS,h5,hh]
       have q3:au xs (i+1)=au xs i:=gO ho Hb
       dsimp only
       rw[q1,q2,q3]
       exact hls6.congr (fun j hj=>yU h5 hz hh Hb j hj)
     ·rw[if_pos ⟨h5,.inr (.inl h4)⟩]at hck
      refine da ?_
      refine FS ?_
      refine da ?_
      refine FT ?_
      rintro _ w9 ⟨hb9,hc9,hs9⟩
      refine da ?_
      rw[hck]at hn
      refine Fin.mU rfl rfl rfl rfl rfl hb9 rfl rfl rfl ⟨hls4.ext.trans' hc9 (fun q hq e=>by have:=hls4.ord;omega),.inl ⟨by rw[hn];exact(by decide:(16:Int)≠0),by rw[hn]⟩⟩
   ·rw[if_neg (by simp[h5])]at hck
    have q2:dS xs (i+1)=dS xs i:=by simp[dS,h5]
    by_cases ho:dE (ix xs i).op=true
    ·have h11:(ix xs i).op≠11:=by simp[dE]at ho;omega
     have q1:dv xs (i+1)=dv xs i:=by simp[dv,h11]
     have hops:(ix xs i).op=2∨(ix xs i).op=3∨(ix xs i).op=4:=by simp[dE]at ho;omega
     have ho2:=ho
     by_cases hm:32≤(au xs i).length
     ·rw[if_pos ⟨ho,hm⟩]at hck
      have hm':((au xs i).length:Int)=32:=by omega
      rcases hops with hop_|hop_|hop_
      ·refine da ?_
       refine FS ?_
       refine da ?_
       refine FT ?_
       rintro _ w9 ⟨hb9,hc9,hs9⟩
       refine da ?_
       rw[hck]at hn
       refine Fin.mU rfl rfl rfl rfl rfl hb9 rfl rfl rfl ⟨hls4.ext.trans' hc9 (fun q hq e=>by have:=hls4.ord;omega),.inl ⟨by rw[hn];exact(by decide:(6:Int)≠0),by rw[hn]⟩⟩
      ·refine da ?_
       refine FS ?_
       refine da ?_
       refine FT ?_
       rintro _ w9 ⟨hb9,hc9,hs9⟩
       refine da ?_
       rw[hck]at hn
       refine Fin.mU rfl rfl rfl rfl rfl hb9 rfl rfl rfl ⟨hls4.ext.trans' hc9 (fun q hq e=>by have:=hls4.ord;omega),.inl ⟨by rw[hn];exact(by decide:(6:Int)≠0),by rw[hn]⟩⟩
      ·refine da ?_
       refine FS ?_
       refine da ?_
       refine FT ?_
       rintro _ w9 ⟨hb9,hc9,hs9⟩
       refine da ?_
       rw[hck]at hn
       refine Fin.mU rfl rfl rfl rfl rfl hb9 rfl rfl rfl ⟨hls4.ext.trans' hc9 (fun q hq e=>by have:=hls4.ord;omega),.inl ⟨by rw[hn];exact(by decide:(6:Int)≠0),by rw[hn]⟩⟩
     ·rw[if_neg (by simp[hm])]at hck
      rw[hck]at hn
      have hfin:∀(w5 w6:World) (v6:Value),uv w4 w5 [.int .i64 (i:Int),.bool false] 176→eQ w.heap.size 176 2 w6 v6 ((au xs i).length+1) (nL (qX xs i) (au xs i).length [.int .i64 (i:Int),.bool false])→bA (fun k=>(Value.slice (some ⟨g,0,none⟩) (au xs i).length co).ownBlock=some k) w5 w6→(v6.ownBlock=(Value.slice (some ⟨g,0,none⟩) (au xs i).length co).ownBlock∨v6.ownBlock=some w5.heap.size)→
        LS w w6 rb e1 e2 e3 e4 sb xs.length (dv xs (i+1)) (dS xs (i+1)) (fE xs (i+1)) (gD xs (i+1)) v6 (au xs (i+1)).length (qX xs (i+1)):=by
       intro w5 w6 v6 hn5 ho6 hc6 hb6
       have hls6:=((hls4.aD hn5.ext (fun _ h=>h.elim)).app ho6 hc6 hb6).congr (yV ho2)
       rw[q1,q2,me ho2,List.length_append]
       exact hls6
      have hsz4:w.heap.size≤w4.heap.size:=hr4.size
      rcases hops with hop_|hop_|hop_
      ·refine da ?_
       refine FU ?_
       refine FV ?_
       rintro _ w5 ⟨rfl,hn5⟩
       refine ah.e (eQ.Bp (hls4.op.ext hn5.ext) rfl rfl rfl rfl rfl Ha Ha rfl rfl (by have:=hn5.size;omega) hn5.aJ rfl GZ Hb) rfl ?_
       rintro v6 w6 ⟨ho6,hc6,hb6⟩
       refine da ?_
       exact pm
      ·refine da ?_
       refine FU ?_
       refine FV ?_
       rintro _ w5 ⟨rfl,hn5⟩
       refine ah.e (eQ.Bp (hls4.op.ext hn5.ext) rfl rfl rfl rfl rfl Ha Ha rfl rfl (by have:=hn5.size;omega) hn5.aJ rfl GZ Hb) rfl ?_
       rintro v6 w6 ⟨ho6,hc6,hb6⟩
       refine da ?_
       exact pm
      ·refine da ?_
       refine FU ?_
       refine FV ?_
       rintro _ w5 ⟨rfl,hn5⟩
       refine ah.e (eQ.Bp (hls4.op.ext hn5.ext) rfl rfl rfl rfl rfl Ha Ha rfl rfl (by have:=hn5.size;omega) hn5.aJ rfl GZ Hb) rfl ?_
       rintro v6 w6 ⟨ho6,hc6,hb6⟩
       refine da ?_
       exact pm
    ·have ho':dE (ix xs i).op=false:=by simpa using ho
     have hno:(ix xs i).op≠2∧(ix xs i).op≠3∧(ix xs i).op≠4:=by simp[dE]at ho';omega
     rw[if_neg (by simp[ho'])]at hck
     rw[hck]at hn
     by_cases h11:(ix xs i).op=11
     ·have q3:(au xs (i+1)).length=(au xs i).length - 1:=by rw[nm h11 hz];simp
      by_cases hneg:eV (au xs i)<0
      ·refine da ?_
       refine ah.y (Yl.cn rfl rfl rfl rfl rfl (i:=(au xs i).length - 1) Hb Hb) rfl ?_
       refine da ?_
       refine Fin.next (i+1,_) bR ⟨by omega,hn,hallS hck,?_⟩ G2
       have q1:dv xs (i+1)=dv xs i:=by simp[dv,h11];omega
       dsimp only
       rw[q1,q2,q3]
       have e9:(au xs i).length=((au xs i).length - 1)+1:=by omega
       rw[e9]at hls4
       exact hls4.pop.congr (vV h11 hz)
      ·obtain⟨h,hh⟩:=Int.eq_ofNat_of_zero_le (Int.not_lt.1 hneg)
       rw[hh]at hat
       have hd1:w4.cell? ⟨sb,0,none⟩=some (sl e1 xs.length):=hls4.sh.cell rfl
       refine da ?_
       refine Cd.so 8 G7 ?_
       refine da ?_
       have hls5d:=hls4.aD (w':=w4.drew) (S:=fun _=>False) (bA.refl _ _).drew (fun _ h=>h.elim)
       refine ah.e0 (bB.store rfl rfl rfl rfl rfl (hls5d.o1.get (by rw[uK];omega)) (hls5d.o1.free _)) ?_
       rintro _ w6 hw6
       have hls6:=hls5d.DN h (i:Int)
       rw[←hw6]at hls6
       refine da ?_
       refine ah.y (Yl.cn rfl rfl rfl rfl rfl (i:=(au xs i).length - 1) Hb Hb) rfl ?_
       refine da ?_
       refine Fin.next (i+1,_) bR ⟨by omega,hn,hallS hck,?_⟩ G2
       have q1:dv xs (i+1)=(dv xs i).set h i:=by simp[dv,h11,hh]
       dsimp only
       rw[q1,q2,q3]
       have e9:(au xs i).length=((au xs i).length - 1)+1:=by omega
       rw[e9]at hls6
       exact hls6.pop.congr (vV h11 hz)
     ·refine da ?_
      refine Fin.next (i+1,_) bR ⟨by omega,hn,hallS hck,?_⟩ G2
      have q1:dv xs (i+1)=dv xs i:=by simp[dv,h11]
      dsimp only
      rw[q1,q2,gO ho' h11]
      exact hls4.congr (fun j _=>xr ho' h11 h5 j)
  ·have hz':(au xs i).length=0:=by omega
   have hck:ez xs i=some ((i:Int),16):=by simp only[ez,hz',if_true]
   refine da ?_
   refine FS ?_
   refine da ?_
   refine ah.e0 (bB.aM rfl rfl rfl rfl rfl GZ hlsy.res rfl) ?_
   rintro _ w9 ⟨hb9,hc9,hs9⟩
   refine da ?_
   rw[hck]at hn
   refine Fin.mU rfl rfl rfl rfl rfl hb9 rfl rfl rfl ⟨hlsy.ext.trans' hc9 (fun q hq e=>by have:=hlsy.ord;omega),.inl ⟨by rw[hn];exact(by decide:(16:Int)≠0),by rw[hn]⟩⟩
 ·obtain rfl:i=xs.length:=by omega
  rw[show xs.length - xs.length=0 by omega,cm]at hn
  obtain⟨po,co,rfl,hco,hcm,hg⟩:=hls.op.slice
  by_cases hz:0<(au xs xs.length).length
  ·rw[if_pos hz]at hn
   refine da ?_
   refine FS ?_
   refine da ?_
   refine ah.e0 (bB.aM rfl rfl rfl rfl rfl GZ hls.res rfl) ?_
   rintro _ w9 ⟨hb9,hc9,hs9⟩
   refine da ?_
   have:=hn
   refine Fin.mU rfl rfl rfl rfl rfl hb9 rfl rfl rfl ⟨hls.ext.trans' hc9 (fun q hq e=>by have:=hls.ord;omega),.inl ⟨by rw[hn];exact(by decide:(3:Int)≠0),by rw[hn]⟩⟩
  ·rw[if_neg hz]at hn
   refine da ?_
   refine ah.y (Yl.nE (s:=4) (cs:=[sl e1 xs.length,sl e2 xs.length,sl e3 xs.length,sl e4 xs.length]) rfl rfl rfl rfl rfl (by
    intro _ hw_;cases hw_;intro j hj
    match j,hj with
    |0,_=>exact hls.sh.cell rfl
    |1,_=>exact hls.sh.cell rfl
    |2,_=>exact hls.sh.cell rfl
    |3,_=>exact hls.sh.cell rfl)) rfl ?_
   refine da ?_
   refine ah.e0 (bB.aM rfl rfl rfl rfl rfl GZ hls.res rfl) ?_
   rintro _ w9 ⟨hb9,hc9,hs9⟩
   refine da ?_
   have key:∀e,rb<e→∀k,(sl e xs.length).ownBlock=some k→¬k=rb:=fun e he k hk hs=>by
    have e2:e=k:=Option.some.inj hk
    omega
   refine Fin.mU rfl rfl rfl rfl rfl hb9 rfl rfl rfl ⟨hls.ext.trans' hc9 (fun q hq e=>by omega),.inr ⟨by rw[hn],_,_,_,_,by rw[hn],bC hls.o1 hc9 (key _ Hb),bC hls.o2 hc9 (key _ Hb),bC hls.o3 hc9 (key _ Hb),bC hls.o4 hc9 (key _ Hb)⟩⟩
theorem oW (xs:List bP) (v:Value) (w:World) (hb:Body w v xs) (hsm:xs.length≤1000000000):
  Calls G.P 33 #[v] w fun e w'=>e=.returned (.tuple #[.int .i64 (du xs).1,.int .i64 (du xs).2])∧Ext w w':=by
 obtain⟨p,cap,rfl,hl⟩:=hb.slice
 have hR:Calls G.P 48 #[.slice p xs.length cap] w fun e w'=>∃p1 l1 c1 p2 l2 c2 p3 l3 c3 p4 l4 c4,e=.returned (.tuple #[.agg #[.slice p1 l1 c1,.slice p2 l2 c2,.slice p3 l3 c3,.slice p4 l4 c4],.int .i64 (du xs).1,.int .i64 (du xs).2])∧Ext w w':=by
  refine(xo xs _ w hb hsm).mono ?_
  rintro e w' ⟨hx,⟨h,rfl⟩|⟨h,v1,v2,v3,v4,rfl,o1,o2,o3,o4⟩⟩
  ·exact⟨none,0,0,none,0,0,none,0,0,none,0,0,rfl,hx⟩
  ·obtain⟨p1,c1,rfl,_⟩:=av o1
   obtain⟨p2,c2,rfl,_⟩:=av o2
   obtain⟨p3,c3,rfl,_⟩:=av o3
   obtain⟨p4,c4,rfl,_⟩:=av o4
   exact⟨_,_,_,_,_,_,_,_,_,_,_,_,rfl,hx⟩
 refine enter (G:=G) Tryz.func33 rfl Tryz.ntmps33 rfl ?_
 refine Bg ?_
 refine ah.call rfl rfl rfl hR ?_
 rintro _ w1 ⟨p1,l1,c1,p2,l2,c2,p3,l3,c3,p4,l4,c4,rfl,hx1⟩
 refine⟨_,rfl,?_⟩
 refine Bg ?_
 refine FR ?_
 rintro _ w2 ⟨rfl,hn2⟩
 refine ah.e0 (bB.aM rfl rfl rfl rfl rfl GZ hn2.aJ rfl) ?_
 rintro _ w3 ⟨hb3,hc3,hs3⟩
 have hx3:Ext w1 w3:=hn2.ext.trans' hc3 (fun i hi e=>by omega)
 refine Bg ?_
 exact Fin.iD rfl rfl rfl ⟨rfl,hx1.trans hx3⟩
end Go.Proofs.YtceedealggognaaGreatDoor
