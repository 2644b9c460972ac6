/- law24: BodyFirst. -/
import Derived.Test.YtceedealggognaaGreatDoorJBl
import Derived.Test.YtceedealggognaaGreatDoorJZw
namespace Go.Proofs.YtceedealggognaaGreatDoor
open Go.RowKit
set_option maxRecDepth 100000
set_option pp.maxSteps 10000000
set_option pp.deepTerms true
set_option maxHeartbeats 32000000 in
theorem nR (m:ae) (cs:List Value) (i:Int) (kk:Int) (x:bP) (pt pl:Option Addr) (ct dl:Nat) (w:World) (hm:aH (fun _=>True) w cs m) (hK:vC m) (hkk:0≤kk∧kk≤255) (hx:Bj w x (.slice pt x.types.length ct) (.slice pl x.labels.length dl)) (hxl:x.labels.length≤1048576) (h0:dQ w):Calls G.P 5 #[.agg cs.toArray,.int .i64 i,.agg (Value.int .u8 kk::([Value.int .i64 x.op,Value.int .i64 x.a,Value.int .i64 x.b,Value.int .u64 x.n,Value.int .i64 x.kind,Value.int .i64 x.val,Value.int .i64 x.index,Value.slice pt x.types.length ct,Value.slice pl x.labels.length dl]:List Value)).toArray] w fun e w'=>e=.returned (.bool true)∧Ext w w':=by
 have hm0:=hm
 obtain⟨v0,v1,v2,v3,v4,v5,v6,v7,v8,v9,rfl,r0,r1,r2,r3,r4,r5,r6,r7,r8,r9,g0⟩:=hm;obtain⟨p0,c0,rfl,l0⟩:=r0.slice;obtain⟨p1,c1,rfl,l1⟩:=r1.slice;obtain⟨p2,c2,rfl,l2⟩:=r2.slice;obtain⟨p3,c3,rfl,l3⟩:=r3.slice;obtain⟨p4,c4,rfl,l4⟩:=r4.slice;obtain⟨p5,c5,rfl,l5⟩:=r5.slice;obtain⟨p6,c6,rfl,l6⟩:=r6.slice;obtain⟨p7,c7,rfl,l7⟩:=r7.slice;obtain⟨p8,c8,rfl,l8⟩:=r8.slice;obtain⟨p9,c9,rfl,l9⟩:=r9.slice
 refine aj (l:=[_,_,_]) Tryz.func5 rfl Tryz.ntmps5 rfl (Ok.start w) ?_
 repeat'(first|refine ax ?_|(refine aO ?_ ?_<;>intro hc_))
 refine aa.box ([Value.slice p0 m.types.length c0,Value.slice p1 m.imports.length c1,Value.slice p2 m.funcs.length c2,Value.slice p3 m.tables.length c3,Value.slice p4 m.bO.length c4,Value.slice p5 m.globals.length c5,Value.slice p6 m.aB.length c6,Value.bool m.aF,Value.int .i64 m.start,Value.slice p7 m.elems.length c7,Value.slice p8 m.aS.length c8,Value.slice p9 m.br.length c9]:List Value) rfl rfl rfl fun bm=>?_
 refine aa.box (Value.int .u8 kk::([Value.int .i64 x.op,Value.int .i64 x.a,Value.int .i64 x.b,Value.int .u64 x.n,Value.int .i64 x.kind,Value.int .i64 x.val,Value.int .i64 x.index,Value.slice pt x.types.length ct,Value.slice pl x.labels.length dl]:List Value)) rfl rfl rfl fun bch=>?_
 repeat'(first|refine ax ?_|(refine aO ?_ ?_<;>intro hc_))
 refine aQ.de [.aJ bch (Value.int .u8 kk::([Value.int .i64 x.op,Value.int .i64 x.a,Value.int .i64 x.b,Value.int .u64 x.n,Value.int .i64 x.kind,Value.int .i64 x.val,Value.int .i64 x.index,Value.slice pt x.types.length ct,Value.slice pl x.labels.length dl]:List Value)) 65] [Ext w] bN aY ?_
 repeat'(first|refine uo ?_|(refine aI.Aj 63 ?_;refine aI.he rfl rfl (HE.alloc (t:=63) [.int .i64 0,.int .i64 0,.int .i64 0,.int .u64 0,.int .i64 0,.int .i64 0,.int .i64 0,.slice none 0 0,.slice none 0 0] rfl rfl) (fun _=>bN) (fun _=>aY) ?_;intro bx _)|(refine aI.yF ?_;refine aI.m6 rfl (gj.aM _ rfl rfl rfl rfl rfl rfl bJ rfl) (fun _=>bN) (fun _=>aY) ?_;rintro⟨⟩ _)|refine aK.nil G6 ?_|refine aK.any G6 ?_|exact aC.fin rfl|refine aC.skip G6 ?_|refine aC.go ?_ ?_)
 repeat'(first|refine ax ?_|(refine aO ?_ ?_<;>intro hc_))
 refine aa.he (HE.Cw (P:=uz m) rfl rfl (fun w' hw'=>xd m ([Value.slice p0 m.types.length c0,Value.slice p1 m.imports.length c1,Value.slice p2 m.funcs.length c2,Value.slice p3 m.tables.length c3,Value.slice p4 m.bO.length c4,Value.slice p5 m.globals.length c5,Value.slice p6 m.aB.length c6,Value.bool m.aF,Value.int .i64 m.start,Value.slice p7 m.elems.length c7,Value.slice p8 m.aS.length c8,Value.slice p9 m.br.length c9]:List Value) w' (hm0.aD (show Ext w w' from hw'.at) (fun _ _ _ h=>h)))) rfl ?_
 intro fb hfb
 cases fb with
 |false=>
  repeat'(first|refine ax ?_|refine Gy ?_|(refine aO ?_ ?_<;>intro hc_))
  all_goals exact rd
 |true=>
  by_cases hin:0≤i∧i<m.funcs.length
  case neg=>
   repeat'(first|refine ax ?_|refine Gy ?_|(refine aO ?_ ?_<;>intro hc_))
   all_goals exact rd
  obtain⟨j,rfl⟩:=Int.eq_ofNat_of_zero_le hin.1
  have hj:j<m.funcs.length:=by omega
  have hfw:=hfb rfl
  have hLQ:=hfw.lens hK Hb
  have hB:=hfw.body hK
  have hlen:=hfw.len j hj
  repeat'(first|refine ax ?_|(refine aO ?_ ?_<;>intro hc_))
  all_goals first|(exfalso;omega)|skip
  have hlen2:=vw hfw (j:Int)
  obtain⟨tr,htr⟩:∃r,gR m j=r:=⟨_,rfl⟩
  obtain⟨at_,e0,hbd⟩:∃a e,m5 m j=(a,e):=⟨_,_,rfl⟩
  have hbb:=uE m j
  rw[hbd,Int.toNat_natCast]at hbb
  dsimp only at hbb
  rw[htr]at hlen2
  refine aa.he (HE.nh (m:=m) rfl rfl (fun w' hw'=>jI (fun _=>True) m ([Value.slice p0 m.types.length c0,Value.slice p1 m.imports.length c1,Value.slice p2 m.funcs.length c2,Value.slice p3 m.tables.length c3,Value.slice p4 m.bO.length c4,Value.slice p5 m.globals.length c5,Value.slice p6 m.aB.length c6,Value.bool m.aF,Value.int .i64 m.start,Value.slice p7 m.elems.length c7,Value.slice p8 m.aS.length c8,Value.slice p9 m.br.length c9]:List Value) w' (hm0.aD (show Ext w w' from hw'.at) (fun _ _ _ h=>h)) hLQ)) rfl ?_
  rintro⟨B,sv⟩ _
  dsimp only
  refine ax ?_
  refine aa.az (v:=.tuple #[.int .i64 at_,.int .i64 e0]) rfl rfl rfl (fun w' hw'=>by have:=jS m ([Value.slice p0 m.types.length c0,Value.slice p1 m.imports.length c1,Value.slice p2 m.funcs.length c2,Value.slice p3 m.tables.length c3,Value.slice p4 m.bO.length c4,Value.slice p5 m.globals.length c5,Value.slice p6 m.aB.length c6,Value.bool m.aF,Value.int .i64 m.start,Value.slice p7 m.elems.length c7,Value.slice p8 m.aS.length c8,Value.slice p9 m.br.length c9]:List Value) B sv j w' (hm0.aD (show Ext w w' from hw'.at) (fun _ _ _ h=>h)) (hw'.get (p:=fun w=>aR B m w sv) ao) (h0.ext hw'.at) hB;rw[hbd]at this;exact this) ?_
  refine ax ?_
  refine aa.he (HE.aW (M0:=[]) lD.nil rfl rfl (fun w' hw'=>by have:=lW m ([Value.slice p0 m.types.length c0,Value.slice p1 m.imports.length c1,Value.slice p2 m.funcs.length c2,Value.slice p3 m.tables.length c3,Value.slice p4 m.bO.length c4,Value.slice p5 m.globals.length c5,Value.slice p6 m.aB.length c6,Value.bool m.aF,Value.int .i64 m.start,Value.slice p7 m.elems.length c7,Value.slice p8 m.aS.length c8,Value.slice p9 m.br.length c9]:List Value) B sv j w' (hm0.aD (show Ext w w' from hw'.at) (fun _ _ _ h=>h)) (hw'.get (p:=fun w=>aR B m w sv) ao) (h0.ext hw'.at) hB;rw[htr]at this;exact this)) rfl ?_
  rintro⟨la,ta,Da⟩ _
  dsimp only[List.nil_append]
  refine aa.map (fun w' h=>Ok.Ca (T:=my) (lv:=la) (tc:=ta) (D:=Da) (l:=tr.getD []) h Hb) ?_
  by_cases he:e0=0
  ·subst he
   have htk:gR m j=some (zR m j):=by unfold gR;rw[hbd,if_pos rfl]
   obtain⟨k1,k2,k3⟩:=sI htk
   rw[htr]at htk
   subst htk
   dsimp only[Option.getD,Option.isSome]at hlen2 ⊢
   generalize zR m j=l at*
   refine aa.kR (fun w3 h3=>?_)
   have x3:Ext w w3:=h3.at
   have hA3:eR (fun _=>True) w3 la l:=h3.get (p:=fun w=>eR (fun _=>True) w la l) ao
   have hbm3:=(show dZ w3 bm ([Value.slice p0 m.types.length c0,Value.slice p1 m.imports.length c1,Value.slice p2 m.funcs.length c2,Value.slice p3 m.tables.length c3,Value.slice p4 m.bO.length c4,Value.slice p5 m.globals.length c5,Value.slice p6 m.aB.length c6,Value.bool m.aF,Value.int .i64 m.start,Value.slice p7 m.elems.length c7,Value.slice p8 m.aS.length c8,Value.slice p9 m.br.length c9]:List Value) ic from(h3.m (.aJ bm ([Value.slice p0 m.types.length c0,Value.slice p1 m.imports.length c1,Value.slice p2 m.funcs.length c2,Value.slice p3 m.tables.length c3,Value.slice p4 m.bO.length c4,Value.slice p5 m.globals.length c5,Value.slice p6 m.aB.length c6,Value.bool m.aF,Value.int .i64 m.start,Value.slice p7 m.elems.length c7,Value.slice p8 m.aS.length c8,Value.slice p9 m.br.length c9]:List Value) ic) gi).1).Ci (s:=12) rfl
   obtain⟨pc,cc,rfl,-⟩:=hA3.slice
   obtain⟨bq,oq,rfl,-,hq⟩:=hA3.at (i:=0) k2
   obtain⟨pz,cz,hq1,hq2,-⟩:=hq 0 k2
   rw[k3]at hq1 hq2
   dsimp only[List.length_nil]at hq1 hq2
   obtain⟨b,o,rfl,hF9,cs5,⟨u0,u1,rfl,q0,q1,q2⟩,hc⟩:=r2.el hj;obtain⟨x0,y0,rfl,z0⟩:=q0.slice;obtain⟨x1,y1,rfl,z1⟩:=q1.slice
   refine aa.kq (cl bm 2 (.slice (some ⟨b,o,none⟩) m.funcs.length c2)) (fun w2 h=>(show Ext w3 w2 from h _ ao).cell (hbm3 2 Hb)) ?_
   refine aa.kq (Cs b (o+j*3) [.int .i64 (ix m.funcs j).cP,.slice x0 (ix m.funcs j).locals.length y0,.slice x1 (ix m.funcs j).body.length y1]) (fun w' hw'=>jT hc rfl (R:=[Ext w]) Hc w' (fun r hr=>by rw[List.mem_singleton]at hr;subst hr;exact x3.trans (show Ext w3 w' from hw' _ ao))) ?_
   refine aa.kq (cl bq (oq+0*2) (.bool true)) (fun w2 h=>(show Ext w3 w2 from h _ ao).cell hq1) ?_
   refine aa.kq (cl bq (oq+0*2+1) (.slice pz 0 cz)) (fun w2 h=>(show Ext w3 w2 from h _ ao).cell hq2) ?_
   repeat'(first|refine ax ?_|(refine aa.wY ?_;refine aa.dK ?_;refine aa.yg Hd (Yl.idx (i:=0) rfl rfl rfl rfl rfl Hb Hb) rfl ?_)|(refine aa.ak (f:=8) ?_;refine aa.az rfl rfl rfl (fun w' hw'=>eW w' (h0.ext (x3.trans hw'.at))) ?_)|(refine aO ?_ ?_<;>intro hc_))
   all_goals exact ai.aA rfl rfl fun w' hw'=>⟨rfl,x3.trans hw'.at⟩
  ·have htk:tr=none:=by rw[←htr];unfold gR;rw[hbd,if_neg he]
   subst htk
   dsimp only[Option.getD,Option.isSome]
   obtain⟨a,rfl⟩:=Int.eq_ofNat_of_zero_le hbb.1
   have hal:a≤(ix m.funcs j).body.length:=by omega
   obtain⟨kn,rfl⟩:=Int.eq_ofNat_of_zero_le hkk.1
   obtain⟨b,o,rfl,hF9,cs5,⟨u0,u1,rfl,q0,q1,q2⟩,hc⟩:=r2.el hj;obtain⟨x0,y0,rfl,z0⟩:=q0.slice;obtain⟨x1,y1,rfl,z1⟩:=q1.slice
   refine aa.kq (Cs b (o+j*3) [.int .i64 (ix m.funcs j).cP,.slice x0 (ix m.funcs j).locals.length y0,.slice x1 (ix m.funcs j).body.length y1]) (jT hc rfl ao) ?_
   by_cases hex:e0=3∨e0=16∨e0=6∨(ix m.funcs j).body.length≤a+1
   ·rcases hex with rfl|rfl|rfl|hex
    all_goals
     repeat'(first|refine ax ?_|refine Gy ?_|(refine aO ?_ ?_<;>intro hc_))
     all_goals exact rd
   have n3:e0≠3:=fun e=>hex (.inl e)
   have n16:e0≠16:=fun e=>hex (.inr (.inl e))
   have n6:e0≠6:=fun e=>hex (.inr (.inr (.inl e)))
   have hlt:a+1<(ix m.funcs j).body.length:=by omega
   clear hex
   repeat'(first|refine ax ?_|(refine aO ?_ ?_<;>intro hc_))
   all_goals first|(exfalso;omega)|skip
   obtain⟨r,hr⟩:∃r,kn % ((ix m.funcs j).body.length - (a+1))=r:=⟨_,rfl⟩
   have hr2:r<(ix m.funcs j).body.length - (a+1):=by rw[←hr];exact Nat.mod_lt _ Hb
   refine aa.y_ (Yl.DL kn ((ix m.funcs j).body.length - (a+1)) rfl rfl rfl Hb Hb) rfl ?_
   rw[hr]
   obtain⟨p,hp⟩:∃p,a+1+r=p:=⟨_,rfl⟩
   have hpl:p<(ix m.funcs j).body.length:=by omega
   repeat'(first|refine ax ?_|(refine q8 fun b_=>?_)|(refine aO ?_ ?_<;>intro hc_))
   obtain⟨bc,rfl⟩:∃y:Nat,y=b_:=⟨_,rfl⟩
   refine AC ?_
   intro k1 _
   refine aa.pV (len:=0) 9 bJ Hd Ha ?_
   repeat'(first|refine ax ?_|(refine aO ?_ ?_<;>intro hc_))
   obtain⟨f1,hf1,hV1,hrd1⟩:=ym q1
   refine aa.he (HE.kF (n7 f1 (ix m.funcs j).body.length) rfl rfl (fun _=>bJ) (hrd1.imp id fun⟨bk,o,e,h⟩=>⟨bk,o,e,fun w' hw' j u hj=>(show Ext w w' from hw'.at).cell (h j u hj)⟩) (pC hf1 _) rfl rfl rfl Hd Hd Hd (tQ fun i hi=>(hV1 i hi).one) (Nat.le_trans (Nat.mul_le_mul (show 0+(ix m.funcs j).body.length≤400 from by omega) (Nat.le_refl _)) Ha) Hb (fun _ _=>Nat.zero_le _)) rfl ?_
   intro v1 _
   simp only[Nat.zero_add,List.nil_append]
   refine aa.pure (φ:=∃g c,v1=.slice (some ⟨g,0,none⟩) (ix m.funcs j).body.length c) (fun w' hw'=>?_) ?_
   ·obtain⟨q,c,e,-,-,hg⟩:=av (hw'.own (v:=v1))
    obtain⟨g,rfl,-⟩:=hg Hb
    exact⟨g,c,e⟩
   rintro⟨g1,d1,rfl⟩
   repeat'(first|refine ax ?_|(refine aa.dK ?_;refine aa.y_ (Yl.idx (i:=p) rfl rfl rfl rfl rfl Hb Hb) rfl ?_)|(refine aO ?_ ?_<;>intro hc_))
   have hop:(n7 f1 (ix m.funcs j).body.length)[p*9]?=some (.int .i64 (ix (ix m.funcs j).body p).op):=by
    have h1:=pB hf1 hpl (show 0<9 by omega)
    obtain⟨_,_,_,_,e,-⟩:=hV1 p hpl
    rw[Nat.add_zero,e]at h1
    exact h1
   refine aa.y_ (Yl.BR (i:=p*9) rfl rfl rfl Hb hop gi) rfl ?_
   obtain⟨t1,ht1⟩:∃t,nb (ix (ix m.funcs j).body p).op=t:=⟨_,rfl⟩
   obtain⟨t2,ht2⟩:∃t,nb x.op=t:=⟨_,rfl⟩
   have hk1:=fun w'=>nD (ix (ix m.funcs j).body p).op w'
   have hk2:=fun w'=>nD x.op w'
   rw[ht1]at hk1
   rw[ht2]at hk2
   repeat'(first|refine ax ?_|(refine aO ?_ ?_<;>intro hc_))
   refine aa.az (v:=.bool t1) rfl rfl rfl (fun w' _=>hk1 w') ?_
   cases t1 with
   |true=>
    repeat'(first|refine ax ?_|refine Gy ?_|(refine aO ?_ ?_<;>intro hc_))
    all_goals exact ap
   |false=>
   refine ax ?_
   refine aa.dV (v:=.bool t2) rfl rfl rfl rfl (fun w' _=>hk2 w') ?_
   cases t2 with
   |true=>
    repeat'(first|refine ax ?_|refine Gy ?_|(refine aO ?_ ?_<;>intro hc_))
    all_goals exact ap
   |false=>
   repeat'(first|refine ax ?_|(refine aa.dK ?_;refine aa.y_ (Yl.idx (i:=p) rfl rfl rfl rfl rfl Hb Hb) rfl ?_)|(refine aO ?_ ?_<;>intro hc_))
   refine aa.yY (fun _=>bJ) (fun z1 hz1 hn1=>?_)
   refine aa.m6 (gj.zx ([Value.int .i64 x.op,Value.int .i64 x.a,Value.int .i64 x.b,Value.int .u64 x.n,Value.int .i64 x.kind,Value.int .i64 x.val,Value.int .i64 x.index,Value.slice pt x.types.length ct,Value.slice pl x.labels.length dl]:List Value) rfl rfl rfl rfl rfl Hd bJ (by show 0+p*9+9≤_;omega)) ?_
   rintro⟨⟩ _
   obtain⟨Y1,hY1⟩:∃Y,z1.take (0+p*9)++([Value.int .i64 x.op,Value.int .i64 x.a,Value.int .i64 x.b,Value.int .u64 x.n,Value.int .i64 x.kind,Value.int .i64 x.val,Value.int .i64 x.index,Value.slice pt x.types.length ct,Value.slice pl x.labels.length dl]:List Value)++z1.drop (0+p*9+([Value.int .i64 x.op,Value.int .i64 x.a,Value.int .i64 x.b,Value.int .u64 x.n,Value.int .i64 x.kind,Value.int .i64 x.val,Value.int .i64 x.index,Value.slice pt x.types.length ct,Value.slice pl x.labels.length dl]:List Value).length)=Y:=⟨_,rfl⟩
   have hZ1:∀i,i<(ix m.funcs j).body.length→∀q,q<9→Y1[i*9+q]?=(if i=p then([Value.int .i64 x.op,Value.int .i64 x.a,Value.int .i64 x.b,Value.int .u64 x.n,Value.int .i64 x.kind,Value.int .i64 x.val,Value.int .i64 x.index,Value.slice pt x.types.length ct,Value.slice pl x.labels.length dl]:List Value)else f1 i)[q]?:=by
    rw[←hY1,Nat.zero_add];exact vX hf1 hz1 hn1 hpl rfl
   rw[hY1]
   repeat'(first|refine ax ?_|(refine aO ?_ ?_<;>intro hc_))
   refine AC ?_
   intro k2 _
   refine aa.pV (len:=0) 3 bJ Hd Ha ?_
   repeat'(first|refine ax ?_|(refine aO ?_ ?_<;>intro hc_))
   have hfl:=hfw.funcs
   obtain⟨f2,hf2,hV2,hrd2⟩:=wJ r2
   refine aa.he (HE.kF (n7 f2 m.funcs.length) rfl rfl (fun _=>bJ) (hrd2.imp id fun⟨bk,o,e,h⟩=>⟨bk,o,e,fun w' hw' j u hj=>(show Ext w w' from hw'.at).cell (h j u hj)⟩) (pC hf2 _) rfl rfl rfl Hd Hd Hd (tQ fun i hi=>yu (hV2 i hi)) (Nat.le_trans (Nat.mul_le_mul (show 0+m.funcs.length≤20 from by omega) (Nat.le_refl _)) Ha) Hb (fun _ _=>Nat.zero_le _)) rfl ?_
   intro v2 _
   simp only[Nat.zero_add,List.nil_append]
   refine aa.pure (φ:=∃g c,v2=.slice (some ⟨g,0,none⟩) m.funcs.length c) (fun w' hw'=>?_) ?_
   ·obtain⟨q,c,e,-,-,hg⟩:=av (hw'.own (v:=v2))
    obtain⟨g,rfl,-⟩:=hg Hb
    exact⟨g,c,e⟩
   rintro⟨g2,d2,rfl⟩
   repeat'(first|refine ax ?_|(refine aa.dK ?_;refine aa.y_ (Yl.idx (i:=j) rfl rfl rfl rfl rfl Hb Hb) rfl ?_)|(refine aO ?_ ?_<;>intro hc_))
   refine aa.yY (fun _=>bJ) (fun z2 hz2 hn2=>?_)
   refine aa.m6 (gj.zx ([Value.int .i64 (ix m.funcs j).cP,Value.slice x0 (ix m.funcs j).locals.length y0,Value.slice (some ⟨g1,0,none⟩) (ix m.funcs j).body.length d1]:List Value) rfl rfl rfl rfl rfl Hd bJ (by show 0+j*3+3≤_;omega)) ?_
   rintro⟨⟩ _
   obtain⟨Y2,hY2⟩:∃Y,z2.take (0+j*3)++([Value.int .i64 (ix m.funcs j).cP,Value.slice x0 (ix m.funcs j).locals.length y0,Value.slice (some ⟨g1,0,none⟩) (ix m.funcs j).body.length d1]:List Value)++z2.drop (0+j*3+([Value.int .i64 (ix m.funcs j).cP,Value.slice x0 (ix m.funcs j).locals.length y0,Value.slice (some ⟨g1,0,none⟩) (ix m.funcs j).body.length d1]:List Value).length)=Y:=⟨_,rfl⟩
   have hZ2:∀i,i<m.funcs.length→∀q,q<3→Y2[i*3+q]?=(if i=j then([Value.int .i64 (ix m.funcs j).cP,Value.slice x0 (ix m.funcs j).locals.length y0,Value.slice (some ⟨g1,0,none⟩) (ix m.funcs j).body.length d1]:List Value)else f2 i)[q]?:=by
    rw[←hY2,Nat.zero_add];exact vX hf2 hz2 hn2 hj rfl
   rw[hY2]
   repeat'(first|refine ax ?_|(refine aO ?_ ?_<;>intro hc_))
   refine aQ.kR (fun w5 h5=>?_)
   have x5:Ext w w5:=h5.at
   have B1:dZ w5 g1 Y1 63:=(h5.m (.aJ g1 Y1 63) gi).1
   have B2:dZ w5 g2 Y2 68:=(h5.m (.aJ g2 Y2 68) gi).1
   have cM5:=(show dZ w5 bm ([Value.slice p0 m.types.length c0,Value.slice p1 m.imports.length c1,Value.slice (some ⟨g2,0,none⟩) m.funcs.length d2,Value.slice p3 m.tables.length c3,Value.slice p4 m.bO.length c4,Value.slice p5 m.globals.length c5,Value.slice p6 m.aB.length c6,Value.bool m.aF,Value.int .i64 m.start,Value.slice p7 m.elems.length c7,Value.slice p8 m.aS.length c8,Value.slice p9 m.br.length c9]:List Value) ic from(h5.m (.aJ bm ([Value.slice p0 m.types.length c0,Value.slice p1 m.imports.length c1,Value.slice (some ⟨g2,0,none⟩) m.funcs.length d2,Value.slice p3 m.tables.length c3,Value.slice p4 m.bO.length c4,Value.slice p5 m.globals.length c5,Value.slice p6 m.aB.length c6,Value.bool m.aF,Value.int .i64 m.start,Value.slice p7 m.elems.length c7,Value.slice p8 m.aS.length c8,Value.slice p9 m.br.length c9]:List Value) ic) gi).1).Ci (s:=12) rfl
   have hbody:dN (fun _=>True) w5 (.slice (some ⟨g1,0,none⟩) ((ix m.funcs j).body.set p x).length d1) ((ix m.funcs j).body.set p x):=zn B1 (f:=fun i=>if i=p then([Value.int .i64 x.op,Value.int .i64 x.a,Value.int .i64 x.b,Value.int .u64 x.n,Value.int .i64 x.kind,Value.int .i64 x.val,Value.int .i64 x.index,Value.slice pt x.types.length ct,Value.slice pl x.labels.length dl]:List Value)else f1 i) (by rw[List.length_set];exact hZ1) (fun i=>by
    by_cases e:i=p
    ·rw[if_pos e];rfl
    ·rw[if_neg e];exact hf1 i) (fun i hi=>by
    rw[List.length_set]at hi
    rw[mc hpl]
    by_cases e:i=p
    ·rw[if_pos e,if_pos e];exact⟨pt,ct,pl,dl,rfl,hx.ext x5⟩
    ·rw[if_neg e,if_neg e];exact(hV1 i hi).ext x5) (by rw[List.length_set];omega)
   rw[List.length_set]at hbody
   have hcodes:fc 3 2513169434843 dJ (fun _=>True) w5 (.slice (some ⟨g2,0,none⟩) (m.funcs.set j (jg (ix m.funcs j) p x)).length d2) (m.funcs.set j (jg (ix m.funcs j) p x)):=xA B2 (f:=fun i=>if i=j then([Value.int .i64 (ix m.funcs j).cP,Value.slice x0 (ix m.funcs j).locals.length y0,Value.slice (some ⟨g1,0,none⟩) (ix m.funcs j).body.length d1]:List Value)else f2 i) (by rw[List.length_set];exact hZ2) (fun i hi=>by
    rw[List.length_set]at hi
    rw[mc hj]
    by_cases e:i=j
    ·rw[if_pos e,if_pos e]
     exact⟨_,_,rfl,q0.aD x5 (fun _ _ _ h=>h),hbody,q2⟩
    ·rw[if_neg e,if_neg e];exact(hV2 i hi).aD x5 (fun _ _ _ h=>h)) (by rw[List.length_set];omega)
   rw[List.length_set]at hcodes
   have hm5:aH (fun _=>True) w5 ([Value.slice p0 m.types.length c0,Value.slice p1 m.imports.length c1,Value.slice (some ⟨g2,0,none⟩) m.funcs.length d2,Value.slice p3 m.tables.length c3,Value.slice p4 m.bO.length c4,Value.slice p5 m.globals.length c5,Value.slice p6 m.aB.length c6,Value.bool m.aF,Value.int .i64 m.start,Value.slice p7 m.elems.length c7,Value.slice p8 m.aS.length c8,Value.slice p9 m.br.length c9]:List Value) (fu m j p x):=by
    obtain⟨u0_,u1_,u2_,u3_,u4_,u5_,u6_,u7_,u8_,u9_,e5,s0,s1,s2,s3,s4,s5,s6,s7,s8,s9,sg⟩:=hm0.aD x5 (fun _ _ _ h=>h)
    simp only[List.cons.injEq,and_true,true_and]at e5
    obtain⟨rfl,rfl,rfl,rfl,rfl,rfl,rfl,rfl,rfl,rfl⟩:=e5
    exact⟨_,_,_,_,_,_,_,_,_,_,rfl,s0,s1,hcodes,s3,s4,s5,s6,s7,s8,s9,sg⟩
   have hfun:∀i,ix (fu m j p x).funcs i=if i=j then jg (ix m.funcs j) p x else ix m.funcs i:=fun i=>mc hj
   have hfl5:(fu m j p x).funcs.length=m.funcs.length:=List.length_set ..
   have hB5:qe (fu m j p x):=by
    refine⟨hB.ty,fun i hi=>?_,fun i hi=>?_,fun i hi k hk=>?_⟩
    all_goals rw[hfl5]at hi
    ·rw[hfun]
     by_cases e:i=j
     ·rw[if_pos e];exact hB.loc j hj
     ·rw[if_neg e];exact hB.loc i hi
    ·rw[hfun]
     by_cases e:i=j
     ·rw[if_pos e];show((ix m.funcs j).body.set p x).length≤400;rw[List.length_set];exact hB.len j hj
     ·rw[if_neg e];exact hB.len i hi
    ·rw[hfun]at hk ⊢
     by_cases e:i=j
     ·rw[if_pos e]at hk ⊢
      have hk2:k<(ix m.funcs j).body.length:=by have:k<((ix m.funcs j).body.set p x).length:=hk;rwa[List.length_set]at this
      show(ix ((ix m.funcs j).body.set p x) k).labels.length≤_
      rw[mc hpl]
      by_cases e2:k=p
      ·rw[if_pos e2];exact hxl
      ·rw[if_neg e2];exact hB.iA j hj k hk2
     ·rw[if_neg e]at hk ⊢;exact hB.iA i hi k hk
   have hLQ5:mr (fu m j p x):=by
    unfold mr at hLQ ⊢
    rw[hfl5];exact hLQ
   have hfin:m5 (fu m j p x) j=((a:Int),e0):=by
    rw[zQ hj hpl (by rw[hbd];exact he) (by rw[hbd];exact n3) (by rw[hbd];exact n16) (by rw[hbd];exact n6) (by rw[hbd];show(a:Int)<p;omega) ht1 ht2];exact hbd
   have h05:=h0.ext x5
   have hck5:=fun B sv w' (hs:aR B (fu m j p x) w' sv) (hx5:Ext w5 w')=>jS (fu m j p x) ([Value.slice p0 m.types.length c0,Value.slice p1 m.imports.length c1,Value.slice (some ⟨g2,0,none⟩) m.funcs.length d2,Value.slice p3 m.tables.length c3,Value.slice p4 m.bO.length c4,Value.slice p5 m.globals.length c5,Value.slice p6 m.aB.length c6,Value.bool m.aF,Value.int .i64 m.start,Value.slice p7 m.elems.length c7,Value.slice p8 m.aS.length c8,Value.slice p9 m.br.length c9]:List Value) B sv j w' (hm5.aD hx5 (fun _ _ _ h=>h)) hs (h05.ext hx5) hB5
   rw[hfin]at hck5
   have hsp5:=fun w' (hx5:Ext w5 w')=>jI (fun _=>True) (fu m j p x) ([Value.slice p0 m.types.length c0,Value.slice p1 m.imports.length c1,Value.slice (some ⟨g2,0,none⟩) m.funcs.length d2,Value.slice p3 m.tables.length c3,Value.slice p4 m.bO.length c4,Value.slice p5 m.globals.length c5,Value.slice p6 m.aB.length c6,Value.bool m.aF,Value.int .i64 m.start,Value.slice p7 m.elems.length c7,Value.slice p8 m.aS.length c8,Value.slice p9 m.br.length c9]:List Value) w' (hm5.aD hx5 (fun _ _ _ h=>h)) hLQ5
   clear hm5 hbody hcodes hZ1 hZ2 hV1 hV2 hrd1 hrd2 hm0 hfun
   refine aQ.de [] [Ext w5] (List.nil_sublist _) aY ?_
   refine aK.qy 0 rfl (Yl.fY rfl rfl rfl ao Hd Hd cM5) ?_
   refine aK.qy 1 rfl (Yl.fY rfl rfl rfl ao Hd Hd cM5) ?_
   refine aK.qa 3 rfl ?_
   repeat'(first|refine aK.any G6 ?_|exact aC.fin rfl|refine aC.skip G6 ?_|refine aC.go ?_ ?_)
   refine aI.eU 10 ?_
   refine aI.he rfl rfl (HE.nh (m:=fu m j p x) rfl rfl (fun w' hw'=>hsp5 w' hw'.at)) (fun _=>List.nil_sublist _) (fun _=>aY) ?_
   rintro⟨B6,s6⟩ _
   repeat'(first|refine aK.any G6 ?_|exact aC.fin rfl|refine aC.skip G6 ?_|refine aC.go ?_ ?_)
   refine aI.eU 9 ?_
   refine aI.he rfl rfl (HE.kp (v:=.tuple #[.int .i64 (a:Int),.int .i64 e0]) rfl rfl (fun w' hw'=>hck5 B6 s6 w' (hw'.get (p:=fun w=>aR B6 (fu m j p x) w s6) ao) hw'.at)) (fun _=>List.nil_sublist _) (fun _=>aY) ?_
   rintro⟨⟩ _
   refine aK.qa 5 rfl ?_
   refine aK.qa 6 rfl ?_
   refine aK.qa 7 rfl ?_
   refine aK.qa 8 rfl ?_
   refine aK.qa 9 rfl ?_
   refine aK.nil G6 ?_
   repeat'(first|refine ax ?_|(refine aa.fh (f:=8) ?_;refine aa.dV xN rfl rfl rfl (fun w' hw'=>eW w' (h05.ext hw'.at)) ?_)|(refine aO ?_ ?_<;>intro hc_))
   all_goals first|(exfalso;omega)|exact ai.aA rfl rfl fun w' hw'=>⟨rfl,x5.trans hw'.at⟩
open Go.ChangeShapes Go.WideShapes Go.ChangeAt Go.RowKit Go.Deep
def kx (N:Nat) (w:World) (t:TypeId) (cs:List Value):Prop:=
 ∃(H:Type) (enc:TypeId×Value→H) (spare:Nat→Bool) (held:Bool) (fuel:Nat) (x:DataW H×List MemPlace),DataW.trod enc G.P w 0 spare held fuel t cs=some x∧Rows.uptoBulk x.1≤N
section
variable {H:Type} {N:Nat} {w:World} {t e:TypeId} {cs:List Value}
theorem yp (d:DataW H):1≤Rows.uptoBulk d:=by
 cases d with
 |lit l=>cases l<;>simp[Rows.uptoBulk]
 |_=>simp[Rows.uptoBulk]
theorem lf {d:DataW H} {l:List (DataW H)} (h:d∈l):Rows.uptoBulk d≤Rows.uptoBulkAll l:=by
 induction l with
 |nil=>cases h
 |cons x r ih=>
  simp only[Rows.uptoBulkAll]
  rcases List.mem_cons.1 h with rfl|h
  ·omega
  ·have:=ih h;omega
theorem yo (l:List (DataW H)):l.length≤Rows.uptoBulkAll l:=by
 induction l with
 |nil=>simp[Rows.uptoBulkAll]
 |cons x r ih=>have:=yp x;simp only[Rows.uptoBulkAll,List.length_cons];omega
theorem kx.struct {fs:Array Field} (ht:G.P.underlying t=some (.struct fs)) (h:kx N w t cs):∀(i:Nat) (f:Field),fs[i]?=some f→kx N w f.type ((cs.drop f.offset).take (G.P.cellsOf f.type)):=by
 obtain⟨H,enc,spare,held,fuel,x,h,hw⟩:=h
 obtain⟨xs,n,rfl,rfl,hl,hx,hf⟩:=DataW.trod_struct ht h
 intro i f hi
 have h1:=hf i f hi
 have hlt:i<xs.length:=by rw[hx];exact(Array.getElem?_eq_some_iff.1 hi).1
 rw[List.getElem?_eq_getElem hlt]at h1
 refine⟨H,enc,spare,held,n,xs[i],h1,Nat.le_trans (lf (l:=xs.map (·.1)) (List.mem_map.2 ⟨xs[i],List.getElem_mem hlt,rfl⟩)) ?_⟩
 simp only[Rows.uptoBulk]at hw
 omega
theorem kx.slice {s:Nat} (ht:G.P.underlying t=some (.slice e)) (hc:G.P.cellsOf e=s) (h0:0<s) (h:kx N w t cs):
  ∃p len cap,cs=[.slice p len cap]∧len≤N∧(len=0∨∃b off,p=some ⟨b,off,none⟩∧∀i,i<len→∃cs',cs'.length=s∧(∀j,j<s→w.cell? ⟨b,off+i*s+j,none⟩=cs'[j]?)∧kx N w e cs'):=by
 obtain⟨H,enc,spare,held,fuel,x,h,hw⟩:=h
 rcases open_slice ht h with⟨rfl,rfl⟩|⟨a,len,cap,m,n,D,Pl,rfl,hb,hl,hm,hmm,rfl,hx⟩
 ·exact⟨_,_,_,rfl,by omega,.inl rfl⟩
 ·rw[hc]at hx
  have hlm:len≤m:=by rw[hmm];split<;>omega
  simp only[Rows.uptoBulk]at hw
  refine⟨_,len,cap,rfl,?_,?_⟩
  ·have:=yo ((List.range len).map D)
   rw[List.length_map,List.length_range]at this
   omega
  ·by_cases hz:len=0
   ·exact .inl hz
   ·right
    obtain⟨cs0,hc0,-⟩:=hx 0 Hb
    obtain⟨-,hl0,hg0⟩:=World.cells?_some hc0
    have hsp:a.spot=none:=by
     have h1:=hg0 0 h0
     rw[Nat.zero_mul,List.getElem?_eq_getElem Hb]at h1
     have e0:(a.add 0).add 0=a.add 0:=by unfold Addr.add;simp
     rw[e0]at h1
     exact sZ h1
    refine⟨a.block,a.off,by obtain⟨_,_,s⟩:=a;cases hsp;rfl,fun i hi=>?_⟩
    obtain⟨cs',hc',htr⟩:=hx i Hb
    obtain⟨-,hl',hg'⟩:=World.cells?_some hc'
    refine⟨cs',hl',fun j hj=>?_,H,enc,spare,held,n,_,htr,?_⟩
    ·rw[←hg' j hj,rq hsp,rq rfl]
    ·have:=lf (d:=D i) (l:=(List.range len).map D) (List.mem_map.2 ⟨i,List.mem_range.2 hi,rfl⟩)
     show Rows.uptoBulk (D i)≤N
     omega
theorem kx.ew {fs:Array Field} (hf:∀(i:Nat) (f:Field),fs[i]?=some f→kx N w f.type ((cs.drop f.offset).take (G.P.cellsOf f.type))) (i o n:Nat) {t:TypeId} (hi:(fs[i]?).map (fun f=>(f.type,f.offset))=some (t,o)) (hn:G.P.cellsOf t=n):kx N w t ((cs.drop o).take n):=by
 obtain⟨f,h1,h2⟩:=Option.map_eq_some_iff.1 hi
 simp only[Prod.mk.injEq]at h2
 obtain⟨rfl,rfl⟩:=h2
 rw[←hn]
 exact hf i f h1
theorem CX {u:Value} (h:kx N w 49 [u]) {p:Option Addr} {n c:Nat} (e:u=.slice p n c):n≤N:=by
 obtain⟨p',n',c',e',hl,-⟩:=h.slice (s:=1) Tryz.underlying49 G7 Hb
 subst e
 simp only[List.cons.injEq,Value.slice.injEq,and_true]at e'
 omega
theorem Cf {m:ae} (h:kx N w 33 cs) (hm:aH (fun _=>True) w cs m):zG N m:=by
 obtain⟨v0,v1,v2,v3,v4,v5,v6,v7,v8,v9,rfl,r0,-⟩:=hm
 have hf:=h.struct Tryz.underlying33
 obtain⟨p,len,cap,e,-,hx⟩:=(show kx N w _ [v0]from kx.ew hf 0 0 1 rfl G7).slice (s:=2) Tryz.underlying22 G7 Hb
 simp only[List.cons.injEq,and_true]at e
 subst e
 obtain⟨p',c',e',-⟩:=r0.slice
 simp only[Value.slice.injEq]at e'
 obtain⟨rfl,rfl,rfl⟩:=e'
 intro f hfm
 obtain⟨i,hi,rfl⟩:=List.getElem_of_mem hfm
 obtain⟨b,o,rfl,-,cs2,⟨u0,u1,rfl,q0,q1⟩,hc⟩:=r0.el hi
 obtain⟨b',o',e2,hx⟩:=hx.resolve_left Hb
 cases e2
 obtain⟨cs',hl',hcc,ht⟩:=hx i hi
 match cs',hl' with
 |[a0,a1],_=>
  have e0:a0=u0:=by
   have h1:=hcc 0 Hb;have h2:=hc 0 Hb
   rw[h1]at h2;simpa using h2
  have e1:a1=u1:=by
   have h1:=hcc 1 Hb;have h2:=hc 1 Hb
   rw[h1]at h2;simpa using h2
  subst e0 e1
  have hg:=ht.struct Tryz.underlying74
  rw[cw hi]at q0 q1
  obtain⟨x0,y0,z0,-⟩:=q0.slice
  obtain⟨x1,y1,z1,-⟩:=q1.slice
  exact⟨CX (show kx N w _ [a0]from kx.ew hg 0 0 1 rfl G7) z0,CX (show kx N w _ [a1]from kx.ew hg 1 1 1 rfl G7) z1⟩
end
theorem vJ {H:Type} {enc:TypeId×Value→H} {N:Nat} {w:World} {t:TypeId} {cs:List Value} {d:DataW H} {ps:List MemPlace} (h:DataW.Trod enc G.P w 0 (fun _=>true) true t (.agg cs.toArray) d ps) (hb:Rows.uptoBulk d≤N):kx N w t cs:=by
 obtain⟨fuel,h⟩:=h
 exact⟨H,enc,_,_,fuel,_,by simpa[Value.cells]using h,hb⟩
section
variable {H:Type} {N:Nat} {w:World} {t e:TypeId} {cs:List Value}
theorem sliceB {u:Value} {s:Nat} (ht:G.P.underlying t=some (.slice e)) (hc:G.P.cellsOf e=s) (h0:0<s) (h:kx N w t [u]) {p:Option Addr} {n c:Nat} (e:u=.slice p n c):n≤N:=by
 obtain⟨p',n',c',e',hl,-⟩:=h.slice ht hc h0
 subst e
 simp only[List.cons.injEq,Value.slice.injEq,and_true]at e'
 omega
theorem Dr {F:Nat→Prop} {u:Value} {xs:List bP} (h:kx N w 66 [u]) (hb:dN F w u xs):∀k,k<xs.length→(ix xs k).labels.length≤N:=by
 obtain⟨p,c,rfl,-⟩:=hb.slice
 obtain⟨p',n',c',e',-,hx⟩:=h.slice (s:=9) Tryz.underlying66 G7 Hb
 simp only[List.cons.injEq,Value.slice.injEq,and_true]at e'
 obtain⟨rfl,rfl,rfl⟩:=e'
 intro k hk
 obtain⟨b,o,e2,hy⟩:=hx.resolve_left Hb
 subst e2
 obtain⟨b',o',e3,-,hins⟩:=hb.at hk
 cases e3
 obtain⟨lv,hlv,hI⟩:=(hins k hk).labels
 obtain⟨cs',hl',hcc,ht⟩:=hy k hk
 obtain⟨a0,a1,a2,a3,a4,a5,a6,a7,a8,rfl⟩:=BP hl'
 have e8:a8=lv:=by have h1:=hcc 8 Hb;rw[hlv]at h1;simpa using h1.symm
 subst e8
 obtain⟨q,d,z,-⟩:=hI.slice
 have hg:=ht.struct Tryz.underlying63
 exact sliceB (s:=1) Tryz.underlying61 G7 Hb (show kx N w _ [a8]from kx.ew hg 6 8 1 rfl G7) z
theorem yn {m:ae} (h:kx 1048576 w 33 cs) (hm:aH (fun _=>True) w cs m):vC m:=by
 have hty:=Cf h hm
 obtain⟨v0,v1,v2,v3,v4,v5,v6,v7,v8,v9,rfl,r0,r1,r2,r3,r4,r5,r6,r7,r8,r9,g0⟩:=hm
 have hf:=h.struct Tryz.underlying33
 obtain⟨p3,c3,z3,-⟩:=r3.slice
 obtain⟨p4,c4,z4,-⟩:=r4.slice
 obtain⟨p6,c6,z6,-⟩:=r6.slice
 refine⟨hty,sliceB (s:=4) Tryz.underlying25 G7 Hb (show kx 1048576 w _ [v3]from kx.ew hf 3 3 1 rfl G7) z3,sliceB (s:=3) Tryz.underlying26 G7 Hb (show kx 1048576 w _ [v4]from kx.ew hf 4 4 1 rfl G7) z4,sliceB (s:=3) Tryz.underlying28 G7 Hb (show kx 1048576 w _ [v6]from kx.ew hf 6 6 1 rfl G7) z6,fun j hj=>?_⟩
 obtain⟨p,len,cap,e,-,hx⟩:=(show kx 1048576 w _ [v2]from kx.ew hf 2 2 1 rfl G7).slice (s:=3) Tryz.underlying24 G7 Hb
 simp only[List.cons.injEq,and_true]at e
 subst e
 obtain⟨p',c',e',-⟩:=r2.slice
 simp only[Value.slice.injEq]at e'
 obtain⟨rfl,rfl,rfl⟩:=e'
 obtain⟨b,o,rfl,-,cs2,⟨u0,u1,rfl,q0,q1,q2⟩,hc⟩:=r2.el hj
 obtain⟨b',o',e2,hx⟩:=hx.resolve_left Hb
 cases e2
 obtain⟨cs',hl',hcc,ht⟩:=hx j hj
 match cs',hl' with
 |[a0,a1,a2],_=>
  have e2:a2=u1:=by
   have h1:=hcc 2 Hb;have h2:=hc 2 Hb
   rw[h1]at h2;simpa using h2
  subst e2
  have hg:=ht.struct Tryz.underlying68
  exact Dr (show kx 1048576 w _ [a2]from kx.ew hg 2 2 1 rfl G7) q1
end
theorem Bw {w:World} {cs:List Value} (hcl:cs.length=10) (h:Tr w 65 cs) (hb:kx 1048576 w 65 cs):∃(kk:Int) (x:bP) (pt pl:Option Addr) (ct dl:Nat),cs=Value.int .u8 kk::[.int .i64 x.op,.int .i64 x.a,.int .i64 x.b,.int .u64 x.n,.int .i64 x.kind,.int .i64 x.val,.int .i64 x.index,.slice pt x.types.length ct,.slice pl x.labels.length dl]∧(0≤kk∧kk≤255)∧Bj w x (.slice pt x.types.length ct) (.slice pl x.labels.length dl)∧x.labels.length≤1048576:=by
 obtain⟨c0,r,rfl⟩:∃c0 r,cs=c0::r:=by
  cases cs with
  |nil=>cases hcl
  |cons a b=>exact⟨a,b,rfl⟩
 have hr:r.length=9:=by simpa using hcl
 obtain⟨-,hf⟩:=h.struct Tryz.underlying65
 have hfb:=hb.struct Tryz.underlying65
 have et:((c0::r).drop 1).take 9=r:=by
  show r.take 9=r
  exact List.take_of_length_le Hb
 obtain⟨n0,e0,w0⟩:=(show Tr w _ [c0]from Tr.ew hf 0 0 1 rfl G7).int Tryz.underlying5
 cases e0
 have hI:=Tr.ew hf 1 1 9 (t:=63) rfl G7
 have hJ:=kx.ew hfb 1 1 9 (t:=63) rfl G7
 rw[et]at hI hJ
 obtain⟨x,pt,pl,ct,dl,rfl,hx⟩:=BK hr hI
 have hg:=hJ.struct Tryz.underlying63
 refine⟨n0,x,pt,pl,ct,dl,rfl,?_,hx,sliceB (s:=1) Tryz.underlying61 G7 Hb (show kx 1048576 w _ [.slice pl x.labels.length dl]from kx.ew hg 6 8 1 rfl G7) rfl⟩
 have hs:IntKind.u8.signed=false:=rfl
 have hbt:IntKind.u8.bits=8:=rfl
 simp[Lit.wf,IntKind.min,IntKind.max,hs,hbt]at w0
 omega
open Go.ChangeShapes Go.WideShapes Go.ChangeAt Go.RowKit
noncomputable def fW (os:Os):World:=
 let N:=(World.settled Tryz.prog os).heap.size
 let w0:=World.holding Tryz.prog os ⟨#[.cells (Lib.whiteT.map fun(z:Nat)=>Value.int .u16 (z:Int)).toArray 301,.cells #[.slice (some ⟨N,0,none⟩) 7 7,.slice none 0 0,.int .i64 2] 298],#[],[]⟩
 let put (h:Array Obj) (g:Nat) (cs:Array Value):Array Obj:=h.modify g fun
  |.cells _ t frozen=>.cells cs t frozen
  |o=>o
 let h1:=put w0.heap 0 (Lib.asciiSpaceTab.map fun z=>Value.int .u8 z).toArray
 let h2:=put h1 2 #[.pointer (some ⟨N+1,0,none⟩)]
 {w0 with heap:=h2}
theorem qf (os:Os) (args:Array Value):laidMet Tryz.prog Rows.bodyFirstUptoRow.laid ((fW os).forCall (fun _ _=>0) ⟨#[],args,[]⟩).memory:=
 laidMet_of_run' 8 G7 G7
theorem mE (os:Os) {H:Type} (enc:TypeId×Value→H):
  (Rows.OpenSpec.upto Rows.bodyFirstSpec).preRow enc Tryz.prog Tryz.f5 Rows.bodyFirstUptoRow.domain false Rows.bodyFirstUptoRow.laid ((fW os).forCall (fun _ _=>0) ⟨#[],#[.agg #[.slice none 0 0,.slice none 0 0,.slice none 0 0,.slice none 0 0,.slice none 0 0,.slice none 0 0,.slice none 0 0,.bool false,.int .i64 0,.slice none 0 0,.slice none 0 0,.slice none 0 0],.int .i64 0,.agg #[.int .u8 0,.int .i64 0,.int .i64 0,.int .i64 0,.int .u64 0,.int .i64 0,.int .i64 0,.int .i64 0,.slice none 0 0,.slice none 0 0]],[]⟩).memory #[.agg #[.slice none 0 0,.slice none 0 0,.slice none 0 0,.slice none 0 0,.slice none 0 0,.slice none 0 0,.slice none 0 0,.bool false,.int .i64 0,.slice none 0 0,.slice none 0 0,.slice none 0 0],.int .i64 0,.agg #[.int .u8 0,.int .i64 0,.int .i64 0,.int .i64 0,.int .u64 0,.int .i64 0,.int .i64 0,.int .i64 0,.slice none 0 0,.slice none 0 0]]:=by
 have hw:(DataW.whole enc Tryz.prog ((fW os).forCall (fun _ _=>0) ⟨#[],#[.agg #[.slice none 0 0,.slice none 0 0,.slice none 0 0,.slice none 0 0,.slice none 0 0,.slice none 0 0,.slice none 0 0,.bool false,.int .i64 0,.slice none 0 0,.slice none 0 0,.slice none 0 0],.int .i64 0,.agg #[.int .u8 0,.int .i64 0,.int .i64 0,.int .i64 0,.int .u64 0,.int .i64 0,.int .i64 0,.int .i64 0,.slice none 0 0,.slice none 0 0]],[]⟩).memory Tryz.f5.params.toList Rows.bodyFirstSpec.vars false (#[.agg #[.slice none 0 0,.slice none 0 0,.slice none 0 0,.slice none 0 0,.slice none 0 0,.slice none 0 0,.slice none 0 0,.bool false,.int .i64 0,.slice none 0 0,.slice none 0 0,.slice none 0 0],.int .i64 0,.agg #[.int .u8 0,.int .i64 0,.int .i64 0,.int .i64 0,.int .u64 0,.int .i64 0,.int .i64 0,.int .i64 0,.slice none 0 0,.slice none 0 0]]:Array Value).toList 8).map (fun x=>(x.1,x.2.1))=
   some ([.agg [.nil,.nil,.nil,.nil,.nil,.nil,.nil,.lit (.bool false),.lit (.int .i64 0),.nil,.nil,.nil],.lit (.int .i64 0),.agg [.lit (.int .u8 0),.agg [.lit (.int .i64 0),.lit (.int .i64 0),.lit (.int .i64 0),.lit (.int .u64 0),.agg [.lit (.int .i64 0),.lit (.int .i64 0),.lit (.int .i64 0)],.nil,.nil]]],[]):=by kernel_rfl
 obtain⟨⟨x1,x2,x3⟩,hx,hx1⟩:=Option.map_eq_some_iff.1 hw
 simp only[Prod.mk.injEq]at hx1
 obtain⟨rfl,rfl⟩:=hx1
 exact OpenSpec.preRow_of_cond 8 hx G7 (fun k hk=>by cases hk;kernel_rfl) G7 (qf os _)
theorem nf (os:Os) (started:os.Started) (H:Type) (enc:TypeId×Value→H) (F:Stop.Interp):
  ReturnsInHanded {} Tryz.checked os 5 .any ((Rows.OpenSpec.upto Rows.bodyFirstSpec).preRow enc Tryz.prog Tryz.f5 Rows.bodyFirstUptoRow.domain false Rows.bodyFirstUptoRow.laid) (((Rows.OpenSpec.upto Rows.bodyFirstSpec).at F).post enc Tryz.prog Tryz.f5 false true false false):=by
 refine returnsInHanded_of_row (C:=Tryz.checked) (s:=Rows.OpenSpec.upto Rows.bodyFirstSpec) own started G7 Tryz.func5
  (witness_row_atRef (enc:=enc) (C:=Tryz.checked) false (fW os) #[.agg #[.slice none 0 0,.slice none 0 0,.slice none 0 0,.slice none 0 0,.slice none 0 0,.slice none 0 0,.slice none 0 0,.bool false,.int .i64 0,.slice none 0 0,.slice none 0 0,.slice none 0 0],.int .i64 0,.agg #[.int .u8 0,.int .i64 0,.int .i64 0,.int .i64 0,.int .u64 0,.int .i64 0,.int .i64 0,.int .i64 0,.slice none 0 0,.slice none 0 0]] rfl G7 G7 G7 (mE os enc)) ?_
 intro W base args ds gs before hval0 hW _ hcond hsz hL hsh _
 have h0:dQ W:=Aa hL hsh
 have hW':DataW.Whole enc Tryz.prog Tryz.f5.params.toList Rows.bodyFirstSpec.vars false W args.toList ds gs before:=hW
 obtain⟨p,q,hA0,hV,rfl,hfz,hnd⟩:=hW
 have hA:DataW.TrodAll enc Tryz.prog W 0 (fun _=>true) true Tryz.f5.params.toList args.toList ds p:=hA0
 obtain⟨rfl,rfl⟩:=trodVars_none hV
 have hz:∀n∈DataW.weightsEach Tryz.prog Tryz.f5.params.toList ds,n≤reachBytes:=fun n hn=>by
  have h1:=List.all_eq_true.1 hsz n (by rw[List.append_nil];exact nN _ _ _ n hn)
  simpa using h1
 have hval:∀(j:Nat) t v,Tryz.f5.params[j]?=some t→args[j]?=some v→Value.okWide Tryz.prog W .any base t v:=hval0
 rw[Tryz.params5]at hA hz hval
 obtain⟨v0,vs0,d0,ds0,p0,q0,hargs,rfl,rfl,h0',r0⟩:=trodAll_cons hA
 obtain⟨v1,vs1,d1,ds1,p1,q1,rfl,rfl,rfl,h1',r1⟩:=trodAll_cons r0
 obtain⟨v2,vs2,d2,ds2,p2,q2,rfl,rfl,rfl,h2',r2⟩:=trodAll_cons r1
 obtain⟨rfl,rfl,rfl⟩:=trodAll_nil r2
 have hbk:Rows.uptoBulkAll [d0,d1,d2]≤1048576:=by
  have h:=hcond _ rfl
  simp only[List.append_nil]at h
  exact of_decide_eq_true h
 obtain rfl:args=#[v0,v1,v2]:=by cases args;simp_all
 obtain⟨cs0,rfl,hl0,ht0⟩:=oE Tryz.underlying33 (hval 0 _ v0 rfl rfl) h0' (fun n hn=>hz n GG)
 obtain⟨m0,hm0⟩:=aH.of ht0 (by rw[hl0];kernel_rfl)
 obtain⟨n1,rfl,rfl,rfl,hr1⟩:=open_int Tryz.underlying3 (hval 1 _ v1 rfl rfl) h1'
 obtain⟨cs2,rfl,hl2,ht2⟩:=oE Tryz.underlying65 (hval 2 _ v2 rfl rfl) h2' (fun n hn=>hz n GG)
 obtain⟨kk2,x2,pt2,pl2,ct2,cl2,rfl,hk2,hx2,hxl2⟩:=Bw (by rw[hl2];kernel_rfl) ht2 (vJ h2' (Nat.le_trans (lf Hc) hbk))
 refine(nR m0 cs0 n1 kk2 x2 pt2 pl2 ct2 cl2 W hm0 (yn (vJ h0' (Nat.le_trans (lf Hc) hbk)) hm0) hk2 hx2 hxl2 h0).mono fun e W' ⟨he,hx⟩=>?_
 subst he
 exact⟨_,rfl,sn (P:=Tryz.prog) laidOut rfl (tb:=4) G7 Tryz.underlying4 G7 hW' (fun _=>rfl) hx.below⟩
end Go.Proofs.YtceedealggognaaGreatDoor
