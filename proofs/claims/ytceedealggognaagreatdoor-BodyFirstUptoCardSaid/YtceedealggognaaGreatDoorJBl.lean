/- Layer 24: the reference's check of a body. -/
import Derived.Test.YtceedealggognaaGreatDoorJBe
import Derived.Test.YtceedealggognaaGreatDoorJIm
import Derived.Test.YtceedealggognaaGreatDoorJNb
import Derived.Test.YtceedealggognaaGreatDoorJVe
namespace Go.Proofs.YtceedealggognaaGreatDoor
open Go.RowKit
set_option maxRecDepth 100000
theorem aQ.kR {Q:Exit→Act→World→Prop} {n:Nat} {c:Code} {E:Env} {M:List aV} {R:List (World→Prop)} (h:∀w1,Ok M R w1→aQ Q n c E [] [Ext w1]):aQ Q n c E M R:=⟨fun w1 hw=>(h w1 hw).h w1 (Ok.start w1)⟩
theorem aa.kR {ops:Array Oper} {Q:Exit→Act→World→Prop} {n:Nat} {l:List Oper} {E:Env} {M:List aV} {R:List (World→Prop)} (h:∀w1,Ok M R w1→aa ops Q n l E [] [Ext w1]):aa ops Q n l E M R:=⟨fun w1 hw=>(h w1 hw).h w1 (Ok.start w1)⟩
theorem dZ.Ci {w:World} {b T s:Nat} {cs:List Value} (h:dZ w b cs T) (hs:cs.length=s):∀j,j<s→w.cell? ⟨b,0+j,none⟩=cs[j]?:=fun j hj=>by
 rw[Nat.zero_add,List.getElem?_eq_getElem Hb]
 exact h.cell (List.getElem?_eq_getElem Hb)
abbrev Bn:Nat:=76
def kE:qd (Bool×List Int):=fun F w b o x=>∃p c,w.cell? ⟨b,o,none⟩=some (.bool x.1)∧w.cell? ⟨b,o+1,none⟩=some (.slice p x.2.length c)∧af F w (.slice p x.2.length c) x.2
theorem kE.fr:Fr kE:=fun⟨p,c,h1,h2,h3⟩ hc hF hd=>⟨p,c,hc.cell (hd _ (ed h1) hF) h1,hc.cell (hd _ (ed h2) hF) h2,h3.aD hc hd⟩
theorem kE.ce:Ce kE:=fun⟨_,_,h1,_⟩=>ed h1
theorem kE.mo:Mo kE:=fun⟨p,c,h1,h2,h3⟩ hd=>⟨p,c,h1,h2,h3.mono hd⟩
abbrev eR (F:Nat→Prop) (w:World) (v:Value) (l:List (Bool×List Int)):Prop:=fc 2 1000000 kE F w v l
theorem eR.aD {F S:Nat→Prop} {w w':World} {v:Value} {l:List (Bool×List Int)} (h:eR F w v l) (hc:bA S w w') (hd:∀k,k<w.heap.size→F k→¬S k):eR F w' v l:=fc.aD kE.fr kE.ce h hc hd
theorem eR.ext {F:Nat→Prop} {w w':World} {v:Value} {l:List (Bool×List Int)} (h:eR F w v l) (hc:Ext w w'):eR F w' v l:=h.aD hc (fun _ _ _ h=>h)
theorem sV {B T:Nat} {D F:Nat→Prop} {w:World} {lv:Value} {tc:List Value} {l:List (Bool×List Int)} (h:w.ownsRow B T 2 lv l.length tc) (hs:cK D w (tc,l)) (hl:l.length≤1000000) (hF:∀k,B≤k→F k) (hD:∀k,D k→F k):eR F w lv l:=by
 obtain⟨p,c,rfl,_,_,hg⟩:=av h
 refine⟨p,c,rfl,hl,?_⟩
 by_cases h0:l.length=0
 ·exact .inl (List.eq_nil_of_length_eq_zero h0)
 obtain⟨g,rfl,hgB,-⟩:=hg Hb
 refine .inr ⟨g,0,rfl,hF g hgB,fun i hi=>?_⟩
 obtain⟨p',c',e1,e2,e3⟩:=hs.2 i hi
 dsimp only at e1 e2 e3
 rw[Nat.zero_add]
 exact⟨p',c',dL h e1,dL h e2,e3.mono fun k _ hk=>hD k hk⟩
theorem vo {α:Type} [Inhabited α] {xs ys:List α} {j:Nat} (hx:j<xs.length) (hy:j<ys.length) (h:xs.take j=ys.take j):xs.take (j+1)=ys.take (j+1)↔ix xs j=ix ys j:=by
 rw[bu hx,bu hy,h]
 constructor
 ·intro h;simpa using h
 ·intro h;rw[h]
set_option maxHeartbeats 8000000 in
theorem vg (F F':Nat→Prop) (a b:List (Bool×List Int)) (v u:Value) (w:World) (h:eR F w v a) (h':eR F' w u b):Calls G.P 16 #[v,u] w fun e w'=>e=.returned (.bool (decide (a=b)))∧Ext w w':=by
 obtain⟨p,c,rfl,hl⟩:=h.slice
 obtain⟨q,d,rfl,hl'⟩:=h'.slice
 refine aj (l:=[_,_]) Tryz.func16 rfl Tryz.ntmps16 rfl (Ok.start w) ?_
 by_cases hlen:a.length=b.length
 ·repeat'(first|refine ax ?_|fail)
  all_goals first|omega|skip
  refine aQ.loop (σ:=Nat) (fun j=>[(0,.slice p a.length c),(1,.slice q b.length d),(5,.int .i64 j)]) (fun _=>[]) (fun _=>[Ext w]) (fun j=>j≤a.length∧a.take j=b.take j) (fun j=>a.length - j) 0 bR bN aY ⟨by omega,by simp⟩ ?_
  rintro j ⟨hj,heq⟩
  by_cases hjl:j<a.length
  ·obtain⟨b7,o7,rfl,-,hc⟩:=h.at hjl
   obtain⟨b8,o8,rfl,-,hc'⟩:=h'.at (show j<b.length by omega)
   have hst:=vo hjl (show j<b.length by omega) heq
   obtain⟨px,cx,hcx,hcx2,hIx⟩:=hc j hjl
   obtain⟨py,cy,hcy,hcy2,hIy⟩:=hc' j Hb
   obtain⟨x,hx⟩:∃x,ix a j=x:=⟨_,rfl⟩
   obtain⟨y,hy⟩:∃y,ix b j=y:=⟨_,rfl⟩
   rw[hx]at hcx hcx2 hIx hst
   rw[hy]at hcy hcy2 hIy hst
   obtain⟨x1,xl⟩:=x
   obtain⟨y1,yl⟩:=y
   dsimp only at hcx hcx2 hIx hcy hcy2 hIy
   by_cases he1:x1=y1
   ·subst he1
    by_cases he:xl=yl
    ·subst he
     cases x1
     all_goals
      repeat'(first|refine ax ?_|fail)
      refine rx ?_
      refine dy ?_
      refine ah.ng (v:=.bool true) rfl rfl rfl rfl (fun w' hw'=>by have:=pw F F' xl xl (.slice px xl.length cx) (.slice py xl.length cy) w' (hIx.aD (show Ext w w' from hw'.at) (fun _ _ _ h=>h)) (hIy.aD (show Ext w w' from hw'.at) (fun _ _ _ h=>h));rw[decide_eq_true rfl]at this;exact this) ?_
      refine dy ?_
      repeat'(first|refine ax ?_|fail)
      all_goals exact ai.next (j+1) bR bN aY ⟨by omega,hst.2 rfl⟩ Hb
    ·have hne:¬a=b:=fun e=>he (by have:ix a j=ix b j:=(by rw[e]);rw[hx,hy]at this;cases this;rfl)
     rw[decide_eq_false hne]
     cases x1
     all_goals
      repeat'(first|refine ax ?_|fail)
      refine rx ?_
      refine dy ?_
      refine ah.ng (v:=.bool false) rfl rfl rfl rfl (fun w' hw'=>by have:=pw F F' xl yl (.slice px xl.length cx) (.slice py yl.length cy) w' (hIx.aD (show Ext w w' from hw'.at) (fun _ _ _ h=>h)) (hIy.aD (show Ext w w' from hw'.at) (fun _ _ _ h=>h));rw[decide_eq_false he]at this;exact this) ?_
      refine dy ?_
      repeat'(first|refine ax ?_|fail)
      all_goals exact ap
   ·have hne:¬a=b:=fun e=>he1 (by have:ix a j=ix b j:=(by rw[e]);rw[hx,hy]at this;cases this;rfl)
    rw[decide_eq_false hne]
    cases x1<;>cases y1
    all_goals first|exact absurd rfl he1|skip
    all_goals
     repeat'(first|refine ax ?_|fail)
     refine rx ?_
     refine dy ?_
     repeat'(first|refine ax ?_|fail)
     all_goals exact ap
  ·obtain rfl:j=a.length:=by omega
   rw[List.take_length,hlen,List.take_length]at heq
   repeat'(first|refine ax ?_|fail)
   all_goals exact kw
 ·repeat'(first|refine ax ?_|fail)
  all_goals exact li
set_option maxHeartbeats 8000000 in
theorem uR (F:Nat→Prop) (l:List (Bool×List Int)) (v:Value) (w:World) (h:eR F w v l):Calls G.P 17 #[v] w (fj (fun D w u=>eR D w u l) (fun u:Value=>u) F w):=by
 obtain⟨p,c,rfl,hl⟩:=h.slice
 refine aj (l:=[_]) Tryz.func17 rfl Tryz.ntmps17 rfl (Ok.start w) ?_
 repeat'(first|refine ax ?_|fail)
 refine aQ.iC w.heap.size Bn 2 ?_
 refine aQ.loop (σ:=Nat×Value×List Value) (fun s=>[(0,.slice p l.length c),(3,s.2.1),(4,.int .i64 s.1)]) (fun s=>[.own w.heap.size Bn 2 s.2.1 s.1 s.2.2]) (fun _=>[Ext w]) (fun s=>s.1≤l.length∧cK F w (s.2.2,l.take s.1)) (fun s=>l.length - s.1) (0,.slice none 0 0,[]) bR bN aY ⟨Nat.zero_le _,cK.nil _ _⟩ ?_
 rintro⟨j,ov,tc⟩ ⟨hj,hst⟩
 dsimp only at hj hst ⊢
 by_cases hjl:j<l.length
 ·obtain⟨b7,o7,rfl,-,hc⟩:=h.at hjl
  obtain⟨px,cx,hcx,hcx2,hIx⟩:=hc j hjl
  have hnx:cK F w (tc++[.bool (ix l j).1,.slice px (ix l j).2.length cx],l.take (j+1)):=by
   rw[bu hjl]
   exact(cK.snoc hst hIx).mono fun _ h=>h.elim id id
  repeat'(first|refine ax ?_|fail)
  refine aQ.de [] [Ext w] bN aY ?_
  repeat'(first|refine uo ?_|(refine aI.wX ?_;refine aI.he rfl rfl (HE.ml rfl rfl rfl rfl rfl fT Hd Hd) (fun _=>bN) (fun _=>aY) ?_;rintro b3 _)|(refine aI.wW ?_;refine aI.he rfl rfl (HE.app rfl rfl (fun _=>bJ) bJ rfl rfl rfl Hd Hd Hd Hd Hd Hd Hb xJ) (fun _=>bN) (fun _=>aY) ?_;rintro v2 _)|refine aK.nil G6 ?_|refine aK.any G6 ?_|exact aC.fin rfl|refine aC.skip G6 ?_|refine aC.go ?_ ?_)
  all_goals repeat'(first|refine ax ?_|fail)
  all_goals exact ai.next (j+1,v2,tc++[.bool (ix l j).1,.slice px (ix l j).2.length cx]) bR bN aY ⟨by show j+1≤_;omega,hnx⟩ (by show l.length - (j+1)<l.length - j;omega)
 ·obtain rfl:j=l.length:=by omega
  rw[List.take_length]at hst
  repeat'(first|refine ax ?_|fail)
  all_goals exact ai.aA rfl rfl fun w' hw'=>⟨⟨ov,rfl,sV (F:=fun k=>F k∨w.heap.size≤k) (hw'.m (.own w.heap.size Bn 2 ov l.length tc) gi).1 (cK.fr hst (show Ext w w' from hw'.at) (fun _ _ _ h=>h)) hl (fun _ h=>.inr h) (fun _ h=>.inl h)⟩,hw'.at⟩
def nS (k:Int):bP:=⟨k,0,0,0,0,0,0,[],[]⟩
def yW (k:Int):List Value:=[.int .i64 k,.int .i64 0,.int .i64 0,.int .u64 0,.int .i64 0,.int .i64 0,.int .i64 0,.slice none 0 0,.slice none 0 0]
theorem pg {w:World} {b T:Nat} (ks:List Int) (h:dZ w b (ks.flatMap yW) T) (hk:∀k∈ks,0≤k∧k≤1000000) (hl:ks.length≤1000) {F:Nat→Prop} (hF:F b):dN F w (.slice (some ⟨b,0,none⟩) ks.length ks.length) (ks.map nS):=by
 refine⟨_,_,by rw[List.length_map],by rw[List.length_map];omega,.inr ⟨b,0,rfl,hF,fun i hi=>?_⟩⟩
 rw[List.length_map]at hi
 have hi2:ix (ks.map nS) i=nS (ix ks i):=by rw[cw G4,cw hi,List.getElem_map]
 have hc:∀j,j<9→w.cell? ⟨b,0+i*9+j,none⟩=(yW (ix ks i))[j]?:=fun j hj=>by
  have h1:=eT yW (fun _=>rfl) ks i j hi hj
  have h2:(yW (ix ks i))[j]?=some (yW (ix ks i))[j]:=List.getElem?_eq_getElem hj
  rw[h2]at h1
  rw[h2,Nat.zero_add]
  exact h.cell h1
 rw[hi2]
 exact⟨hc 0 Hb,hc 1 Hb,hc 2 Hb,hc 3 Hb,hc 4 Hb,hc 5 Hb,hc 6 Hb,⟨_,hc 7 Hb,af.eJ _ _⟩,⟨_,hc 8 Hb,af.eJ _ _⟩,by have:=hk _ (BL hi);show gJ (ix ks i);unfold gJ;omega,by show gJ 0;unfold gJ;omega⟩
def xj (f:aE) (xs:List bP):ae:=⟨[f],[],[⟨0,[],xs⟩],[],[],[],[],false,0,[],[],[]⟩
theorem Bl.BG (m:ae):Bi (fun D w cs=>aH D w cs m):=fun h hc hd=>h.aD hc hd
theorem ni (F:Nat→Prop) (f:aE) (xs:List bP) (p q bp:Option Addr) (c d bc:Nat) (w:World) (hf:fa f F w (.slice p f.params.length c,.slice q f.results.length d)) (hb:dN F w (.slice bp xs.length bc) xs):Calls G.P 20 #[.agg #[.slice p f.params.length c,.slice q f.results.length d],.slice bp xs.length bc] w (fj (fun D w cs=>aH D w cs (xj f xs)) (fun cs:List Value=>.agg cs.toArray) F w):=by
 refine aj (l:=[_,_]) Tryz.func20 rfl Tryz.ntmps20 rfl (Ok.start w) ?_
 repeat'(first|refine ax ?_|(refine bz fun b_=>?_)|(refine aa.hH (t:=ic) ?_;refine aa.alloc (t:=ic) [.slice none 0 0,.slice none 0 0,.slice none 0 0,.slice none 0 0,.slice none 0 0,.slice none 0 0,.slice none 0 0,.bool false,.int .i64 0,.slice none 0 0,.slice none 0 0,.slice none 0 0] rfl rfl rfl fun b_=>?_)|fail)
 refine AC ?_
 intro k1 _
 repeat'(first|refine ax ?_|fail)
 refine AC ?_
 intro k2 _
 repeat'(first|refine ax ?_|fail)
 refine ai.fG (.inl rfl) rfl rfl rfl rfl rfl bJ rfl ?_
 intro w' hw'
 have hx:Ext w w':=hw'.at
 obtain⟨B1,n1⟩:=hw'.oX (b:=k1) (w0:=w) ao gi
 obtain⟨B2,n2⟩:=hw'.oX (b:=k2) (w0:=w) ao gi
 refine⟨⟨_,rfl,_,_,_,_,_,_,_,_,_,_,rfl,⟨_,_,rfl,by show(1:Nat)≤_;omega,.inr ⟨k1,0,rfl,.inr n1,fun i hi=>?_⟩⟩,fc.nil,⟨_,_,rfl,by show(1:Nat)≤_;omega,.inr ⟨k2,0,rfl,.inr n2,fun i hi=>?_⟩⟩,fc.nil,fc.nil,fc.nil,fc.nil,fc.nil,fc.nil,fc.nil,by show gJ 0;unfold gJ;omega⟩,hx⟩
 ·obtain rfl:i=0:=by have:i<1:=hi;omega
  exact⟨[.slice p f.params.length c,.slice q f.results.length d],⟨_,_,rfl,(hf.1.aD hx (fun _ _ _ h=>h)).mono fun _ _ h=>.inl h,(hf.2.aD hx (fun _ _ _ h=>h)).mono fun _ _ h=>.inl h⟩,tl B1 rfl⟩
 ·obtain rfl:i=0:=by have:i<1:=hi;omega
  exact⟨[.int .i64 0,.slice none 0 0,.slice bp xs.length bc],⟨_,_,rfl,af.eJ _ _,(hb.aD hx (fun _ _ _ h=>h)).mono fun _ _ h=>.inl h,by show gJ 0;unfold gJ;omega⟩,tl B2 rfl⟩
def vE (m:ae) (cs:List Value):Prop:=∃p0 c0 p1 c1 p2 c2 p3 c3 p4 c4 p5 c5 p6 c6 p7 c7 p8 c8 p9 c9,cs=([Value.slice p0 m.types.length c0,Value.slice p1 m.imports.length c1,Value.slice p2 m.funcs.length c2,Value.slice p3 m.tables.length c3,Value.slice p4 m.bO.length c4,Value.slice p5 m.globals.length c5,Value.slice p6 m.aB.length c6,Value.bool m.aF,Value.int .i64 m.start,Value.slice p7 m.elems.length c7,Value.slice p8 m.aS.length c8,Value.slice p9 m.br.length c9]:List Value)
theorem aH.sh {F:Nat→Prop} {w:World} {cs:List Value} {m:ae} (h:aH F w cs m):vE m cs:=by
 obtain⟨v0,v1,v2,v3,v4,v5,v6,v7,v8,v9,rfl,r0,r1,r2,r3,r4,r5,r6,r7,r8,r9,g0⟩:=h
 obtain⟨p0,c0,rfl,-⟩:=r0.slice
 obtain⟨p1,c1,rfl,-⟩:=r1.slice
 obtain⟨p2,c2,rfl,-⟩:=r2.slice
 obtain⟨p3,c3,rfl,-⟩:=r3.slice
 obtain⟨p4,c4,rfl,-⟩:=r4.slice
 obtain⟨p5,c5,rfl,-⟩:=r5.slice
 obtain⟨p6,c6,rfl,-⟩:=r6.slice
 obtain⟨p7,c7,rfl,-⟩:=r7.slice
 obtain⟨p8,c8,rfl,-⟩:=r8.slice
 obtain⟨p9,c9,rfl,-⟩:=r9.slice
 exact⟨p0,c0,p1,c1,p2,c2,p3,c3,p4,c4,p5,c5,p6,c6,p7,c7,p8,c8,p9,c9,rfl⟩
theorem uU {f:aE} {xs:List bP} (hf:f.params.length≤1048576∧f.results.length≤1048576) (hx:xs.length≤400) (hl:∀k,k<xs.length→(ix xs k).labels.length≤1048576):qe (xj f xs):=by
 refine⟨fun g hg=>?_,fun j hj=>?_,fun j hj=>?_,fun j hj=>?_⟩
 ·rw[show(xj f xs).types=[f]from rfl,List.mem_singleton]at hg;subst hg;exact hf
 all_goals obtain rfl:j=0:=by(have:j<1:=hj);omega
 ·exact Nat.zero_le _
 ·exact hx
 ·exact hl
def fI:aE:=⟨[1],[1]⟩
def mA:ae:=xj fI ([32,11].map nS)
def mB:ae:=xj fI ([11].map nS)
def mC:ae:=xj fI ([0,11].map nS)
theorem Ds:m5 mA 0=(0,0):=by kernel_rfl
theorem Dw:m5 mB 0=(0,13):=by kernel_rfl
theorem Du:gR mA 0=some [(true,[]),(true,[1])]:=by kernel_rfl
theorem Dy:gR mC 0=some [(true,[]),(false,[])]:=by kernel_rfl
theorem CO:qe mA:=uU Ha Ha Ha
theorem Dv:qe mB:=uU Ha Ha Ha
theorem Dx:qe mC:=uU Ha Ha Ha
theorem Ok.Ca {M:List aV} {R:List (World→Prop)} {w:World} {T:Nat} {lv:Value} {tc:List Value} {D:Nat→Prop} {l:List (Bool×List Int)} (h:Ok (jh T lv tc D l++M) R w) (hl:l.length≤1000000):Ok M ((fun w=>eR (fun _=>True) w lv l)::R) w:=
 h.pack.freeze (p:=fun w=>eR (fun _=>True) w lv l) Rm.head (fun _w' (h:Ok _ [] _w')=>sV (h.m (.own 0 T 2 lv l.length tc) (by simp[jh])).1 (h.m (.iM cK cK.fr D (tc,l)) (by simp[jh])).1 hl (fun _ _=>trivial) (fun _ _=>trivial))
set_option maxHeartbeats 16000000 in
theorem eW (w:World) (h0:dQ w):Calls G.P 8 #[] w fun e w'=>e=.returned (.bool true)∧Ext w w':=by
 refine aj (l:=[]) Tryz.func8 rfl Tryz.ntmps8 rfl (Ok.start w) ?_
 repeat'(first|refine ax ?_|fail)
 refine AC ?_
 intro k1 _
 repeat'(first|refine ax ?_|fail)
 refine AC ?_
 intro k2 _
 repeat'(first|refine ax ?_|(refine aa.hH (t:=qC) ?_;refine aa.alloc (t:=qC) [.slice none 0 0,.slice none 0 0] rfl rfl rfl fun b_=>?_)|fail)
 obtain⟨bf,rfl⟩:∃y:Nat,y=b_:=⟨_,rfl⟩
 refine AC ?_
 intro k3 _
 refine aa.kR (fun w1 hw1=>?_)
 have x1:Ext w w1:=hw1.at
 have F1:fa fI (fun k=>k<w1.heap.size) w1 (.slice (some ⟨k1,0,none⟩) 1 1,.slice (some ⟨k2,0,none⟩) 1 1):=⟨af.mono (F:=fun _=>True) (kG [1] hw1 (w0:=w) ao (hD:=fun _ _=>trivial)) (fun _ hk _=>hk),af.mono (F:=fun _=>True) (kG [1] hw1 (w0:=w) ao (hD:=fun _ _=>trivial)) (fun _ hk _=>hk)⟩
 obtain⟨hbf,-⟩:=hw1.oX (b:=bf) (w0:=w) ao gi
 have c1:=hbf.Ci (s:=2) rfl
 obtain⟨hkA,-⟩:=hw1.oX (b:=k3) (w0:=w) ao gi
 have BA:dN (fun k=>k<w1.heap.size) w1 (.slice (some ⟨k3,0,none⟩) 2 2) (([32,11]:List Int).map nS):=pg [32,11] hkA Ha Ha hkA.lt
 refine aa.kq (Cs bf 0 [.slice (some ⟨k1,0,none⟩) 1 1,.slice (some ⟨k2,0,none⟩) 1 1]) (jT c1 rfl ao) ?_
 refine aa.he (HE.vM (V:=fun D w (cs:List Value)=>aH D w cs mA) (tf:=fun cs=>.agg cs.toArray) (w0:=w1) (F:=fun k=>k<w1.heap.size) (Bl.BG mA) ao (fun _ h=>h) rfl rfl (fun w' hw'=>ni _ fI (([32,11]:List Int).map nS) _ _ _ _ _ _ w' (fa.fr fI F1 (show Ext w1 w' from hw'.at) (fun _ _ _ h=>h)) (BA.aD (show Ext w1 w' from hw'.at) (fun _ _ _ h=>h)))) rfl ?_
 rintro⟨D1,cs1⟩ _
 refine aa.pure (φ:=vE mA cs1) (fun w' hw'=>(hw'.get (p:=fun w=>aH D1 w cs1 mA) ao).sh) ?_
 rintro⟨a0,d0,a1,d1,a2,d2,a3,d3,a4,d4,a5,d5,a6,d6,a7,d7,a8,d8,a9,d9,rfl⟩
 dsimp only
 repeat'(first|refine ax ?_|(refine aa.hH (t:=ic) ?_;refine aa.alloc (t:=ic) [.slice none 0 0,.slice none 0 0,.slice none 0 0,.slice none 0 0,.slice none 0 0,.slice none 0 0,.slice none 0 0,.bool false,.int .i64 0,.slice none 0 0,.slice none 0 0,.slice none 0 0] rfl rfl rfl fun b_=>?_)|fail)
 obtain⟨ba,rfl⟩:∃y:Nat,y=b_:=⟨_,rfl⟩
 repeat'(first|refine ax ?_|fail)
 refine AC ?_
 intro k4 _
 refine aa.kR (fun w2 hw2=>?_)
 have x2:Ext w w2:=x1.trans (show Ext w1 w2 from hw2.at)
 have F2:fa fI (fun k=>k<w2.heap.size) w2 (.slice (some ⟨k1,0,none⟩) 1 1,.slice (some ⟨k2,0,none⟩) 1 1):=(fa.fr fI F1 (show Ext w1 w2 from hw2.at) (fun _ _ _ h=>h)).mono (fun k hk=>Nat.lt_of_lt_of_le hk (show Ext w1 w2 from hw2.at).size)
 have c2:∀j,j<2→w2.cell? ⟨bf,0+j,none⟩=([.slice (some ⟨k1,0,none⟩) 1 1,.slice (some ⟨k2,0,none⟩) 1 1]:List Value)[j]?:=fun j hj=>by have:=c1 j hj;rw[List.getElem?_eq_getElem hj]at this ⊢;exact(show Ext w1 w2 from hw2.at).cell this
 have mA2:aH (fun _=>True) w2 ([Value.slice a0 mA.types.length d0,Value.slice a1 mA.imports.length d1,Value.slice a2 mA.funcs.length d2,Value.slice a3 mA.tables.length d3,Value.slice a4 mA.bO.length d4,Value.slice a5 mA.globals.length d5,Value.slice a6 mA.aB.length d6,Value.bool mA.aF,Value.int .i64 mA.start,Value.slice a7 mA.elems.length d7,Value.slice a8 mA.aS.length d8,Value.slice a9 mA.br.length d9]:List Value) mA:=(hw2.get (p:=fun w=>aH D1 w ([Value.slice a0 mA.types.length d0,Value.slice a1 mA.imports.length d1,Value.slice a2 mA.funcs.length d2,Value.slice a3 mA.tables.length d3,Value.slice a4 mA.bO.length d4,Value.slice a5 mA.globals.length d5,Value.slice a6 mA.aB.length d6,Value.bool mA.aF,Value.int .i64 mA.start,Value.slice a7 mA.elems.length d7,Value.slice a8 mA.aS.length d8,Value.slice a9 mA.br.length d9]:List Value) mA) ao).mono (fun _ _ _=>trivial)
 obtain⟨hbA,-⟩:=hw2.oX (b:=ba) (w0:=w1) ao gi
 have cA2:=hbA.Ci (s:=12) rfl
 obtain⟨hkB,-⟩:=hw2.oX (b:=k4) (w0:=w1) ao gi
 have BB:dN (fun k=>k<w2.heap.size) w2 (.slice (some ⟨k4,0,none⟩) 1 1) (([11]:List Int).map nS):=pg [11] hkB Ha Ha hkB.lt
 refine aa.kq (Cs bf 0 [.slice (some ⟨k1,0,none⟩) 1 1,.slice (some ⟨k2,0,none⟩) 1 1]) (jT c2 rfl ao) ?_
 refine aa.he (HE.vM (V:=fun D w (cs:List Value)=>aH D w cs mB) (tf:=fun cs=>.agg cs.toArray) (w0:=w2) (F:=fun k=>k<w2.heap.size) (Bl.BG mB) ao (fun _ h=>h) rfl rfl (fun w' hw'=>ni _ fI (([11]:List Int).map nS) _ _ _ _ _ _ w' (fa.fr fI F2 (show Ext w2 w' from hw'.at) (fun _ _ _ h=>h)) (BB.aD (show Ext w2 w' from hw'.at) (fun _ _ _ h=>h)))) rfl ?_
 rintro⟨D2,cs2⟩ _
 refine aa.pure (φ:=vE mB cs2) (fun w' hw'=>(hw'.get (p:=fun w=>aH D2 w cs2 mB) ao).sh) ?_
 rintro⟨e0,u0,e1,u1,e2,u2,e3,u3,e4,u4,e5,u5,e6,u6,e7,u7,e8,u8,e9,u9,rfl⟩
 dsimp only
 repeat'(first|refine ax ?_|(refine aa.hH (t:=ic) ?_;refine aa.alloc (t:=ic) [.slice none 0 0,.slice none 0 0,.slice none 0 0,.slice none 0 0,.slice none 0 0,.slice none 0 0,.slice none 0 0,.bool false,.int .i64 0,.slice none 0 0,.slice none 0 0,.slice none 0 0] rfl rfl rfl fun b_=>?_)|fail)
 obtain⟨bb,rfl⟩:∃y:Nat,y=b_:=⟨_,rfl⟩
 repeat'(first|refine ax ?_|fail)
 refine AC ?_
 intro k5 _
 refine aa.kR (fun w3 hw3=>?_)
 have x3:Ext w w3:=x2.trans (show Ext w2 w3 from hw3.at)
 have F3:fa fI (fun k=>k<w3.heap.size) w3 (.slice (some ⟨k1,0,none⟩) 1 1,.slice (some ⟨k2,0,none⟩) 1 1):=(fa.fr fI F2 (show Ext w2 w3 from hw3.at) (fun _ _ _ h=>h)).mono (fun k hk=>Nat.lt_of_lt_of_le hk (show Ext w2 w3 from hw3.at).size)
 have c3:∀j,j<2→w3.cell? ⟨bf,0+j,none⟩=([.slice (some ⟨k1,0,none⟩) 1 1,.slice (some ⟨k2,0,none⟩) 1 1]:List Value)[j]?:=fun j hj=>by have:=c2 j hj;rw[List.getElem?_eq_getElem hj]at this ⊢;exact(show Ext w2 w3 from hw3.at).cell this
 have mA3:aH (fun _=>True) w3 ([Value.slice a0 mA.types.length d0,Value.slice a1 mA.imports.length d1,Value.slice a2 mA.funcs.length d2,Value.slice a3 mA.tables.length d3,Value.slice a4 mA.bO.length d4,Value.slice a5 mA.globals.length d5,Value.slice a6 mA.aB.length d6,Value.bool mA.aF,Value.int .i64 mA.start,Value.slice a7 mA.elems.length d7,Value.slice a8 mA.aS.length d8,Value.slice a9 mA.br.length d9]:List Value) mA:=mA2.aD (show Ext w2 w3 from hw3.at) (fun _ _ _ h=>h)
 have cA3:∀j,j<12→w3.cell? ⟨ba,0+j,none⟩=([Value.slice a0 mA.types.length d0,Value.slice a1 mA.imports.length d1,Value.slice a2 mA.funcs.length d2,Value.slice a3 mA.tables.length d3,Value.slice a4 mA.bO.length d4,Value.slice a5 mA.globals.length d5,Value.slice a6 mA.aB.length d6,Value.bool mA.aF,Value.int .i64 mA.start,Value.slice a7 mA.elems.length d7,Value.slice a8 mA.aS.length d8,Value.slice a9 mA.br.length d9]:List Value)[j]?:=fun j hj=>by have:=cA2 j hj;rw[List.getElem?_eq_getElem hj]at this ⊢;exact(show Ext w2 w3 from hw3.at).cell this
 have mB3:aH (fun _=>True) w3 ([Value.slice e0 mB.types.length u0,Value.slice e1 mB.imports.length u1,Value.slice e2 mB.funcs.length u2,Value.slice e3 mB.tables.length u3,Value.slice e4 mB.bO.length u4,Value.slice e5 mB.globals.length u5,Value.slice e6 mB.aB.length u6,Value.bool mB.aF,Value.int .i64 mB.start,Value.slice e7 mB.elems.length u7,Value.slice e8 mB.aS.length u8,Value.slice e9 mB.br.length u9]:List Value) mB:=(hw3.get (p:=fun w=>aH D2 w ([Value.slice e0 mB.types.length u0,Value.slice e1 mB.imports.length u1,Value.slice e2 mB.funcs.length u2,Value.slice e3 mB.tables.length u3,Value.slice e4 mB.bO.length u4,Value.slice e5 mB.globals.length u5,Value.slice e6 mB.aB.length u6,Value.bool mB.aF,Value.int .i64 mB.start,Value.slice e7 mB.elems.length u7,Value.slice e8 mB.aS.length u8,Value.slice e9 mB.br.length u9]:List Value) mB) ao).mono (fun _ _ _=>trivial)
 obtain⟨hbB,-⟩:=hw3.oX (b:=bb) (w0:=w2) ao gi
 have cB3:=hbB.Ci (s:=12) rfl
 obtain⟨hkC,-⟩:=hw3.oX (b:=k5) (w0:=w2) ao gi
 have BC:dN (fun k=>k<w3.heap.size) w3 (.slice (some ⟨k5,0,none⟩) 2 2) (([0,11]:List Int).map nS):=pg [0,11] hkC Ha Ha hkC.lt
 refine aa.kq (Cs bf 0 [.slice (some ⟨k1,0,none⟩) 1 1,.slice (some ⟨k2,0,none⟩) 1 1]) (jT c3 rfl ao) ?_
 refine aa.he (HE.vM (V:=fun D w (cs:List Value)=>aH D w cs mC) (tf:=fun cs=>.agg cs.toArray) (w0:=w3) (F:=fun k=>k<w3.heap.size) (Bl.BG mC) ao (fun _ h=>h) rfl rfl (fun w' hw'=>ni _ fI (([0,11]:List Int).map nS) _ _ _ _ _ _ w' (fa.fr fI F3 (show Ext w3 w' from hw'.at) (fun _ _ _ h=>h)) (BC.aD (show Ext w3 w' from hw'.at) (fun _ _ _ h=>h)))) rfl ?_
 rintro⟨D3,cs3⟩ _
 refine aa.pure (φ:=vE mC cs3) (fun w' hw'=>(hw'.get (p:=fun w=>aH D3 w cs3 mC) ao).sh) ?_
 rintro⟨i0,j0,i1,j1,i2,j2,i3,j3,i4,j4,i5,j5,i6,j6,i7,j7,i8,j8,i9,j9,rfl⟩
 dsimp only
 repeat'(first|refine ax ?_|(refine aa.hH (t:=ic) ?_;refine aa.alloc (t:=ic) [.slice none 0 0,.slice none 0 0,.slice none 0 0,.slice none 0 0,.slice none 0 0,.slice none 0 0,.slice none 0 0,.bool false,.int .i64 0,.slice none 0 0,.slice none 0 0,.slice none 0 0] rfl rfl rfl fun b_=>?_)|fail)
 obtain⟨bc,rfl⟩:∃y:Nat,y=b_:=⟨_,rfl⟩
 refine aQ.kR (fun w4 h4=>?_)
 have x4:Ext w w4:=x3.trans (show Ext w3 w4 from h4.at)
 have mA4:aH (fun _=>True) w4 ([Value.slice a0 mA.types.length d0,Value.slice a1 mA.imports.length d1,Value.slice a2 mA.funcs.length d2,Value.slice a3 mA.tables.length d3,Value.slice a4 mA.bO.length d4,Value.slice a5 mA.globals.length d5,Value.slice a6 mA.aB.length d6,Value.bool mA.aF,Value.int .i64 mA.start,Value.slice a7 mA.elems.length d7,Value.slice a8 mA.aS.length d8,Value.slice a9 mA.br.length d9]:List Value) mA:=mA3.aD (show Ext w3 w4 from h4.at) (fun _ _ _ h=>h)
 have cA4:∀j,j<12→w4.cell? ⟨ba,0+j,none⟩=([Value.slice a0 mA.types.length d0,Value.slice a1 mA.imports.length d1,Value.slice a2 mA.funcs.length d2,Value.slice a3 mA.tables.length d3,Value.slice a4 mA.bO.length d4,Value.slice a5 mA.globals.length d5,Value.slice a6 mA.aB.length d6,Value.bool mA.aF,Value.int .i64 mA.start,Value.slice a7 mA.elems.length d7,Value.slice a8 mA.aS.length d8,Value.slice a9 mA.br.length d9]:List Value)[j]?:=fun j hj=>by have:=cA3 j hj;rw[List.getElem?_eq_getElem hj]at this ⊢;exact(show Ext w3 w4 from h4.at).cell this
 have mB4:aH (fun _=>True) w4 ([Value.slice e0 mB.types.length u0,Value.slice e1 mB.imports.length u1,Value.slice e2 mB.funcs.length u2,Value.slice e3 mB.tables.length u3,Value.slice e4 mB.bO.length u4,Value.slice e5 mB.globals.length u5,Value.slice e6 mB.aB.length u6,Value.bool mB.aF,Value.int .i64 mB.start,Value.slice e7 mB.elems.length u7,Value.slice e8 mB.aS.length u8,Value.slice e9 mB.br.length u9]:List Value) mB:=mB3.aD (show Ext w3 w4 from h4.at) (fun _ _ _ h=>h)
 have cB4:∀j,j<12→w4.cell? ⟨bb,0+j,none⟩=([Value.slice e0 mB.types.length u0,Value.slice e1 mB.imports.length u1,Value.slice e2 mB.funcs.length u2,Value.slice e3 mB.tables.length u3,Value.slice e4 mB.bO.length u4,Value.slice e5 mB.globals.length u5,Value.slice e6 mB.aB.length u6,Value.bool mB.aF,Value.int .i64 mB.start,Value.slice e7 mB.elems.length u7,Value.slice e8 mB.aS.length u8,Value.slice e9 mB.br.length u9]:List Value)[j]?:=fun j hj=>by have:=cB3 j hj;rw[List.getElem?_eq_getElem hj]at this ⊢;exact(show Ext w3 w4 from h4.at).cell this
 have mC4:aH (fun _=>True) w4 ([Value.slice i0 mC.types.length j0,Value.slice i1 mC.imports.length j1,Value.slice i2 mC.funcs.length j2,Value.slice i3 mC.tables.length j3,Value.slice i4 mC.bO.length j4,Value.slice i5 mC.globals.length j5,Value.slice i6 mC.aB.length j6,Value.bool mC.aF,Value.int .i64 mC.start,Value.slice i7 mC.elems.length j7,Value.slice i8 mC.aS.length j8,Value.slice i9 mC.br.length j9]:List Value) mC:=(h4.get (p:=fun w=>aH D3 w ([Value.slice i0 mC.types.length j0,Value.slice i1 mC.imports.length j1,Value.slice i2 mC.funcs.length j2,Value.slice i3 mC.tables.length j3,Value.slice i4 mC.bO.length j4,Value.slice i5 mC.globals.length j5,Value.slice i6 mC.aB.length j6,Value.bool mC.aF,Value.int .i64 mC.start,Value.slice i7 mC.elems.length j7,Value.slice i8 mC.aS.length j8,Value.slice i9 mC.br.length j9]:List Value) mC) ao).mono (fun _ _ _=>trivial)
 obtain⟨hbC,-⟩:=h4.oX (b:=bc) (w0:=w3) ao gi
 have cC4:=hbC.Ci (s:=12) rfl
 have h04:=h0.ext x4
 refine aQ.de [] [Ext w4] (List.nil_sublist _) aY ?_
 refine aK.qy 0 rfl (Yl.fY rfl rfl rfl ao Hd Hd cA4) ?_
 refine aK.qy 1 rfl (Yl.fY rfl rfl rfl ao Hd Hd cA4) ?_
 repeat'(first|refine aK.any G6 ?_|exact aC.fin rfl|refine aC.skip G6 ?_|refine aC.go ?_ ?_)
 refine aI.eU 10 ?_
 refine aI.he rfl rfl (HE.nh (m:=mA) rfl rfl (fun w' hw'=>jI (fun _=>True) mA ([Value.slice a0 mA.types.length d0,Value.slice a1 mA.imports.length d1,Value.slice a2 mA.funcs.length d2,Value.slice a3 mA.tables.length d3,Value.slice a4 mA.bO.length d4,Value.slice a5 mA.globals.length d5,Value.slice a6 mA.aB.length d6,Value.bool mA.aF,Value.int .i64 mA.start,Value.slice a7 mA.elems.length d7,Value.slice a8 mA.aS.length d8,Value.slice a9 mA.br.length d9]:List Value) w' (mA4.aD (show Ext w4 w' from hw'.at) (fun _ _ _ h=>h)) (by unfold mr;decide))) (fun _=>List.nil_sublist _) (fun _=>aY) ?_
 rintro⟨B1,s1⟩ _
 repeat'(first|refine aK.any G6 ?_|exact aC.fin rfl|refine aC.skip G6 ?_|refine aC.go ?_ ?_)
 refine aI.eU 9 ?_
 refine aI.he rfl rfl (HE.kp (v:=.tuple #[.int .i64 0,.int .i64 0]) rfl rfl (fun w' hw'=>by have:=jS mA ([Value.slice a0 mA.types.length d0,Value.slice a1 mA.imports.length d1,Value.slice a2 mA.funcs.length d2,Value.slice a3 mA.tables.length d3,Value.slice a4 mA.bO.length d4,Value.slice a5 mA.globals.length d5,Value.slice a6 mA.aB.length d6,Value.bool mA.aF,Value.int .i64 mA.start,Value.slice a7 mA.elems.length d7,Value.slice a8 mA.aS.length d8,Value.slice a9 mA.br.length d9]:List Value) B1 s1 0 w' (mA4.aD (show Ext w4 w' from hw'.at) (fun _ _ _ h=>h)) (hw'.get (p:=fun w=>aR B1 mA w s1) ao) (h04.ext hw'.at) CO;rw[Ds]at this;exact this)) (fun _=>List.nil_sublist _) (fun _=>aY) ?_
 rintro⟨⟩ _
 refine aK.qa 4 rfl ?_
 refine aK.qa 5 rfl ?_
 refine aK.qa 6 rfl ?_
 refine aK.qa 7 rfl ?_
 refine aK.qa 8 rfl ?_
 refine aK.nil G6 ?_
 repeat'(first|refine ax ?_|fail)
 refine aQ.de [] [Ext w4] (List.nil_sublist _) aY ?_
 refine aK.qy 0 rfl (Yl.fY rfl rfl rfl ao Hd Hd cB4) ?_
 refine aK.qy 1 rfl (Yl.fY rfl rfl rfl ao Hd Hd cB4) ?_
 repeat'(first|refine aK.any G6 ?_|exact aC.fin rfl|refine aC.skip G6 ?_|refine aC.go ?_ ?_)
 refine aI.eU 10 ?_
 refine aI.he rfl rfl (HE.nh (m:=mB) rfl rfl (fun w' hw'=>jI (fun _=>True) mB ([Value.slice e0 mB.types.length u0,Value.slice e1 mB.imports.length u1,Value.slice e2 mB.funcs.length u2,Value.slice e3 mB.tables.length u3,Value.slice e4 mB.bO.length u4,Value.slice e5 mB.globals.length u5,Value.slice e6 mB.aB.length u6,Value.bool mB.aF,Value.int .i64 mB.start,Value.slice e7 mB.elems.length u7,Value.slice e8 mB.aS.length u8,Value.slice e9 mB.br.length u9]:List Value) w' (mB4.aD (show Ext w4 w' from hw'.at) (fun _ _ _ h=>h)) (by unfold mr;decide))) (fun _=>List.nil_sublist _) (fun _=>aY) ?_
 rintro⟨B2,s2⟩ _
 repeat'(first|refine aK.any G6 ?_|exact aC.fin rfl|refine aC.skip G6 ?_|refine aC.go ?_ ?_)
 refine aI.eU 9 ?_
 refine aI.he rfl rfl (HE.kp (v:=.tuple #[.int .i64 0,.int .i64 13]) rfl rfl (fun w' hw'=>by have:=jS mB ([Value.slice e0 mB.types.length u0,Value.slice e1 mB.imports.length u1,Value.slice e2 mB.funcs.length u2,Value.slice e3 mB.tables.length u3,Value.slice e4 mB.bO.length u4,Value.slice e5 mB.globals.length u5,Value.slice e6 mB.aB.length u6,Value.bool mB.aF,Value.int .i64 mB.start,Value.slice e7 mB.elems.length u7,Value.slice e8 mB.aS.length u8,Value.slice e9 mB.br.length u9]:List Value) B2 s2 0 w' (mB4.aD (show Ext w4 w' from hw'.at) (fun _ _ _ h=>h)) (hw'.get (p:=fun w=>aR B2 mB w s2) ao) (h04.ext hw'.at) Dv;rw[Dw]at this;exact this)) (fun _=>List.nil_sublist _) (fun _=>aY) ?_
 rintro⟨⟩ _
 refine aK.qa 4 rfl ?_
 refine aK.qa 5 rfl ?_
 refine aK.qa 6 rfl ?_
 refine aK.qa 7 rfl ?_
 refine aK.qa 8 rfl ?_
 refine aK.nil G6 ?_
 repeat'(first|refine ax ?_|fail)
 refine aQ.de [] [Ext w4] (List.nil_sublist _) aY ?_
 refine aK.qy 0 rfl (Yl.fY rfl rfl rfl ao Hd Hd cA4) ?_
 refine aK.qy 1 rfl (Yl.fY rfl rfl rfl ao Hd Hd cA4) ?_
 repeat'(first|refine aK.any G6 ?_|exact aC.fin rfl|refine aC.skip G6 ?_|refine aC.go ?_ ?_)
 refine aI.eU 10 ?_
 refine aI.he rfl rfl (HE.nh (m:=mA) rfl rfl (fun w' hw'=>jI (fun _=>True) mA ([Value.slice a0 mA.types.length d0,Value.slice a1 mA.imports.length d1,Value.slice a2 mA.funcs.length d2,Value.slice a3 mA.tables.length d3,Value.slice a4 mA.bO.length d4,Value.slice a5 mA.globals.length d5,Value.slice a6 mA.aB.length d6,Value.bool mA.aF,Value.int .i64 mA.start,Value.slice a7 mA.elems.length d7,Value.slice a8 mA.aS.length d8,Value.slice a9 mA.br.length d9]:List Value) w' (mA4.aD (show Ext w4 w' from hw'.at) (fun _ _ _ h=>h)) (by unfold mr;decide))) (fun _=>List.nil_sublist _) (fun _=>aY) ?_
 rintro⟨B3,s3⟩ _
 repeat'(first|refine aK.any G6 ?_|exact aC.fin rfl|refine aC.skip G6 ?_|refine aC.go ?_ ?_)
 refine aI.eU 12 ?_
 refine aI.he rfl rfl (HE.aW (M0:=[]) lD.nil rfl rfl (fun w' hw'=>by have:=lW mA ([Value.slice a0 mA.types.length d0,Value.slice a1 mA.imports.length d1,Value.slice a2 mA.funcs.length d2,Value.slice a3 mA.tables.length d3,Value.slice a4 mA.bO.length d4,Value.slice a5 mA.globals.length d5,Value.slice a6 mA.aB.length d6,Value.bool mA.aF,Value.int .i64 mA.start,Value.slice a7 mA.elems.length d7,Value.slice a8 mA.aS.length d8,Value.slice a9 mA.br.length d9]:List Value) B3 s3 0 w' (mA4.aD (show Ext w4 w' from hw'.at) (fun _ _ _ h=>h)) (hw'.get (p:=fun w=>aR B3 mA w s3) ao) (h04.ext hw'.at) CO;rw[Du]at this;exact this)) (fun _=>List.nil_sublist _) (fun _=>aY) ?_
 rintro⟨la,ta,Da⟩ _
 dsimp only[jh,Option.getD,Option.isSome,List.cons_append,List.nil_append]
 refine aK.qa 4 rfl ?_
 refine aK.qa 5 rfl ?_
 refine aK.qa 6 rfl ?_
 refine aK.qa 7 rfl ?_
 refine aK.qa 8 rfl ?_
 refine aK.nil G6 ?_
 repeat'(first|refine ax ?_|fail)
 refine aQ.de [] [Ext w4] (List.nil_sublist _) aY ?_
 refine aK.qy 0 rfl (Yl.fY rfl rfl rfl ao Hd Hd cC4) ?_
 refine aK.qy 1 rfl (Yl.fY rfl rfl rfl ao Hd Hd cC4) ?_
 repeat'(first|refine aK.any G6 ?_|exact aC.fin rfl|refine aC.skip G6 ?_|refine aC.go ?_ ?_)
 refine aI.eU 10 ?_
 refine aI.he rfl rfl (HE.nh (m:=mC) rfl rfl (fun w' hw'=>jI (fun _=>True) mC ([Value.slice i0 mC.types.length j0,Value.slice i1 mC.imports.length j1,Value.slice i2 mC.funcs.length j2,Value.slice i3 mC.tables.length j3,Value.slice i4 mC.bO.length j4,Value.slice i5 mC.globals.length j5,Value.slice i6 mC.aB.length j6,Value.bool mC.aF,Value.int .i64 mC.start,Value.slice i7 mC.elems.length j7,Value.slice i8 mC.aS.length j8,Value.slice i9 mC.br.length j9]:List Value) w' (mC4.aD (show Ext w4 w' from hw'.at) (fun _ _ _ h=>h)) (by unfold mr;decide))) (fun _=>List.nil_sublist _) (fun _=>aY) ?_
 rintro⟨B4,s4⟩ _
 repeat'(first|refine aK.any G6 ?_|exact aC.fin rfl|refine aC.skip G6 ?_|refine aC.go ?_ ?_)
 refine aI.eU 12 ?_
 refine aI.he rfl rfl (HE.aW (M0:=[]) lD.nil rfl rfl (fun w' hw'=>by have:=lW mC ([Value.slice i0 mC.types.length j0,Value.slice i1 mC.imports.length j1,Value.slice i2 mC.funcs.length j2,Value.slice i3 mC.tables.length j3,Value.slice i4 mC.bO.length j4,Value.slice i5 mC.globals.length j5,Value.slice i6 mC.aB.length j6,Value.bool mC.aF,Value.int .i64 mC.start,Value.slice i7 mC.elems.length j7,Value.slice i8 mC.aS.length j8,Value.slice i9 mC.br.length j9]:List Value) B4 s4 0 w' (mC4.aD (show Ext w4 w' from hw'.at) (fun _ _ _ h=>h)) (hw'.get (p:=fun w=>aR B4 mC w s4) ao) (h04.ext hw'.at) Dx;rw[Dy]at this;exact this)) (fun _=>List.nil_sublist _) (fun _=>aY) ?_
 rintro⟨lc,tc,Dc⟩ _
 dsimp only[jh,Option.getD,Option.isSome,List.cons_append,List.nil_append]
 refine aK.qa 4 rfl ?_
 refine aK.qa 5 rfl ?_
 refine aK.qa 6 rfl ?_
 refine aK.qa 7 rfl ?_
 refine aK.qa 8 rfl ?_
 refine aK.nil G6 ?_
 repeat'(first|refine ax ?_|fail)
 refine aa.map (fun w' h=>Ok.Ca (T:=my) (lv:=lc) (tc:=tc) (D:=Dc) (l:=[(true,[]),(false,[])]) h Ha) ?_
 refine aa.map (fun w' h=>Ok.Ca (T:=my) (lv:=la) (tc:=ta) (D:=Da) (l:=[(true,[]),(true,[1])]) (M:=[]) h Ha) ?_
 refine aa.kR (fun w5 h5=>?_)
 have x5:Ext w w5:=x4.trans (show Ext w4 w5 from h5.at)
 have hA5:eR (fun k=>k<w5.heap.size) w5 la [(true,[]),(true,[1])]:=fc.mono kE.mo kE.ce (h5.get (p:=fun w=>eR (fun _=>True) w la [(true,[]),(true,[1])]) ao) (fun _ h _=>h)
 have hC5:eR (fun _=>True) w5 lc [(true,[]),(false,[])]:=h5.get (p:=fun w=>eR (fun _=>True) w lc [(true,[]),(false,[])]) ao
 obtain⟨pc,cc,rfl⟩:∃p c,lc=.slice p 2 c:=by obtain⟨p,c,e,-⟩:=hC5.slice;exact⟨p,c,e⟩
 obtain⟨bq,oq,rfl,-,hq⟩:=hC5.at (i:=1) Ha
 obtain⟨_,_,hq1,-,-⟩:=hq 1 Ha
 refine aa.Dq Hd (HE.vM (V:=fun D w (u:Value)=>eR D w u [(true,[]),(true,[1])]) (tf:=fun u=>u) (w0:=w5) (F:=fun k=>k<w5.heap.size) (fun h hc hd=>eR.aD h hc hd) ao (fun _ h=>h) rfl rfl (fun w' hw'=>uR _ _ la w' (hA5.ext hw'.at))) rfl ?_
 rintro⟨D6,v6⟩ _
 dsimp only
 repeat'(first|refine ax ?_|fail)
 refine aa.Dq Hd (HE.ml rfl rfl rfl rfl rfl fT Hd Hd) rfl ?_
 intro k6 _
 repeat'(first|refine ax ?_|fail)
 refine aa.Dq Hd (HE.ml rfl rfl rfl rfl rfl fT Hd Hd) rfl ?_
 intro k7 _
 repeat'(first|refine ax ?_|fail)
 refine aa.dV (v:=.bool true) rfl rfl rfl rfl (fun w' hw'=>by
  obtain⟨e6,-⟩:=hw'.oX (b:=k6) (w0:=w5) ao gi
  obtain⟨e7,-⟩:=hw'.oX (b:=k7) (w0:=w5) ao gi
  have hs:eR (fun _=>True) w' (.slice (some ⟨k7,0,none⟩) 2 2) [(true,[]),(true,[1])]:=⟨_,_,rfl,by show(2:Nat)≤_;omega,.inr ⟨k7,0,rfl,trivial,fun i hi=>by
   have hi2:i<2:=hi
   rcases(show i=0∨i=1 by omega)with rfl|rfl
   ·exact⟨none,0,e7.cell (j:=0) rfl,e7.cell (j:=1) rfl,af.eJ _ _⟩
   ·exact⟨some ⟨k6,0,none⟩,1,e7.cell (j:=2) rfl,e7.cell (j:=3) rfl,(fg e6).mono fun _ _ _=>trivial⟩⟩⟩
  have:=vg D6 (fun _=>True) _ _ v6 _ w' (hw'.get (p:=fun w=>eR D6 w v6 [(true,[]),(true,[1])]) ao) hs
  rw[decide_eq_true rfl]at this;exact this) ?_
 refine aa.kq (cl bq (oq+1*2) (.bool false)) (fun w2 h=>(show Ext w5 w2 from h _ ao).cell hq1) ?_
 repeat'(first|refine ax ?_|fail)
 refine aa.yg Hd (Yl.idx (i:=1) rfl rfl rfl rfl rfl Ha Ha) rfl ?_
 repeat'(first|refine ax ?_|fail)
 all_goals exact ai.aA rfl rfl fun w' hw'=>⟨rfl,x5.trans hw'.at⟩
structure uz (m:ae):Prop where
 types:m.types.length≤100
 imports:m.imports.length≤100
 funcs:m.funcs.length≤20
 globals:m.globals.length≤100
 elems:m.elems.length≤100
 loc:∀j,j<m.funcs.length→(ix m.funcs j).locals.length≤400
 len:∀j,j<m.funcs.length→(ix m.funcs j).body.length≤400
set_option maxHeartbeats 8000000 in
theorem xd (m:ae) (cs:List Value) (w:World) (hm:aH (fun _=>True) w cs m):Calls G.P 7 #[.agg cs.toArray] w (qx (uz m) w):=by
 obtain⟨v0,v1,v2,v3,v4,v5,v6,v7,v8,v9,rfl,r0,r1,r2,r3,r4,r5,r6,r7,r8,r9,g0⟩:=hm;obtain⟨p0,c0,rfl,l0⟩:=r0.slice;obtain⟨p1,c1,rfl,l1⟩:=r1.slice;obtain⟨p2,c2,rfl,l2⟩:=r2.slice;obtain⟨p3,c3,rfl,l3⟩:=r3.slice;obtain⟨p4,c4,rfl,l4⟩:=r4.slice;obtain⟨p5,c5,rfl,l5⟩:=r5.slice;obtain⟨p6,c6,rfl,l6⟩:=r6.slice;obtain⟨p7,c7,rfl,l7⟩:=r7.slice;obtain⟨p8,c8,rfl,l8⟩:=r8.slice;obtain⟨p9,c9,rfl,l9⟩:=r9.slice
 refine aj (l:=[_]) Tryz.func7 rfl Tryz.ntmps7 rfl (Ok.start w) ?_
 repeat'(first|refine ax ?_|(refine aO ?_ ?_<;>intro hc_))
 refine aa.box ([Value.slice p0 m.types.length c0,Value.slice p1 m.imports.length c1,Value.slice p2 m.funcs.length c2,Value.slice p3 m.tables.length c3,Value.slice p4 m.bO.length c4,Value.slice p5 m.globals.length c5,Value.slice p6 m.aB.length c6,Value.bool m.aF,Value.int .i64 m.start,Value.slice p7 m.elems.length c7,Value.slice p8 m.aS.length c8,Value.slice p9 m.br.length c9]:List Value) rfl rfl rfl fun bm=>?_
 repeat'(first|refine ax ?_|(refine aO ?_ ?_<;>intro hc_))
 refine aQ.loop (σ:=Nat×Int) (fun s=>[(1,.pointer (some ⟨bm,0,none⟩)),(3,.int .i64 s.2),(4,.int .i64 s.1)]) (fun _=>[.aJ bm ([Value.slice p0 m.types.length c0,Value.slice p1 m.imports.length c1,Value.slice p2 m.funcs.length c2,Value.slice p3 m.tables.length c3,Value.slice p4 m.bO.length c4,Value.slice p5 m.globals.length c5,Value.slice p6 m.aB.length c6,Value.bool m.aF,Value.int .i64 m.start,Value.slice p7 m.elems.length c7,Value.slice p8 m.aS.length c8,Value.slice p9 m.br.length c9]:List Value) ic]) (fun _=>[Ext w]) (fun s=>s.1≤m.funcs.length∧s.1≤100∧0≤s.2∧s.2≤(s.1:Int)*20000000000000∧∀j,j<s.1→((ix m.funcs j).locals.length:Int)+(ix m.funcs j).body.length≤s.2) (fun s=>m.funcs.length - s.1) (0,0) bR bN aY ⟨Nat.zero_le _,Nat.zero_le _,by decide,by decide,fun j hj=>absurd hj (Nat.not_lt_zero _)⟩ ?_
 rintro⟨i,q⟩ ⟨hi,hi2,hq0,hq,hall⟩
 dsimp only at hi hi2 hq0 hq hall ⊢
 by_cases hlt:i<m.funcs.length∧i<100
 ·obtain⟨hj,hj2⟩:=hlt
  have hnx:∀j,j<i+1→((ix m.funcs j).locals.length:Int)+(ix m.funcs j).body.length≤q+(ix m.funcs i).body.length+(ix m.funcs i).locals.length:=fun j h=>by
   rcases Nat.lt_or_ge j i with h1|h1
   ·have:=hall j h1;omega
   ·obtain rfl:j=i:=by omega
    omega
  obtain⟨b,o,rfl,hF9,cs5,⟨u0,u1,rfl,q0,q1,q2⟩,hc⟩:=r2.el hj;obtain⟨x0,y0,rfl,z0⟩:=q0.slice;obtain⟨x1,y1,rfl,z1⟩:=q1.slice
  refine aQ.kq (Cs b (o+i*3) _) (jT hc rfl ao) ?_
  repeat'(first|refine ax ?_|(refine aO ?_ ?_<;>intro hc_))
  all_goals first|(exfalso;omega)|skip
  all_goals exact ai.next (i+1,q+(ix m.funcs i).body.length+(ix m.funcs i).locals.length) bR bN aY ⟨by dsimp only;omega,by dsimp only;omega,by dsimp only;omega,by dsimp only;omega,hnx⟩ G2
 ·repeat'(first|refine ax ?_|(refine aO ?_ ?_<;>intro hc_))
  all_goals first|(exfalso;omega)|refine ai.aA rfl rfl fun w' hw'=>⟨⟨_,rfl,fun h_=>?_⟩,hw'.at⟩
  all_goals first|(cases h_;done)|(have hh_:=of_decide_eq_true h_;exact⟨by omega,by omega,by omega,by omega,by omega,fun j hj=>by have:=hall j Hb;omega,fun j hj=>by have:=hall j Hb;omega⟩)
structure vC (m:ae):Prop where
 ty:zG 1048576 m
 tables:m.tables.length≤1048576
 bO:m.bO.length≤1048576
 aB:m.aB.length≤1048576
 iA:∀j,j<m.funcs.length→∀k,k<(ix m.funcs j).body.length→(ix (ix m.funcs j).body k).labels.length≤1048576
theorem uz.lens {m:ae} (h:uz m) (hK:vC m) (hd:m.aS.length≤17592186044416):mr m:=by
 have:=h.types;have:=h.imports;have:=h.funcs;have:=h.globals;have:=h.elems;have:=hK.tables;have:=hK.bO;have:=hK.aB
 unfold mr
 refine⟨by omega,by omega,by omega,by omega,by omega,by omega,by omega,by omega,by omega⟩
theorem uz.body {m:ae} (h:uz m) (hK:vC m):qe m:=⟨hK.ty,h.loc,h.len,hK.iA⟩
def nb (op:Int):Bool:=op==2 || op==3 || op==4 || op==5 || op==11
def jP (xs ys:List bP):Prop:=xs.length=ys.length∧∀i,(ix xs i).op=(ix ys i).op∨(nb (ix xs i).op=false∧nb (ix ys i).op=false)
theorem rD {op:Int} (h:nb op=false):dE op=false∧op≠5∧op≠11∧op≠4:=by
 unfold nb at h
 simp only[Bool.or_eq_false_iff,beq_eq_false_iff_ne]at h
 obtain⟨⟨⟨⟨h1,h2⟩,h3⟩,h4⟩,h5⟩:=h
 refine⟨?_,h4,h5,h3⟩
 unfold dE
 simp[h1,h2,h3]
theorem vr {l:List Int} {i a b:Int} (h:a=b∨(nb a=false∧nb b=false)):gX l i a=gX l i b:=by
 rcases h with rfl|⟨h1,h2⟩
 ·rfl
 ·obtain⟨a1,-,a3,-⟩:=rD h1
  obtain⟨b1,-,b3,-⟩:=rD h2
  unfold gX
  rw[a1,b1]
  simp[a3,b3]
theorem je {xs ys:List bP} (h:jP xs ys):∀k,au xs k=au ys k
 |0=>rfl
 |k+1=>by rw[au,au,je h k];exact vr (h.2 k)
theorem sd {xs ys:List bP} (h:jP xs ys) (i:Nat):(((ix xs i).op=5↔(ix ys i).op=5)∧((ix xs i).op=4↔(ix ys i).op=4))∧dE (ix xs i).op=dE (ix ys i).op:=by
 rcases h.2 i with e|⟨h1,h2⟩
 ·rw[e];exact⟨⟨Iff.rfl,Iff.rfl⟩,rfl⟩
 ·obtain⟨a1,a2,-,a4⟩:=rD h1
  obtain⟨b1,b2,-,b4⟩:=rD h2
  exact⟨⟨⟨fun e=>absurd e a2,fun e=>absurd e b2⟩,⟨fun e=>absurd e a4,fun e=>absurd e b4⟩⟩,by rw[a1,b1]⟩
theorem tu {xs ys:List bP} (h:jP xs ys) (p q:Nat):fL xs p q=fL ys p q:=by
 unfold fL
 congr 1
 funext i
 unfold ir
 rw[je h i]
 have:=(sd h i).1.1
 exact decide_eq_decide.2 (by rw[this])
theorem rM {xs ys:List bP} (h:jP xs ys) (i:Nat):ez xs i=ez ys i:=by
 unfold ez
 dsimp only
 rw[je h i,tu h,(sd h i).2]
 have h1:=(sd h i).1.1
 have h2:=(sd h (eV (au ys i)).toNat).1.2
 simp only[h1,h2,ne_eq]
theorem kI {xs ys:List bP} (h:jP xs ys):∀n i,cm xs n i=cm ys n i
 |0,i=>by rw[cm,cm,je h i]
 |n+1,i=>by rw[cm,cm,rM h i,kI h n (i+1)]
theorem tm {xs ys:List bP} (h:jP xs ys):du xs=du ys:=by
 unfold du;rw[h.1];exact kI h _ _
theorem qg {xs:List bP} {i:Nat} {r:Int×Int} (h:ez xs i=some r):r.1=i∧(r.2=16∨r.2=6):=by
 unfold ez at h
 dsimp only at h
 split at h
 ·cases h;exact⟨rfl,.inl rfl⟩
 ·split at h
  ·cases h;exact⟨rfl,.inl rfl⟩
  ·split at h
   ·cases h;exact⟨rfl,.inr rfl⟩
   ·cases h
theorem gQ {xs:List bP}:∀n i,((cm xs n i).2=0∨(cm xs n i).2=3∨(cm xs n i).2=16∨(cm xs n i).2=6)∧0≤(cm xs n i).1∧(cm xs n i).1≤(i+n:Nat)
 |0,i=>by
  rw[cm]
  split
  ·exact⟨.inr (.inl rfl),by show(0:Int)≤(i:Int);omega,by show(i:Int)≤_;omega⟩
  ·exact⟨.inl rfl,by decide,by show(0:Int)≤_;omega⟩
 |n+1,i=>by
  rw[cm]
  split
  ·rename_i r hr
   obtain⟨h1,h2⟩:=qg hr
   refine⟨?_,by omega,by omega⟩
   rcases h2 with h2|h2
   ·exact .inr (.inr (.inl h2))
   ·exact .inr (.inr (.inr h2))
  ·have:=gQ (xs:=xs) n (i+1)
   refine⟨this.1,this.2.1,by omega⟩
theorem uG:(du []).2=3:=by decide
theorem sJ {m:ae} {fs:List fe} (h:fs.map (·.cP)=m.funcs.map (·.cP)) (l:List Int) (x:bP):dY {m with funcs:=fs} l x=dY m l x:=by
 have hf:gz {m with funcs:=fs}=gz m:=by unfold gz;rw[h];rfl
 have h1:cr {m with funcs:=fs} x=cr m x:=by
  unfold cr jq tq
  rw[hf];rfl
 unfold dY
 rw[h1];rfl
theorem rA {m:ae} {fs:List fe} (h:fs.map (·.cP)=m.funcs.map (·.cP)) (c:dq) (l:List Int) (x:bP):dj c {m with funcs:=fs} l x=dj c m l x:=by
 unfold dj
 rw[sJ h];rfl
theorem lZ {m:ae} {l:List Int} {xs:List bP}:∀(n k:Nat) (c:dq),0≤(qS m l xs n k c).1∧(qS m l xs n k c).1≤(k+n:Nat)∧((qS m l xs n k c).2≠0→(k:Int)≤(qS m l xs n k c).1)
 |0,k,c=>⟨Int.le_refl 0,by show(0:Int)≤_;omega,fun h=>absurd rfl h⟩
 |n+1,k,c=>by
  rw[qS]
  split
  ·exact⟨by show(0:Int)≤(k:Int);omega,by show(k:Int)≤_;omega,fun _=>Int.le_refl _⟩
  ·split
   ·exact⟨by show(0:Int)≤(k:Int);omega,by show(k:Int)≤_;omega,fun _=>Int.le_refl _⟩
   ·obtain⟨h1,h2,h3⟩:=lZ (m:=m) (l:=l) (xs:=xs) n (k+1) (dj c m l (ix xs k)).1
    exact⟨h1,by omega,fun h=>by have:=h3 h;omega⟩
theorem qT {m:ae} {fs:List fe} (hf:fs.map (·.cP)=m.funcs.map (·.cP)) {l:List Int} {xs ys:List bP} {p:Nat} (hxy:∀i,i<p→ix ys i=ix xs i):∀(n k:Nat) (c:dq),(qS m l xs n k c).2≠0→(qS m l xs n k c).1<p→qS {m with funcs:=fs} l ys n k c=qS m l xs n k c
 |0,_,_,h,_=>absurd rfl h
 |n+1,k,c,h,hp=>by
  have hb:=(lZ (m:=m) (l:=l) (xs:=xs) (n+1) k c).2.2 h
  have hk:ix ys k=ix xs k:=hxy k Hb
  rw[qS]at h hp ⊢
  rw[qS,hk,rA hf]
  by_cases h1:(dj c m l (ix xs k)).2≠0
  ·rw[if_pos h1,if_pos h1]
  ·rw[if_neg h1]at h hp ⊢
   rw[if_neg h1]
   by_cases h2:cB (dj c m l (ix xs k)).1.aG=true
   ·rw[if_pos h2,if_pos h2]
   ·rw[if_neg h2]at h hp ⊢
    rw[if_neg h2]
    exact qT hf hxy n (k+1) _ h hp
def jg (c:fe) (p:Nat) (x:bP):fe:=⟨c.cP,c.locals,c.body.set p x⟩
def fu (m:ae) (j p:Nat) (x:bP):ae:={m with funcs:=m.funcs.set j (jg (ix m.funcs j) p x)}
theorem mc {α:Type} [Inhabited α] {l:List α} {j i:Nat} {a:α} (hj:j<l.length):ix (l.set j a) i=if i=j then a else ix l i:=by
 unfold ix
 rw[List.getD_eq_getElem?_getD,List.getD_eq_getElem?_getD,List.getElem?_set]
 by_cases h:j=i
 ·subst h;rw[if_pos rfl,if_pos hj,if_pos rfl];rfl
 ·rw[if_neg h,if_neg (fun e=>h e.symm)]
theorem sE {m:ae} {j p:Nat} {x:bP} (hj:j<m.funcs.length):(m.funcs.set j (jg (ix m.funcs j) p x)).map (·.cP)=m.funcs.map (·.cP):=by
 rw[List.map_set]
 show(m.funcs.map (·.cP)).set j (ix m.funcs j).cP=_
 rw[cw hj]
 apply List.ext_getElem?
 intro i
 rw[List.getElem?_set]
 by_cases h:j=i
 ·subst h;simp[hj]
 ·rw[if_neg h]
theorem zQ {m:ae} {j p:Nat} {x:bP} (hj:j<m.funcs.length) (hp:p<(ix m.funcs j).body.length) (h0:(m5 m j).2≠0) (h3:(m5 m j).2≠3) (h16:(m5 m j).2≠16) (h6:(m5 m j).2≠6) (hat:(m5 m j).1<p) (hw:nb (ix (ix m.funcs j).body p).op=false) (hx:nb x.op=false):m5 (fu m j p x) j=m5 m j:=by
 have hix:ix (fu m j p x).funcs j=jg (ix m.funcs j) p x:=by
  show ix (m.funcs.set j _) j=_
  rw[mc hj,if_pos rfl]
 have hlen:(fu m j p x).funcs.length=m.funcs.length:=by show(m.funcs.set j _).length=_;rw[List.length_set]
 have hty:kB (fu m j p x) j=kB m j:=by
  rw[oB (by rw[hlen];exact hj),oB hj,hix];rfl
 have hsame:jP ((ix m.funcs j).body.set p x) (ix m.funcs j).body:=⟨List.length_set ..,fun i=>by
  rw[mc hp]
  by_cases e:i=p
  ·subst e;rw[if_pos rfl];exact .inr ⟨hx,hw⟩
  ·rw[if_neg e];exact .inl rfl⟩
 unfold m5 at h0 h3 h16 h6 hat ⊢
 rw[hty,Int.toNat_natCast,hix]
 rw[Int.toNat_natCast]at h0 h3 h16 h6 hat
 cases ht:kB m j with
 |none=>rfl
 |some f=>
  rw[ht]at h0 h3 h16 h6 hat
  dsimp only at h0 h3 h16 h6 hat ⊢
  have hck:du (jg (ix m.funcs j) p x).body=du (ix m.funcs j).body:=tm hsame
  rw[hck]
  by_cases hc:(du (ix m.funcs j).body).2≠0
  ·rw[if_pos hc]at h3 h16 h6
   exfalso
   rcases(gQ (xs:=(ix m.funcs j).body) (ix m.funcs j).body.length 0).1 with e|e|e|e
   ·exact hc e
   ·exact h3 e
   ·exact h16 e
   ·exact h6 e
  ·rw[if_neg hc]at h0 hat ⊢
   rw[if_neg hc]
   have hloc:kL (fu m j p x) j f=kL m j f:=by unfold kL;rw[Int.toNat_natCast,hix];rfl
   rw[hloc,show(jg (ix m.funcs j) p x).body.length=(ix m.funcs j).body.length from List.length_set ..]
   exact qT (sE hj) (p:=p) (fun i hi=>by show ix ((ix m.funcs j).body.set p x) i=_;rw[mc hp,if_neg Hb]) _ _ _ h0 hat
theorem uE (m:ae) (i:Int):0≤(m5 m i).1∧(m5 m i).1≤(ix m.funcs i.toNat).body.length:=by
 unfold m5
 cases kB m i with
 |none=>exact⟨Int.le_refl 0,by show(0:Int)≤_;omega⟩
 |some f=>
  dsimp only
  split
  ·have:=gQ (xs:=(ix m.funcs i.toNat).body) (ix m.funcs i.toNat).body.length 0
   unfold du
   exact⟨this.2.1,by omega⟩
  ·have:=lZ (m:=m) (l:=kL m i f) (xs:=(ix m.funcs i.toNat).body) (ix m.funcs i.toNat).body.length 0 (iB f.results)
   exact⟨this.1,by omega⟩
theorem sI {m:ae} {j:Nat} {l:List (Bool×List Int)} (h:gR m j=some l):l.length=(ix m.funcs j).body.length∧0<l.length∧ix l 0=(true,[]):=by
 unfold gR at h
 split at h
 ·rename_i he
  cases h
  unfold m5 at he
  unfold zR
  cases ht:kB m j with
  |none=>rw[ht]at he;cases he
  |some f=>
   rw[ht]at he
   dsimp only at he ⊢
   rw[Int.toNat_natCast]at he ⊢
   by_cases hc:(du (ix m.funcs j).body).2≠0
   ·rw[if_pos hc]at he;exact absurd he hc
   ·cases hb:(ix m.funcs j).body with
    |nil=>rw[hb]at hc;exact absurd uG (by intro e;rw[e]at hc;exact hc Ha)
    |cons a r=>
     exact⟨lj _ _ _,by rw[lj];exact Nat.succ_pos _,rfl⟩
 ·cases h
theorem yZ {w:World} {B T s n c g:Nat} {xs:List Value} (h:w.ownsRow B T s (.slice (some ⟨g,0,none⟩) n c) n xs):∃full,dZ w g full T∧full.take (n*s)=xs∧n*s≤full.length:=by
 obtain⟨-,h|⟨g',cap,cur,e,-,hh,h1,-,h3,h4⟩⟩:=h
 ·cases h.1
 ·cases e
  refine⟨cur.toList,by unfold dZ;rw[Array.toArray_toList];exact hh,h4,?_⟩
  rw[Array.length_toList,h3]
  exact Nat.mul_le_mul_right s h1
section
variable {n:Nat} {E:Env} {M:List aV} {R:List (World→Prop)} {v:Value} {x y:Operand} {t:TypeId} {ops:Array Oper} {Q:Exit→Act→World→Prop} {l:List Oper}
theorem aa.yY {B T s m c g:Nat} {xs:List Value} {Mf:List Value→List aV} (hM:∀full,Up (.own B T s (.slice (some ⟨g,0,none⟩) m c) m xs) (.aJ g full T) M (Mf full)) (h:∀full,full.take (m*s)=xs→m*s≤full.length→aa ops Q n l E (Mf full) R):aa ops Q n l E M R:=
 ⟨fun w hw=>by
  obtain⟨full,h1,h2,h3⟩:=yZ (show w.ownsRow B T s (.slice (some ⟨g,0,none⟩) m c) m xs from(hw.m _ (hM []).mem).1)
  refine(h full h2 h3).h w (hw.nL (hM full) (bA.refl _ w) h1 (fun k hk=>?_))
  have hk':k=g:=hk
  subst hk'
  exact⟨h1.lt,fun _=>rfl⟩⟩
theorem gj.zx {ti:TI} {b j T:Nat} {old:List Value} (cs:List Value) (ht:G.ty t=some ti) (hx:ev E x=some (.pointer (some ⟨b,j,none⟩))) (hy:ev E y=some v) (hcs:v.cells=cs.toArray) (hs:ti.size=cs.length) (hv:(cs.all fun u=>u.oneCell')=true)
  {M':List aV} (hM:Up (.aJ b old T) (.aJ b (old.take j++cs++old.drop (j+cs.length)) T) M M') (hl:j+cs.length≤old.length):gj n (.store t x y) E M R (fun _:Unit=>True) (fun _=>M') (fun _=>R):=
 ⟨fun _w hw=>(bB.B9 ht hx hy hcs hs (fun u hu=>List.all_eq_true.1 hv u hu) (hw.m _ hM.mem).1 hl rfl).mono fun _ _w' ⟨hb,hc,_⟩=>⟨(),trivial,rG hw hM hb hc⟩⟩
end
section
variable {n:Nat} {E:Env} {M:List aV} {R:List (World→Prop)} {x y:Operand} {t t2:TypeId} {C:World→Prop}
theorem Yl.DL {k:IntKind} {p q:Int} (a b:Nat) (hx:ev E x=some (.int k p)) (hy:ev E y=some (.int k q)) (hp:p=(a:Int)) (hq:q=(b:Int)) (hb:0<b):Yl G n (.binOp .rem t x y t2) E C (.int k ((a % b:Nat):Int)):=Yl.bin hx hy (fun w=>by
 have h0:¬q=0:=by omega
 simp only[binOp,Op.intDiv,h0,if_false]
 rw[hp,hq,←Int.ofNat_tmod];simp)
theorem Yl.BR {ti:TI} {B T g m cap i s o:Nat} {xs:List Value} {u:Value} (ht:G.ty t=some ti) (ha:ti.agg=false) (hx:ev E x=some (.pointer (some ⟨g,o,none⟩))) (ho:o=i) (hu:xs[i]?=some u) (hM:aV.own B T s (.slice (some ⟨g,0,none⟩) m cap) m xs∈M):Yl G n (.load t x) E (Ok M R) u:=
 Yl.load ht ha hx fun w hw=>by subst ho;exact dL (hw.m _ hM).1 hu
end
def n7 (f:Nat→List Value) (n:Nat):List Value:=(List.range n).flatMap f
theorem pC {f:Nat→List Value} {s:Nat} (hs:∀i,(f i).length=s) (n:Nat):(n7 f n).length=n*s:=by
 unfold n7;rw[fP f hs,List.length_range]
theorem pB {f:Nat→List Value} {s n i j:Nat} (hs:∀i,(f i).length=s) (hi:i<n) (hj:j<s):(n7 f n)[i*s+j]?=(f i)[j]?:=by
 unfold n7
 rw[eT f hs (List.range n) i j G4 hj,cw G4]
 simp
theorem zo {α:Type} [Inhabited α] {s n b o:Nat} {w:World} {P:Nat→List Value→Prop} (h:∀i,i<n→∃cs:List Value,cs.length=s∧P i cs∧∀j,j<s→w.cell? ⟨b,o+i*s+j,none⟩=cs[j]?) (h0:0<s):
  ∃f:Nat→List Value,(∀i,(f i).length=s)∧(∀i,i<n→P i (f i))∧∀j u,(n7 f n)[j]?=some u→w.cell? ⟨b,o+j,none⟩=some u:=by
 have h1:∀i,∃cs:List Value,cs.length=s∧(i<n→P i cs∧∀j,j<s→w.cell? ⟨b,o+i*s+j,none⟩=cs[j]?):=fun i=>by
  by_cases hi:i<n
  ·obtain⟨cs,a,b,c⟩:=h i hi;exact⟨cs,a,fun _=>⟨b,c⟩⟩
  ·exact⟨List.replicate s undef,List.length_replicate ..,fun e=>absurd e hi⟩
 obtain⟨f,hf⟩:=Classical.axiomOfChoice h1
 refine⟨f,fun i=>(hf i).1,fun i hi=>((hf i).2 hi).1,fun j u hj=>?_⟩
 have hlt:j<n*s:=by rw[←pC (fun i=>(hf i).1) n];exact(List.getElem?_eq_some_iff.1 hj).1
 have hi:j / s<n:=Nat.div_lt_of_lt_mul (by rw[Nat.mul_comm];exact hlt)
 have hr:j % s<s:=Nat.mod_lt _ h0
 have ej:j=j / s*s+j % s:=by rw[Nat.mul_comm];exact(Nat.div_add_mod j s).symm
 have h2:=((hf (j / s)).2 hi).2 (j % s) hr
 rw[←pB (fun i=>(hf i).1) hi hr,←ej,hj,Nat.add_assoc,←ej]at h2
 exact h2
theorem vX {full vs:List Value} {f:Nat→List Value} {n s p:Nat} (hs:∀i,(f i).length=s) (hf:full.take (n*s)=n7 f n) (hl:n*s≤full.length) (hp:p<n) (hv:vs.length=s):∀i,i<n→∀j,j<s→(full.take (p*s)++vs++full.drop (p*s+vs.length))[i*s+j]?=(if i=p then vs else f i)[j]?:=fun i hi j hj=>by
 have hq:∀i,i<n→i*s+j<n*s:=fun i hi=>by
  have:=Nat.mul_le_mul_right s (show i+1≤n from hi)
  rw[Nat.succ_mul]at this;omega
 have hg:∀i,i<n→full[i*s+j]?=(f i)[j]?:=fun i hi=>by
  rw[←pB hs hi hj,←hf,List.getElem?_take,if_pos (hq i hi)]
 have hpn:=hq p hp
 have htl:(full.take (p*s)).length=p*s:=by rw[List.length_take];omega
 rcases Nat.lt_trichotomy i p with h|h|h
 ·have hm:=Nat.mul_le_mul_right s (show i+1≤p from h)
  rw[Nat.succ_mul]at hm
  rw[if_neg Hb,List.append_assoc,List.getElem?_append_left Hb,List.getElem?_take,if_pos Hb]
  exact hg i hi
 ·subst h
  rw[if_pos rfl,List.getElem?_append_left (by rw[List.length_append];omega),List.getElem?_append_right Hb,htl,Nat.add_sub_cancel_left]
 ·have hm:=Nat.mul_le_mul_right s (show p+1≤i from h)
  rw[Nat.succ_mul]at hm
  rw[if_neg Hb,List.getElem?_append_right (by rw[List.length_append];omega),List.length_append,htl,List.getElem?_drop,←hg i hi]
  congr 1;omega
def ny (w:World) (cs:List Value) (x:bP):Prop:=∃pt ct pl cl,cs=wV x (.slice pt x.types.length ct) (.slice pl x.labels.length cl)∧Bj w x (.slice pt x.types.length ct) (.slice pl x.labels.length cl)
theorem ny.ext {w w':World} {cs:List Value} {x:bP} (h:ny w cs x) (hx:Ext w w'):ny w' cs x:=by
 obtain⟨pt,ct,pl,cl,e,hi⟩:=h;exact⟨pt,ct,pl,cl,e,hi.ext hx⟩
theorem ny.one {w:World} {cs:List Value} {x:bP} (h:ny w cs x):∀u∈cs,u.oneCell'=true:=by
 obtain⟨pt,ct,pl,cl,rfl,-⟩:=h
 intro u hu
 simp only[wV,List.mem_cons,List.not_mem_nil,or_false]at hu
 rcases hu with rfl|rfl|rfl|rfl|rfl|rfl|rfl|rfl|rfl<;>rfl
theorem ym {w:World} {p:Option Addr} {c:Nat} {xs:List bP} (h:dN (fun _=>True) w (.slice p xs.length c) xs):∃f:Nat→List Value,(∀i,(f i).length=9)∧(∀i,i<xs.length→ny w (f i) (ix xs i))∧(xs.length=0∨∃bk o,p=some ⟨bk,o,none⟩∧∀j u,(n7 f xs.length)[j]?=some u→w.cell? ⟨bk,o+j,none⟩=some u):=by
 by_cases h0:xs.length=0
 ·exact⟨fun _=>List.replicate 9 undef,fun _=>rfl,fun i hi=>by omega,.inl h0⟩
 ·obtain⟨b,o,rfl,-,hins⟩:=h.at (i:=0) Hb
  obtain⟨f,h1,h2,h3⟩:=zo (α:=bP) (s:=9) (n:=xs.length) (b:=b) (o:=o) (w:=w) (P:=fun i cs=>ny w cs (ix xs i)) (fun i hi=>by
   obtain⟨pt,ct,pl,cl,a,b,c⟩:=(hins i hi).cells
   exact⟨_,rfl,⟨pt,ct,pl,cl,rfl,a,b,(hins i hi).DM,(hins i hi).ra⟩,c⟩) Ha
  exact⟨f,h1,h2,.inr ⟨b,o,rfl,h3⟩⟩
theorem zn {w:World} {b T c:Nat} {full:List Value} {f:Nat→List Value} {ys:List bP} (h:dZ w b full T) (hg:∀i,i<ys.length→∀j,j<9→full[i*9+j]?=(f i)[j]?) (_hl:∀i,(f i).length=9) (hi:∀i,i<ys.length→ny w (f i) (ix ys i)) (hn:ys.length≤1000):dN (fun _=>True) w (.slice (some ⟨b,0,none⟩) ys.length c) ys:=by
 refine⟨_,c,rfl,by omega,.inr ⟨b,0,rfl,trivial,fun i hlt=>?_⟩⟩
 obtain⟨pt,ct,pl,cl,e,hv⟩:=hi i hlt
 have hc:∀j v,(wV (ix ys i) (.slice pt (ix ys i).types.length ct) (.slice pl (ix ys i).labels.length cl))[j]?=some v→w.cell? ⟨b,0+i*9+j,none⟩=some v:=fun j v hj=>by
  rw[Nat.zero_add]
  have hj9:j<9:=(List.getElem?_eq_some_iff.1 hj).1
  refine h.cell ?_
  rw[hg i hlt j hj9,e];exact hj
 exact⟨hc 0 _ rfl,hc 1 _ rfl,hc 2 _ rfl,hc 3 _ rfl,hc 4 _ rfl,hc 5 _ rfl,hc 6 _ rfl,⟨_,hc 7 _ rfl,hv.t⟩,⟨_,hc 8 _ rfl,hv.l⟩,hv.op,hv.a⟩
theorem wJ {N:Nat} {w:World} {p:Option Addr} {c:Nat} {xs:List fe} (h:fc 3 N dJ (fun _=>True) w (.slice p xs.length c) xs):∃f:Nat→List Value,(∀i,(f i).length=3)∧(∀i,i<xs.length→cg (fun _=>True) w (f i) (ix xs i))∧(xs.length=0∨∃bk o,p=some ⟨bk,o,none⟩∧∀j u,(n7 f xs.length)[j]?=some u→w.cell? ⟨bk,o+j,none⟩=some u):=by
 by_cases h0:xs.length=0
 ·exact⟨fun _=>List.replicate 3 undef,fun _=>rfl,fun i hi=>by omega,.inl h0⟩
 ·obtain⟨b,o,rfl,-,hc⟩:=h.at (i:=0) Hb
  obtain⟨f,h1,h2,h3⟩:=zo (α:=fe) (s:=3) (n:=xs.length) (b:=b) (o:=o) (w:=w) (P:=fun i cs=>cg (fun _=>True) w cs (ix xs i)) (fun i hi=>by
   obtain⟨cs,hv,hcc⟩:=hc i hi
   exact⟨cs,hv.len,hv,hcc⟩) Ha
  exact⟨f,h1,h2,.inr ⟨b,o,rfl,h3⟩⟩
theorem yu {F:Nat→Prop} {w:World} {cs:List Value} {x:fe} (h:cg F w cs x):∀u∈cs,u.oneCell'=true:=by
 obtain⟨v0,v1,rfl,h0,h1,-⟩:=h
 obtain⟨_,_,rfl,-⟩:=h0.slice
 obtain⟨_,_,rfl,-⟩:=h1.slice
 intro u hu
 simp only[List.mem_cons,List.not_mem_nil,or_false]at hu
 rcases hu with rfl|rfl|rfl<;>rfl
theorem tQ {f:Nat→List Value} {n:Nat} (h:∀i,i<n→∀u∈f i,u.oneCell'=true):∀u∈n7 f n,u.oneCell'=true:=fun u hu=>by
 obtain⟨i,hi,h2⟩:=List.mem_flatMap.1 hu
 exact h i (List.mem_range.1 hi) u h2
theorem xA {w:World} {b T c:Nat} {full:List Value} {f:Nat→List Value} {ys:List fe} (h:dZ w b full T) (hg:∀i,i<ys.length→∀j,j<3→full[i*3+j]?=(f i)[j]?) (hi:∀i,i<ys.length→cg (fun _=>True) w (f i) (ix ys i)) (hn:ys.length≤1000):fc 3 2513169434843 dJ (fun _=>True) w (.slice (some ⟨b,0,none⟩) ys.length c) ys:=by
 refine⟨_,c,rfl,by omega,.inr ⟨b,0,rfl,trivial,fun i hlt=>⟨f i,hi i hlt,fun j hj=>?_⟩⟩⟩
 have hlen:=(hi i hlt).len
 rw[Nat.zero_add,List.getElem?_eq_getElem Hb]
 refine h.cell ?_
 rw[hg i hlt j hj,List.getElem?_eq_getElem Hb]
theorem nD (op:Int) (w:World):Calls G.P 19 #[.int .i64 op] w fun e w'=>e=.returned (.bool (nb op))∧Ext w w':=by
 refine aj (l:=[_]) Tryz.func19 rfl Tryz.ntmps19 rfl (Ok.start w) ?_
 have e:nb op=decide (op=2∨op=3∨op=4∨op=5∨op=11):=by
  rw[Bool.eq_iff_iff,decide_eq_true_eq]
  simp only[nb,Bool.or_eq_true,beq_iff_eq]
  omega
 rw[e]
 clear e
 repeat'(first|refine ax ?_|(refine aO ?_ ?_<;>intro hc_))
 all_goals refine ai.aA rfl rfl fun w' hw'=>⟨?_,hw'.at⟩
 all_goals first|(rw[decide_eq_true (show op=2∨op=3∨op=4∨op=5∨op=11 by omega)];done)|(congr 2;exact decide_eq_decide.2 Hb)
theorem vw {m:ae} (h:uz m) (i:Int):((gR m i).getD []).length≤400:=by
 unfold gR
 by_cases he:(m5 m i).2=0
 ·rw[if_pos he]
  show(zR m i).length≤400
  unfold zR
  cases ht:kB m i with
  |none=>exact Nat.zero_le _
  |some f=>
   obtain⟨-,j,rfl,hj⟩:=pW ht
   show(xU _ _ _ _ _ _).length≤400
   rw[lj]
   exact h.len j hj
 ·rw[if_neg he];exact Nat.zero_le _
end Go.Proofs.YtceedealggognaaGreatDoor
