/- Layer 24: the reference's check of a body. -/
import Derived.Test.YtceedealggognaaGreatDoorJBe
import Derived.Test.YtceedealggognaaGreatDoorJM4
import Derived.Test.YtceedealggognaaGreatDoorJAr
import Derived.Test.YtceedealggognaaGreatDoorJVcBodyNone
namespace Go.Proofs.YtceedealggognaaGreatDoor
open Go.RowKit
set_option maxRecDepth 100000
theorem aP.mH {Q:Exit→Act→World→Prop} {n:Nat} {c:Code} {E:Env} {M:List aU} {R:List (World→Prop)} (h:∀w1,Ok M R w1→aP Q n c E [] [Ext w1]):aP Q n c E M R:=⟨fun w1 hw=>(h w1 hw).h w1 (Ok.start w1)⟩
theorem aa.mH {ops:Array Oper} {Q:Exit→Act→World→Prop} {n:Nat} {l:List Oper} {E:Env} {M:List aU} {R:List (World→Prop)} (h:∀w1,Ok M R w1→aa ops Q n l E [] [Ext w1]):aa ops Q n l E M R:=⟨fun w1 hw=>(h w1 hw).h w1 (Ok.start w1)⟩
theorem eA.BP {w:World} {b T s:Nat} {cs:List Value} (h:eA w b cs T) (hs:cs.length=s):∀j,j<s→w.cell? ⟨b,0+j,none⟩=cs[j]?:=fun j hj=>by
 rw[Nat.zero_add,List.getElem?_eq_getElem FY]
 exact h.cell (List.getElem?_eq_getElem FY)
abbrev Am:Nat:=76
def ki:ph (Bool×List Int):=fun F w b o x=>∃p c,w.cell? ⟨b,o,none⟩=some (.bool x.1)∧w.cell? ⟨b,o+1,none⟩=some (.slice p x.2.length c)∧af F w (.slice p x.2.length c) x.2
theorem ki.fr:Fr ki:=fun⟨p,c,h1,h2,h3⟩ hc hF hd=>⟨p,c,hc.cell (hd _ (dQ h1) hF) h1,hc.cell (hd _ (dQ h2) hF) h2,h3.aB hc hd⟩
theorem ki.ce:Ce ki:=fun⟨_,_,h1,_⟩=>dQ h1
theorem ki.mo:Mo ki:=fun⟨p,c,h1,h2,h3⟩ hd=>⟨p,c,h1,h2,h3.mono hd⟩
abbrev fh (F:Nat→Prop) (w:World) (v:Value) (l:List (Bool×List Int)):Prop:=fc 2 1000000 ki F w v l
theorem fh.aB {F S:Nat→Prop} {w w':World} {v:Value} {l:List (Bool×List Int)} (h:fh F w v l) (hc:bz S w w') (hd:∀k,k<w.heap.size→F k→¬S k):fh F w' v l:=fc.aB ki.fr ki.ce h hc hd
theorem fh.ext {F:Nat→Prop} {w w':World} {v:Value} {l:List (Bool×List Int)} (h:fh F w v l) (hc:Ext w w'):fh F w' v l:=h.aB hc (fun _ _ _ h=>h)
theorem rV {B T:Nat} {D F:Nat→Prop} {w:World} {lv:Value} {tc:List Value} {l:List (Bool×List Int)} (h:w.ownsRow B T 2 lv l.length tc) (hs:cG D w (tc,l)) (hl:l.length≤1000000) (hF:∀k,B≤k→F k) (hD:∀k,D k→F k):fh F w lv l:=by
 obtain⟨p,c,rfl,_,_,hg⟩:=au h
 refine⟨p,c,rfl,hl,?_⟩
 by_cases h0:l.length=0
 ·exact .inl (List.eq_nil_of_length_eq_zero h0)
 obtain⟨g,rfl,hgB,-⟩:=hg FY
 refine .inr ⟨g,0,rfl,hF g hgB,fun i hi=>?_⟩
 obtain⟨p',c',e1,e2,e3⟩:=hs.2 i hi
 dsimp only at e1 e2 e3
 rw[Nat.zero_add]
 exact⟨p',c',dJ h e1,dJ h e2,e3.mono fun k _ hk=>hD k hk⟩
theorem um {α:Type} [Inhabited α] {xs ys:List α} {j:Nat} (hx:j<xs.length) (hy:j<ys.length) (h:xs.take j=ys.take j):xs.take (j+1)=ys.take (j+1)↔ix xs j=ix ys j:=by
 rw[bu hx,bu hy,h]
 constructor
 ·intro h;simpa using h
 ·intro h;rw[h]
set_option maxHeartbeats 8000000 in
theorem ud (F F':Nat→Prop) (a b:List (Bool×List Int)) (v u:Value) (w:World) (h:fh F w v a) (h':fh F' w u b):Calls G.P 16 #[v,u] w fun e w'=>e=.returned (.bool (decide (a=b)))∧Ext w w':=by
 obtain⟨p,c,rfl,hl⟩:=h.slice
 obtain⟨q,d,rfl,hl'⟩:=h'.slice
 refine aj (l:=[_,_]) Tryz.func16 rfl Tryz.ntmps16 rfl (Ok.start w) ?_
 by_cases hlen:a.length=b.length
 ·repeat'(first|refine ay ?_|fail)
  all_goals first|omega|skip
  refine aP.loop (σ:=Nat) (fun j=>[(0,.slice p a.length c),(1,.slice q b.length d),(5,.int .i64 j)]) (fun _=>[]) (fun _=>[Ext w]) (fun j=>j≤a.length∧a.take j=b.take j) (fun j=>a.length - j) 0 bP bN aX ⟨by omega,by simp⟩ ?_
  rintro j ⟨hj,heq⟩
  by_cases hjl:j<a.length
  ·obtain⟨b7,o7,rfl,-,hc⟩:=h.at hjl
   obtain⟨b8,o8,rfl,-,hc'⟩:=h'.at (show j<b.length by omega)
   have hst:=um hjl (show j<b.length by omega) heq
   obtain⟨px,cx,hcx,hcx2,hIx⟩:=hc j hjl
   obtain⟨py,cy,hcy,hcy2,hIy⟩:=hc' j FY
   obtain⟨x,hx⟩:∃x,ix a j=x:=⟨_,rfl⟩
   obtain⟨y,hy⟩:∃y,ix b j=y:=⟨_,rfl⟩
   rw[hx]at hcx hcx2 hIx hst
   rw[hy]at hcy hcy2 hIy hst
   obtain⟨x1,xl⟩:=x
   obtain⟨y1,yl⟩:=y
   dsimp only at hcx hcx2 hIx hcy hcy2 hIy
   by_cases he1:x1=y1
   ·subst he1
    by_cases he:xl=yl
    ·subst he
     cases x1
     all_goals
      repeat'(first|refine ay ?_|fail)
      refine Ez ?_
      refine dr ?_
      refine ah.mE (v:=.bool true) rfl rfl rfl rfl (fun w' hw'=>by have:=oI F F' xl xl (.slice px xl.length cx) (.slice py xl.length cy) w' (hIx.aB (show Ext w w' from hw'.at) (fun _ _ _ h=>h)) (hIy.aB (show Ext w w' from hw'.at) (fun _ _ _ h=>h));rw[decide_eq_true rfl]at this;exact this) ?_
      refine dr ?_
      repeat'(first|refine ay ?_|fail)
      all_goals exact ai.next (j+1) bP bN aX ⟨by omega,hst.2 rfl⟩ FY
    ·have hne:¬a=b:=fun e=>he (by have:ix a j=ix b j:=(by rw[e]);rw[hx,hy]at this;cases this;rfl)
     rw[decide_eq_false hne]
     cases x1
     all_goals
      repeat'(first|refine ay ?_|fail)
      refine Ez ?_
      refine dr ?_
      refine ah.mE (v:=.bool false) rfl rfl rfl rfl (fun w' hw'=>by have:=oI F F' xl yl (.slice px xl.length cx) (.slice py yl.length cy) w' (hIx.aB (show Ext w w' from hw'.at) (fun _ _ _ h=>h)) (hIy.aB (show Ext w w' from hw'.at) (fun _ _ _ h=>h));rw[decide_eq_false he]at this;exact this) ?_
      refine dr ?_
      repeat'(first|refine ay ?_|fail)
      all_goals exact bi
   ·have hne:¬a=b:=fun e=>he1 (by have:ix a j=ix b j:=(by rw[e]);rw[hx,hy]at this;cases this;rfl)
    rw[decide_eq_false hne]
    cases x1<;>cases y1
    all_goals first|exact absurd rfl he1|skip
    all_goals
     repeat'(first|refine ay ?_|fail)
     refine Ez ?_
     refine dr ?_
     repeat'(first|refine ay ?_|fail)
     all_goals exact bi
  ·obtain rfl:j=a.length:=by omega
   rw[List.take_length,hlen,List.take_length]at heq
   repeat'(first|refine ay ?_|fail)
   all_goals exact am
 ·repeat'(first|refine ay ?_|fail)
  all_goals exact ap
set_option maxHeartbeats 8000000 in
theorem tP (F:Nat→Prop) (l:List (Bool×List Int)) (v:Value) (w:World) (h:fh F w v l):Calls G.P 17 #[v] w (eU (fun D w u=>fh D w u l) (fun u:Value=>u) F w):=by
 obtain⟨p,c,rfl,hl⟩:=h.slice
 refine aj (l:=[_]) Tryz.func17 rfl Tryz.ntmps17 rfl (Ok.start w) ?_
 repeat'(first|refine ay ?_|fail)
 refine aP.ia w.heap.size Am 2 ?_
 refine aP.loop (σ:=Nat×Value×List Value) (fun s=>[(0,.slice p l.length c),(3,s.2.1),(4,.int .i64 s.1)]) (fun s=>[.own w.heap.size Am 2 s.2.1 s.1 s.2.2]) (fun _=>[Ext w]) (fun s=>s.1≤l.length∧cG F w (s.2.2,l.take s.1)) (fun s=>l.length - s.1) (0,.slice none 0 0,[]) bP bN aX ⟨Nat.zero_le _,cG.nil _ _⟩ ?_
 rintro⟨j,ov,tc⟩ ⟨hj,hst⟩
 dsimp only at hj hst ⊢
 by_cases hjl:j<l.length
 ·obtain⟨b7,o7,rfl,-,hc⟩:=h.at hjl
  obtain⟨px,cx,hcx,hcx2,hIx⟩:=hc j hjl
  have hnx:cG F w (tc++[.bool (ix l j).1,.slice px (ix l j).2.length cx],l.take (j+1)):=by
   rw[bu hjl]
   exact(cG.snoc hst hIx).mono fun _ h=>h.elim id id
  repeat'(first|refine ay ?_|fail)
  refine aP.du [] [Ext w] bN aX ?_
  repeat'(first|refine tx ?_|(refine aK.vL ?_;refine aK.he rfl rfl (HE.mq rfl rfl rfl rfl rfl fS F0 F0) (fun _=>bN) (fun _=>aX) ?_;rintro b3 _)|(refine aK.vK ?_;refine aK.he rfl rfl (HE.app rfl rfl (fun _=>bM) bM rfl rfl rfl F0 F0 F0 F0 F0 F0 FY wI) (fun _=>bN) (fun _=>aX) ?_;rintro v2 _)|refine aN.nil FR ?_|refine aN.any FR ?_|exact aE.fin rfl|refine aE.skip FR ?_|refine aE.go ?_ ?_)
  all_goals repeat'(first|refine ay ?_|fail)
  all_goals exact ai.next (j+1,v2,tc++[.bool (ix l j).1,.slice px (ix l j).2.length cx]) bP bN aX ⟨by show j+1≤_;omega,hnx⟩ (by show l.length - (j+1)<l.length - j;omega)
 ·obtain rfl:j=l.length:=by omega
  rw[List.take_length]at hst
  repeat'(first|refine ay ?_|fail)
  all_goals exact ai.aA rfl rfl fun w' hw'=>⟨⟨ov,rfl,rV (F:=fun k=>F k∨w.heap.size≤k) (hw'.m (.own w.heap.size Am 2 ov l.length tc) gG).1 (cG.fr hst (show Ext w w' from hw'.at) (fun _ _ _ h=>h)) hl (fun _ h=>.inr h) (fun _ h=>.inl h)⟩,hw'.at⟩
def nf (k:Int):bZ:=⟨k,0,0,0,0,0,0,[],[]⟩
def xU (k:Int):List Value:=[.int .i64 k,.int .i64 0,.int .i64 0,.int .u64 0,.int .i64 0,.int .i64 0,.int .i64 0,.slice none 0 0,.slice none 0 0]
theorem oD {w:World} {b T:Nat} (ks:List Int) (h:eA w b (ks.flatMap xU) T) (hk:∀k∈ks,0≤k∧k≤1000000) (hl:ks.length≤1000) {F:Nat→Prop} (hF:F b):ed F w (.slice (some ⟨b,0,none⟩) ks.length ks.length) (ks.map nf):=by
 refine⟨_,_,by rw[List.length_map],by rw[List.length_map];omega,.inr ⟨b,0,rfl,hF,fun i hi=>?_⟩⟩
 rw[List.length_map]at hi
 have hi2:ix (ks.map nf) i=nf (ix ks i):=by rw[cI (by simpa using hi),cI hi,List.getElem_map]
 have hc:∀j,j<9→w.cell? ⟨b,0+i*9+j,none⟩=(xU (ix ks i))[j]?:=fun j hj=>by
  have h1:=fE xU (fun _=>rfl) ks i j hi hj
  have h2:(xU (ix ks i))[j]?=some (xU (ix ks i))[j]:=List.getElem?_eq_getElem hj
  rw[h2]at h1
  rw[h2,Nat.zero_add]
  exact h.cell h1
 rw[hi2]
 exact⟨hc 0 FY,hc 1 FY,hc 2 FY,hc 3 FY,hc 4 FY,hc 5 FY,hc 6 FY,⟨_,hc 7 FY,af.eB _ _⟩,⟨_,hc 8 FY,af.eB _ _⟩,by have:=hk _ (AI hi);show gJ (ix ks i);unfold gJ;omega,by show gJ 0;unfold gJ;omega⟩
def vW (f:aC) (xs:List bZ):ae:=⟨[f],[],[⟨0,[],xs⟩],[],[],[],[],false,0,[],[],[]⟩
theorem Ak.AB (m:ae):Aj (fun D w cs=>aD D w cs m):=fun h hc hd=>h.aB hc hd
theorem mF (F:Nat→Prop) (f:aC) (xs:List bZ) (p q bp:Option Addr) (c d bc:Nat) (w:World) (hf:eO f F w (.slice p f.params.length c,.slice q f.results.length d)) (hb:ed F w (.slice bp xs.length bc) xs):Calls G.P 20 #[.agg #[.slice p f.params.length c,.slice q f.results.length d],.slice bp xs.length bc] w (eU (fun D w cs=>aD D w cs (vW f xs)) (fun cs:List Value=>.agg cs.toArray) F w):=by
 refine aj (l:=[_,_]) Tryz.func20 rfl Tryz.ntmps20 rfl (Ok.start w) ?_
 repeat'(first|refine ay ?_|(refine br fun b_=>?_)|(refine aa.gn (t:=jD) ?_;refine aa.alloc (t:=jD) [.slice none 0 0,.slice none 0 0,.slice none 0 0,.slice none 0 0,.slice none 0 0,.slice none 0 0,.slice none 0 0,.bool false,.int .i64 0,.slice none 0 0,.slice none 0 0,.slice none 0 0] rfl rfl rfl fun b_=>?_)|fail)
 refine EC ?_
 intro k1 _
 repeat'(first|refine ay ?_|fail)
 refine EC ?_
 intro k2 _
 repeat'(first|refine ay ?_|fail)
 refine ai.fw (.inl rfl) rfl rfl rfl rfl rfl bM rfl ?_
 intro w' hw'
 have hx:Ext w w':=hw'.at
 obtain⟨B1,n1⟩:=hw'.ow (b:=k1) (w0:=w) ao gG
 obtain⟨B2,n2⟩:=hw'.ow (b:=k2) (w0:=w) ao gG
 refine⟨⟨_,rfl,_,_,_,_,_,_,_,_,_,_,rfl,⟨_,_,rfl,by show(1:Nat)≤_;omega,.inr ⟨k1,0,rfl,.inr n1,fun i hi=>?_⟩⟩,fc.nil,⟨_,_,rfl,by show(1:Nat)≤_;omega,.inr ⟨k2,0,rfl,.inr n2,fun i hi=>?_⟩⟩,fc.nil,fc.nil,fc.nil,fc.nil,fc.nil,fc.nil,fc.nil,by show gJ 0;unfold gJ;omega⟩,hx⟩
 ·obtain rfl:i=0:=by have:i<1:=hi;omega
  exact⟨[.slice p f.params.length c,.slice q f.results.length d],⟨_,_,rfl,(hf.1.aB hx (fun _ _ _ h=>h)).mono fun _ _ h=>.inl h,(hf.2.aB hx (fun _ _ _ h=>h)).mono fun _ _ h=>.inl h⟩,sj B1 rfl⟩
 ·obtain rfl:i=0:=by have:i<1:=hi;omega
  exact⟨[.int .i64 0,.slice none 0 0,.slice bp xs.length bc],⟨_,_,rfl,af.eB _ _,(hb.aB hx (fun _ _ _ h=>h)).mono fun _ _ h=>.inl h,by show gJ 0;unfold gJ;omega⟩,sj B2 rfl⟩
def uD (m:ae) (cs:List Value):Prop:=∃p0 c0 p1 c1 p2 c2 p3 c3 p4 c4 p5 c5 p6 c6 p7 c7 p8 c8 p9 c9,cs=([Value.slice p0 m.types.length c0,Value.slice p1 m.imports.length c1,Value.slice p2 m.funcs.length c2,Value.slice p3 m.tables.length c3,Value.slice p4 m.bU.length c4,Value.slice p5 m.globals.length c5,Value.slice p6 m.aG.length c6,Value.bool m.aJ,Value.int .i64 m.start,Value.slice p7 m.elems.length c7,Value.slice p8 m.aW.length c8,Value.slice p9 m.bI.length c9]:List Value)
theorem aD.sh {F:Nat→Prop} {w:World} {cs:List Value} {m:ae} (h:aD F w cs m):uD m cs:=by
 obtain⟨v0,v1,v2,v3,v4,v5,v6,v7,v8,v9,rfl,r0,r1,r2,r3,r4,r5,r6,r7,r8,r9,g0⟩:=h
 obtain⟨p0,c0,rfl,-⟩:=r0.slice
 obtain⟨p1,c1,rfl,-⟩:=r1.slice
 obtain⟨p2,c2,rfl,-⟩:=r2.slice
 obtain⟨p3,c3,rfl,-⟩:=r3.slice
 obtain⟨p4,c4,rfl,-⟩:=r4.slice
 obtain⟨p5,c5,rfl,-⟩:=r5.slice
 obtain⟨p6,c6,rfl,-⟩:=r6.slice
 obtain⟨p7,c7,rfl,-⟩:=r7.slice
 obtain⟨p8,c8,rfl,-⟩:=r8.slice
 obtain⟨p9,c9,rfl,-⟩:=r9.slice
 exact⟨p0,c0,p1,c1,p2,c2,p3,c3,p4,c4,p5,c5,p6,c6,p7,c7,p8,c8,p9,c9,rfl⟩
theorem tS {f:aC} {xs:List bZ} (hf:f.params.length≤1048576∧f.results.length≤1048576) (hx:xs.length≤400) (hl:∀k,k<xs.length→(ix xs k).labels.length≤1048576):rJ (vW f xs):=by
 refine⟨fun g hg=>?_,fun j hj=>?_,fun j hj=>?_,fun j hj=>?_⟩
 ·rw[show(vW f xs).types=[f]from rfl,List.mem_singleton]at hg;subst hg;exact hf
 all_goals obtain rfl:j=0:=by(have:j<1:=hj);omega
 ·exact Nat.zero_le _
 ·exact hx
 ·exact hl
def fI:aC:=⟨[1],[1]⟩
def mA:ae:=vW fI ([32,11].map nf)
def mB:ae:=vW fI ([11].map nf)
def mC:ae:=vW fI ([0,11].map nf)
theorem Ck:vw mA 0=(0,0):=by kernel_rfl
theorem Cn:vw mB 0=(0,13):=by kernel_rfl
theorem Cl:rG mA 0=some [(true,[]),(true,[1])]:=by kernel_rfl
theorem Cp:rG mC 0=some [(true,[]),(false,[])]:=by kernel_rfl
theorem By:rJ mA:=tS FX FX FX
theorem Cm:rJ mB:=tS FX FX FX
theorem Co:rJ mC:=tS FX FX FX
theorem Ok.BH {M:List aU} {R:List (World→Prop)} {w:World} {T:Nat} {lv:Value} {tc:List Value} {D:Nat→Prop} {l:List (Bool×List Int)} (h:Ok (iS T lv tc D l++M) R w) (hl:l.length≤1000000):Ok M ((fun w=>fh (fun _=>True) w lv l)::R) w:=
 h.pack.freeze (p:=fun w=>fh (fun _=>True) w lv l) Rm.head (fun _w' (h:Ok _ [] _w')=>rV (h.m (.own 0 T 2 lv l.length tc) (by simp[iS])).1 (h.m (.iy cG cG.fr D (tc,l)) (by simp[iS])).1 hl (fun _ _=>trivial) (fun _ _=>trivial))
set_option maxHeartbeats 16000000 in
theorem mV (w:World) (h0:dG w):Calls G.P 8 #[] w fun e w'=>e=.returned (.bool true)∧Ext w w':=by
 refine aj (l:=[]) Tryz.func8 rfl Tryz.ntmps8 rfl (Ok.start w) ?_
 repeat'(first|refine ay ?_|fail)
 refine EC ?_
 intro k1 _
 repeat'(first|refine ay ?_|fail)
 refine EC ?_
 intro k2 _
 repeat'(first|refine ay ?_|(refine aa.gn (t:=pR) ?_;refine aa.alloc (t:=pR) [.slice none 0 0,.slice none 0 0] rfl rfl rfl fun b_=>?_)|fail)
 obtain⟨bf,rfl⟩:∃y:Nat,y=b_:=⟨_,rfl⟩
 refine EC ?_
 intro k3 _
 refine aa.mH (fun w1 hw1=>?_)
 have x1:Ext w w1:=hw1.at
 have F1:eO fI (fun k=>k<w1.heap.size) w1 (.slice (some ⟨k1,0,none⟩) 1 1,.slice (some ⟨k2,0,none⟩) 1 1):=⟨af.mono (F:=fun _=>True) (kj [1] hw1 (w0:=w) ao (hD:=fun _ _=>trivial)) (fun _ hk _=>hk),af.mono (F:=fun _=>True) (kj [1] hw1 (w0:=w) ao (hD:=fun _ _=>trivial)) (fun _ hk _=>hk)⟩
 obtain⟨hbf,-⟩:=hw1.ow (b:=bf) (w0:=w) ao gG
 have c1:=hbf.BP (s:=2) rfl
 obtain⟨hkA,-⟩:=hw1.ow (b:=k3) (w0:=w) ao gG
 have BA:ed (fun k=>k<w1.heap.size) w1 (.slice (some ⟨k3,0,none⟩) 2 2) (([32,11]:List Int).map nf):=oD [32,11] hkA FX FX hkA.lt
 refine aa.kJ (Cs bf 0 [.slice (some ⟨k1,0,none⟩) 1 1,.slice (some ⟨k2,0,none⟩) 1 1]) (lx c1 rfl ao) ?_
 refine aa.he (HE.uL (V:=fun D w (cs:List Value)=>aD D w cs mA) (tf:=fun cs=>.agg cs.toArray) (w0:=w1) (F:=fun k=>k<w1.heap.size) (Ak.AB mA) ao (fun _ h=>h) rfl rfl (fun w' hw'=>mF _ fI (([32,11]:List Int).map nf) _ _ _ _ _ _ w' (eO.fr fI F1 (show Ext w1 w' from hw'.at) (fun _ _ _ h=>h)) (BA.aB (show Ext w1 w' from hw'.at) (fun _ _ _ h=>h)))) rfl ?_
 rintro⟨D1,cs1⟩ _
 refine aa.pure (φ:=uD mA cs1) (fun w' hw'=>(hw'.get (p:=fun w=>aD D1 w cs1 mA) ao).sh) ?_
 rintro⟨a0,d0,a1,d1,a2,d2,a3,d3,a4,d4,a5,d5,a6,d6,a7,d7,a8,d8,a9,d9,rfl⟩
 dsimp only
 repeat'(first|refine ay ?_|(refine aa.gn (t:=jD) ?_;refine aa.alloc (t:=jD) [.slice none 0 0,.slice none 0 0,.slice none 0 0,.slice none 0 0,.slice none 0 0,.slice none 0 0,.slice none 0 0,.bool false,.int .i64 0,.slice none 0 0,.slice none 0 0,.slice none 0 0] rfl rfl rfl fun b_=>?_)|fail)
 obtain⟨ba,rfl⟩:∃y:Nat,y=b_:=⟨_,rfl⟩
 repeat'(first|refine ay ?_|fail)
 refine EC ?_
 intro k4 _
 refine aa.mH (fun w2 hw2=>?_)
 have x2:Ext w w2:=x1.trans (show Ext w1 w2 from hw2.at)
 have F2:eO fI (fun k=>k<w2.heap.size) w2 (.slice (some ⟨k1,0,none⟩) 1 1,.slice (some ⟨k2,0,none⟩) 1 1):=(eO.fr fI F1 (show Ext w1 w2 from hw2.at) (fun _ _ _ h=>h)).mono (fun k hk=>Nat.lt_of_lt_of_le hk (show Ext w1 w2 from hw2.at).size)
 have c2:∀j,j<2→w2.cell? ⟨bf,0+j,none⟩=([.slice (some ⟨k1,0,none⟩) 1 1,.slice (some ⟨k2,0,none⟩) 1 1]:List Value)[j]?:=fun j hj=>by have:=c1 j hj;rw[List.getElem?_eq_getElem hj]at this ⊢;exact(show Ext w1 w2 from hw2.at).cell this
 have mA2:aD (fun _=>True) w2 ([Value.slice a0 mA.types.length d0,Value.slice a1 mA.imports.length d1,Value.slice a2 mA.funcs.length d2,Value.slice a3 mA.tables.length d3,Value.slice a4 mA.bU.length d4,Value.slice a5 mA.globals.length d5,Value.slice a6 mA.aG.length d6,Value.bool mA.aJ,Value.int .i64 mA.start,Value.slice a7 mA.elems.length d7,Value.slice a8 mA.aW.length d8,Value.slice a9 mA.bI.length d9]:List Value) mA:=(hw2.get (p:=fun w=>aD D1 w ([Value.slice a0 mA.types.length d0,Value.slice a1 mA.imports.length d1,Value.slice a2 mA.funcs.length d2,Value.slice a3 mA.tables.length d3,Value.slice a4 mA.bU.length d4,Value.slice a5 mA.globals.length d5,Value.slice a6 mA.aG.length d6,Value.bool mA.aJ,Value.int .i64 mA.start,Value.slice a7 mA.elems.length d7,Value.slice a8 mA.aW.length d8,Value.slice a9 mA.bI.length d9]:List Value) mA) ao).mono (fun _ _ _=>trivial)
 obtain⟨hbA,-⟩:=hw2.ow (b:=ba) (w0:=w1) ao gG
 have cA2:=hbA.BP (s:=12) rfl
 obtain⟨hkB,-⟩:=hw2.ow (b:=k4) (w0:=w1) ao gG
 have BB:ed (fun k=>k<w2.heap.size) w2 (.slice (some ⟨k4,0,none⟩) 1 1) (([11]:List Int).map nf):=oD [11] hkB FX FX hkB.lt
 refine aa.kJ (Cs bf 0 [.slice (some ⟨k1,0,none⟩) 1 1,.slice (some ⟨k2,0,none⟩) 1 1]) (lx c2 rfl ao) ?_
 refine aa.he (HE.uL (V:=fun D w (cs:List Value)=>aD D w cs mB) (tf:=fun cs=>.agg cs.toArray) (w0:=w2) (F:=fun k=>k<w2.heap.size) (Ak.AB mB) ao (fun _ h=>h) rfl rfl (fun w' hw'=>mF _ fI (([11]:List Int).map nf) _ _ _ _ _ _ w' (eO.fr fI F2 (show Ext w2 w' from hw'.at) (fun _ _ _ h=>h)) (BB.aB (show Ext w2 w' from hw'.at) (fun _ _ _ h=>h)))) rfl ?_
 rintro⟨D2,cs2⟩ _
 refine aa.pure (φ:=uD mB cs2) (fun w' hw'=>(hw'.get (p:=fun w=>aD D2 w cs2 mB) ao).sh) ?_
 rintro⟨e0,u0,e1,u1,e2,u2,e3,u3,e4,u4,e5,u5,e6,u6,e7,u7,e8,u8,e9,u9,rfl⟩
 dsimp only
 repeat'(first|refine ay ?_|(refine aa.gn (t:=jD) ?_;refine aa.alloc (t:=jD) [.slice none 0 0,.slice none 0 0,.slice none 0 0,.slice none 0 0,.slice none 0 0,.slice none 0 0,.slice none 0 0,.bool false,.int .i64 0,.slice none 0 0,.slice none 0 0,.slice none 0 0] rfl rfl rfl fun b_=>?_)|fail)
 obtain⟨bb,rfl⟩:∃y:Nat,y=b_:=⟨_,rfl⟩
 repeat'(first|refine ay ?_|fail)
 refine EC ?_
 intro k5 _
 refine aa.mH (fun w3 hw3=>?_)
 have x3:Ext w w3:=x2.trans (show Ext w2 w3 from hw3.at)
 have F3:eO fI (fun k=>k<w3.heap.size) w3 (.slice (some ⟨k1,0,none⟩) 1 1,.slice (some ⟨k2,0,none⟩) 1 1):=(eO.fr fI F2 (show Ext w2 w3 from hw3.at) (fun _ _ _ h=>h)).mono (fun k hk=>Nat.lt_of_lt_of_le hk (show Ext w2 w3 from hw3.at).size)
 have c3:∀j,j<2→w3.cell? ⟨bf,0+j,none⟩=([.slice (some ⟨k1,0,none⟩) 1 1,.slice (some ⟨k2,0,none⟩) 1 1]:List Value)[j]?:=fun j hj=>by have:=c2 j hj;rw[List.getElem?_eq_getElem hj]at this ⊢;exact(show Ext w2 w3 from hw3.at).cell this
 have mA3:aD (fun _=>True) w3 ([Value.slice a0 mA.types.length d0,Value.slice a1 mA.imports.length d1,Value.slice a2 mA.funcs.length d2,Value.slice a3 mA.tables.length d3,Value.slice a4 mA.bU.length d4,Value.slice a5 mA.globals.length d5,Value.slice a6 mA.aG.length d6,Value.bool mA.aJ,Value.int .i64 mA.start,Value.slice a7 mA.elems.length d7,Value.slice a8 mA.aW.length d8,Value.slice a9 mA.bI.length d9]:List Value) mA:=mA2.aB (show Ext w2 w3 from hw3.at) (fun _ _ _ h=>h)
 have cA3:∀j,j<12→w3.cell? ⟨ba,0+j,none⟩=([Value.slice a0 mA.types.length d0,Value.slice a1 mA.imports.length d1,Value.slice a2 mA.funcs.length d2,Value.slice a3 mA.tables.length d3,Value.slice a4 mA.bU.length d4,Value.slice a5 mA.globals.length d5,Value.slice a6 mA.aG.length d6,Value.bool mA.aJ,Value.int .i64 mA.start,Value.slice a7 mA.elems.length d7,Value.slice a8 mA.aW.length d8,Value.slice a9 mA.bI.length d9]:List Value)[j]?:=fun j hj=>by have:=cA2 j hj;rw[List.getElem?_eq_getElem hj]at this ⊢;exact(show Ext w2 w3 from hw3.at).cell this
 have mB3:aD (fun _=>True) w3 ([Value.slice e0 mB.types.length u0,Value.slice e1 mB.imports.length u1,Value.slice e2 mB.funcs.length u2,Value.slice e3 mB.tables.length u3,Value.slice e4 mB.bU.length u4,Value.slice e5 mB.globals.length u5,Value.slice e6 mB.aG.length u6,Value.bool mB.aJ,Value.int .i64 mB.start,Value.slice e7 mB.elems.length u7,Value.slice e8 mB.aW.length u8,Value.slice e9 mB.bI.length u9]:List Value) mB:=(hw3.get (p:=fun w=>aD D2 w ([Value.slice e0 mB.types.length u0,Value.slice e1 mB.imports.length u1,Value.slice e2 mB.funcs.length u2,Value.slice e3 mB.tables.length u3,Value.slice e4 mB.bU.length u4,Value.slice e5 mB.globals.length u5,Value.slice e6 mB.aG.length u6,Value.bool mB.aJ,Value.int .i64 mB.start,Value.slice e7 mB.elems.length u7,Value.slice e8 mB.aW.length u8,Value.slice e9 mB.bI.length u9]:List Value) mB) ao).mono (fun _ _ _=>trivial)
 obtain⟨hbB,-⟩:=hw3.ow (b:=bb) (w0:=w2) ao gG
 have cB3:=hbB.BP (s:=12) rfl
 obtain⟨hkC,-⟩:=hw3.ow (b:=k5) (w0:=w2) ao gG
 have BC:ed (fun k=>k<w3.heap.size) w3 (.slice (some ⟨k5,0,none⟩) 2 2) (([0,11]:List Int).map nf):=oD [0,11] hkC FX FX hkC.lt
 refine aa.kJ (Cs bf 0 [.slice (some ⟨k1,0,none⟩) 1 1,.slice (some ⟨k2,0,none⟩) 1 1]) (lx c3 rfl ao) ?_
 refine aa.he (HE.uL (V:=fun D w (cs:List Value)=>aD D w cs mC) (tf:=fun cs=>.agg cs.toArray) (w0:=w3) (F:=fun k=>k<w3.heap.size) (Ak.AB mC) ao (fun _ h=>h) rfl rfl (fun w' hw'=>mF _ fI (([0,11]:List Int).map nf) _ _ _ _ _ _ w' (eO.fr fI F3 (show Ext w3 w' from hw'.at) (fun _ _ _ h=>h)) (BC.aB (show Ext w3 w' from hw'.at) (fun _ _ _ h=>h)))) rfl ?_
 rintro⟨D3,cs3⟩ _
 refine aa.pure (φ:=uD mC cs3) (fun w' hw'=>(hw'.get (p:=fun w=>aD D3 w cs3 mC) ao).sh) ?_
 rintro⟨i0,j0,i1,j1,i2,j2,i3,j3,i4,j4,i5,j5,i6,j6,i7,j7,i8,j8,i9,j9,rfl⟩
 dsimp only
 repeat'(first|refine ay ?_|(refine aa.gn (t:=jD) ?_;refine aa.alloc (t:=jD) [.slice none 0 0,.slice none 0 0,.slice none 0 0,.slice none 0 0,.slice none 0 0,.slice none 0 0,.slice none 0 0,.bool false,.int .i64 0,.slice none 0 0,.slice none 0 0,.slice none 0 0] rfl rfl rfl fun b_=>?_)|fail)
 obtain⟨bc,rfl⟩:∃y:Nat,y=b_:=⟨_,rfl⟩
 refine aP.mH (fun w4 h4=>?_)
 have x4:Ext w w4:=x3.trans (show Ext w3 w4 from h4.at)
 have mA4:aD (fun _=>True) w4 ([Value.slice a0 mA.types.length d0,Value.slice a1 mA.imports.length d1,Value.slice a2 mA.funcs.length d2,Value.slice a3 mA.tables.length d3,Value.slice a4 mA.bU.length d4,Value.slice a5 mA.globals.length d5,Value.slice a6 mA.aG.length d6,Value.bool mA.aJ,Value.int .i64 mA.start,Value.slice a7 mA.elems.length d7,Value.slice a8 mA.aW.length d8,Value.slice a9 mA.bI.length d9]:List Value) mA:=mA3.aB (show Ext w3 w4 from h4.at) (fun _ _ _ h=>h)
 have cA4:∀j,j<12→w4.cell? ⟨ba,0+j,none⟩=([Value.slice a0 mA.types.length d0,Value.slice a1 mA.imports.length d1,Value.slice a2 mA.funcs.length d2,Value.slice a3 mA.tables.length d3,Value.slice a4 mA.bU.length d4,Value.slice a5 mA.globals.length d5,Value.slice a6 mA.aG.length d6,Value.bool mA.aJ,Value.int .i64 mA.start,Value.slice a7 mA.elems.length d7,Value.slice a8 mA.aW.length d8,Value.slice a9 mA.bI.length d9]:List Value)[j]?:=fun j hj=>by have:=cA3 j hj;rw[List.getElem?_eq_getElem hj]at this ⊢;exact(show Ext w3 w4 from h4.at).cell this
 have mB4:aD (fun _=>True) w4 ([Value.slice e0 mB.types.length u0,Value.slice e1 mB.imports.length u1,Value.slice e2 mB.funcs.length u2,Value.slice e3 mB.tables.length u3,Value.slice e4 mB.bU.length u4,Value.slice e5 mB.globals.length u5,Value.slice e6 mB.aG.length u6,Value.bool mB.aJ,Value.int .i64 mB.start,Value.slice e7 mB.elems.length u7,Value.slice e8 mB.aW.length u8,Value.slice e9 mB.bI.length u9]:List Value) mB:=mB3.aB (show Ext w3 w4 from h4.at) (fun _ _ _ h=>h)
 have cB4:∀j,j<12→w4.cell? ⟨bb,0+j,none⟩=([Value.slice e0 mB.types.length u0,Value.slice e1 mB.imports.length u1,Value.slice e2 mB.funcs.length u2,Value.slice e3 mB.tables.length u3,Value.slice e4 mB.bU.length u4,Value.slice e5 mB.globals.length u5,Value.slice e6 mB.aG.length u6,Value.bool mB.aJ,Value.int .i64 mB.start,Value.slice e7 mB.elems.length u7,Value.slice e8 mB.aW.length u8,Value.slice e9 mB.bI.length u9]:List Value)[j]?:=fun j hj=>by have:=cB3 j hj;rw[List.getElem?_eq_getElem hj]at this ⊢;exact(show Ext w3 w4 from h4.at).cell this
 have mC4:aD (fun _=>True) w4 ([Value.slice i0 mC.types.length j0,Value.slice i1 mC.imports.length j1,Value.slice i2 mC.funcs.length j2,Value.slice i3 mC.tables.length j3,Value.slice i4 mC.bU.length j4,Value.slice i5 mC.globals.length j5,Value.slice i6 mC.aG.length j6,Value.bool mC.aJ,Value.int .i64 mC.start,Value.slice i7 mC.elems.length j7,Value.slice i8 mC.aW.length j8,Value.slice i9 mC.bI.length j9]:List Value) mC:=(h4.get (p:=fun w=>aD D3 w ([Value.slice i0 mC.types.length j0,Value.slice i1 mC.imports.length j1,Value.slice i2 mC.funcs.length j2,Value.slice i3 mC.tables.length j3,Value.slice i4 mC.bU.length j4,Value.slice i5 mC.globals.length j5,Value.slice i6 mC.aG.length j6,Value.bool mC.aJ,Value.int .i64 mC.start,Value.slice i7 mC.elems.length j7,Value.slice i8 mC.aW.length j8,Value.slice i9 mC.bI.length j9]:List Value) mC) ao).mono (fun _ _ _=>trivial)
 obtain⟨hbC,-⟩:=h4.ow (b:=bc) (w0:=w3) ao gG
 have cC4:=hbC.BP (s:=12) rfl
 have h04:=h0.ext x4
 refine aP.du [] [Ext w4] (List.nil_sublist _) aX ?_
 refine aN.qy 0 rfl (Yl.gC rfl rfl rfl ao F0 F0 cA4) ?_
 refine aN.qy 1 rfl (Yl.gC rfl rfl rfl ao F0 F0 cA4) ?_
 repeat'(first|refine aN.any FR ?_|exact aE.fin rfl|refine aE.skip FR ?_|refine aE.go ?_ ?_)
 refine aK.fe 10 ?_
 refine aK.he rfl rfl (HE.qK (m:=mA) rfl rfl (fun w' hw'=>mi (fun _=>True) mA ([Value.slice a0 mA.types.length d0,Value.slice a1 mA.imports.length d1,Value.slice a2 mA.funcs.length d2,Value.slice a3 mA.tables.length d3,Value.slice a4 mA.bU.length d4,Value.slice a5 mA.globals.length d5,Value.slice a6 mA.aG.length d6,Value.bool mA.aJ,Value.int .i64 mA.start,Value.slice a7 mA.elems.length d7,Value.slice a8 mA.aW.length d8,Value.slice a9 mA.bI.length d9]:List Value) w' (mA4.aB (show Ext w4 w' from hw'.at) (fun _ _ _ h=>h)) (by unfold rN;decide))) (fun _=>List.nil_sublist _) (fun _=>aX) ?_
 rintro⟨B1,s1⟩ _
 repeat'(first|refine aN.any FR ?_|exact aE.fin rfl|refine aE.skip FR ?_|refine aE.go ?_ ?_)
 refine aK.fe 9 ?_
 refine aK.he rfl rfl (HE.kl (v:=.tuple #[.int .i64 0,.int .i64 0]) rfl rfl (fun w' hw'=>by have:=nQ mA ([Value.slice a0 mA.types.length d0,Value.slice a1 mA.imports.length d1,Value.slice a2 mA.funcs.length d2,Value.slice a3 mA.tables.length d3,Value.slice a4 mA.bU.length d4,Value.slice a5 mA.globals.length d5,Value.slice a6 mA.aG.length d6,Value.bool mA.aJ,Value.int .i64 mA.start,Value.slice a7 mA.elems.length d7,Value.slice a8 mA.aW.length d8,Value.slice a9 mA.bI.length d9]:List Value) B1 s1 0 w' (mA4.aB (show Ext w4 w' from hw'.at) (fun _ _ _ h=>h)) (hw'.get (p:=fun w=>aV B1 mA w s1) ao) (h04.ext hw'.at) By;rw[Ck]at this;exact this)) (fun _=>List.nil_sublist _) (fun _=>aX) ?_
 rintro⟨⟩ _
 refine aN.qa 4 rfl ?_
 refine aN.qa 5 rfl ?_
 refine aN.qa 6 rfl ?_
 refine aN.qa 7 rfl ?_
 refine aN.qa 8 rfl ?_
 refine aN.nil FR ?_
 repeat'(first|refine ay ?_|fail)
 refine aP.du [] [Ext w4] (List.nil_sublist _) aX ?_
 refine aN.qy 0 rfl (Yl.gC rfl rfl rfl ao F0 F0 cB4) ?_
 refine aN.qy 1 rfl (Yl.gC rfl rfl rfl ao F0 F0 cB4) ?_
 repeat'(first|refine aN.any FR ?_|exact aE.fin rfl|refine aE.skip FR ?_|refine aE.go ?_ ?_)
 refine aK.fe 10 ?_
 refine aK.he rfl rfl (HE.qK (m:=mB) rfl rfl (fun w' hw'=>mi (fun _=>True) mB ([Value.slice e0 mB.types.length u0,Value.slice e1 mB.imports.length u1,Value.slice e2 mB.funcs.length u2,Value.slice e3 mB.tables.length u3,Value.slice e4 mB.bU.length u4,Value.slice e5 mB.globals.length u5,Value.slice e6 mB.aG.length u6,Value.bool mB.aJ,Value.int .i64 mB.start,Value.slice e7 mB.elems.length u7,Value.slice e8 mB.aW.length u8,Value.slice e9 mB.bI.length u9]:List Value) w' (mB4.aB (show Ext w4 w' from hw'.at) (fun _ _ _ h=>h)) (by unfold rN;decide))) (fun _=>List.nil_sublist _) (fun _=>aX) ?_
 rintro⟨B2,s2⟩ _
 repeat'(first|refine aN.any FR ?_|exact aE.fin rfl|refine aE.skip FR ?_|refine aE.go ?_ ?_)
 refine aK.fe 9 ?_
 refine aK.he rfl rfl (HE.kl (v:=.tuple #[.int .i64 0,.int .i64 13]) rfl rfl (fun w' hw'=>by have:=nQ mB ([Value.slice e0 mB.types.length u0,Value.slice e1 mB.imports.length u1,Value.slice e2 mB.funcs.length u2,Value.slice e3 mB.tables.length u3,Value.slice e4 mB.bU.length u4,Value.slice e5 mB.globals.length u5,Value.slice e6 mB.aG.length u6,Value.bool mB.aJ,Value.int .i64 mB.start,Value.slice e7 mB.elems.length u7,Value.slice e8 mB.aW.length u8,Value.slice e9 mB.bI.length u9]:List Value) B2 s2 0 w' (mB4.aB (show Ext w4 w' from hw'.at) (fun _ _ _ h=>h)) (hw'.get (p:=fun w=>aV B2 mB w s2) ao) (h04.ext hw'.at) Cm;rw[Cn]at this;exact this)) (fun _=>List.nil_sublist _) (fun _=>aX) ?_
 rintro⟨⟩ _
 refine aN.qa 4 rfl ?_
 refine aN.qa 5 rfl ?_
 refine aN.qa 6 rfl ?_
 refine aN.qa 7 rfl ?_
 refine aN.qa 8 rfl ?_
 refine aN.nil FR ?_
 repeat'(first|refine ay ?_|fail)
 refine aP.du [] [Ext w4] (List.nil_sublist _) aX ?_
 refine aN.qy 0 rfl (Yl.gC rfl rfl rfl ao F0 F0 cA4) ?_
 refine aN.qy 1 rfl (Yl.gC rfl rfl rfl ao F0 F0 cA4) ?_
 repeat'(first|refine aN.any FR ?_|exact aE.fin rfl|refine aE.skip FR ?_|refine aE.go ?_ ?_)
 refine aK.fe 10 ?_
 refine aK.he rfl rfl (HE.qK (m:=mA) rfl rfl (fun w' hw'=>mi (fun _=>True) mA ([Value.slice a0 mA.types.length d0,Value.slice a1 mA.imports.length d1,Value.slice a2 mA.funcs.length d2,Value.slice a3 mA.tables.length d3,Value.slice a4 mA.bU.length d4,Value.slice a5 mA.globals.length d5,Value.slice a6 mA.aG.length d6,Value.bool mA.aJ,Value.int .i64 mA.start,Value.slice a7 mA.elems.length d7,Value.slice a8 mA.aW.length d8,Value.slice a9 mA.bI.length d9]:List Value) w' (mA4.aB (show Ext w4 w' from hw'.at) (fun _ _ _ h=>h)) (by unfold rN;decide))) (fun _=>List.nil_sublist _) (fun _=>aX) ?_
 rintro⟨B3,s3⟩ _
 repeat'(first|refine aN.any FR ?_|exact aE.fin rfl|refine aE.skip FR ?_|refine aE.go ?_ ?_)
 refine aK.fe 12 ?_
 refine aK.he rfl rfl (HE.aS (M0:=[]) k9.nil rfl rfl (fun w' hw'=>by have:=nS mA ([Value.slice a0 mA.types.length d0,Value.slice a1 mA.imports.length d1,Value.slice a2 mA.funcs.length d2,Value.slice a3 mA.tables.length d3,Value.slice a4 mA.bU.length d4,Value.slice a5 mA.globals.length d5,Value.slice a6 mA.aG.length d6,Value.bool mA.aJ,Value.int .i64 mA.start,Value.slice a7 mA.elems.length d7,Value.slice a8 mA.aW.length d8,Value.slice a9 mA.bI.length d9]:List Value) B3 s3 0 w' (mA4.aB (show Ext w4 w' from hw'.at) (fun _ _ _ h=>h)) (hw'.get (p:=fun w=>aV B3 mA w s3) ao) (h04.ext hw'.at) By;rw[Cl]at this;exact this)) (fun _=>List.nil_sublist _) (fun _=>aX) ?_
 rintro⟨la,ta,Da⟩ _
 dsimp only[iS,Option.getD,Option.isSome,List.cons_append,List.nil_append]
 refine aN.qa 4 rfl ?_
 refine aN.qa 5 rfl ?_
 refine aN.qa 6 rfl ?_
 refine aN.qa 7 rfl ?_
 refine aN.qa 8 rfl ?_
 refine aN.nil FR ?_
 repeat'(first|refine ay ?_|fail)
 refine aP.du [] [Ext w4] (List.nil_sublist _) aX ?_
 refine aN.qy 0 rfl (Yl.gC rfl rfl rfl ao F0 F0 cC4) ?_
 refine aN.qy 1 rfl (Yl.gC rfl rfl rfl ao F0 F0 cC4) ?_
 repeat'(first|refine aN.any FR ?_|exact aE.fin rfl|refine aE.skip FR ?_|refine aE.go ?_ ?_)
 refine aK.fe 10 ?_
 refine aK.he rfl rfl (HE.qK (m:=mC) rfl rfl (fun w' hw'=>mi (fun _=>True) mC ([Value.slice i0 mC.types.length j0,Value.slice i1 mC.imports.length j1,Value.slice i2 mC.funcs.length j2,Value.slice i3 mC.tables.length j3,Value.slice i4 mC.bU.length j4,Value.slice i5 mC.globals.length j5,Value.slice i6 mC.aG.length j6,Value.bool mC.aJ,Value.int .i64 mC.start,Value.slice i7 mC.elems.length j7,Value.slice i8 mC.aW.length j8,Value.slice i9 mC.bI.length j9]:List Value) w' (mC4.aB (show Ext w4 w' from hw'.at) (fun _ _ _ h=>h)) (by unfold rN;decide))) (fun _=>List.nil_sublist _) (fun _=>aX) ?_
 rintro⟨B4,s4⟩ _
 repeat'(first|refine aN.any FR ?_|exact aE.fin rfl|refine aE.skip FR ?_|refine aE.go ?_ ?_)
 refine aK.fe 12 ?_
 refine aK.he rfl rfl (HE.aS (M0:=[]) k9.nil rfl rfl (fun w' hw'=>by have:=nS mC ([Value.slice i0 mC.types.length j0,Value.slice i1 mC.imports.length j1,Value.slice i2 mC.funcs.length j2,Value.slice i3 mC.tables.length j3,Value.slice i4 mC.bU.length j4,Value.slice i5 mC.globals.length j5,Value.slice i6 mC.aG.length j6,Value.bool mC.aJ,Value.int .i64 mC.start,Value.slice i7 mC.elems.length j7,Value.slice i8 mC.aW.length j8,Value.slice i9 mC.bI.length j9]:List Value) B4 s4 0 w' (mC4.aB (show Ext w4 w' from hw'.at) (fun _ _ _ h=>h)) (hw'.get (p:=fun w=>aV B4 mC w s4) ao) (h04.ext hw'.at) Co;rw[Cp]at this;exact this)) (fun _=>List.nil_sublist _) (fun _=>aX) ?_
 rintro⟨lc,tc,Dc⟩ _
 dsimp only[iS,Option.getD,Option.isSome,List.cons_append,List.nil_append]
 refine aN.qa 4 rfl ?_
 refine aN.qa 5 rfl ?_
 refine aN.qa 6 rfl ?_
 refine aN.qa 7 rfl ?_
 refine aN.qa 8 rfl ?_
 refine aN.nil FR ?_
 repeat'(first|refine ay ?_|fail)
 refine aa.map (fun w' h=>Ok.BH (T:=mQ) (lv:=lc) (tc:=tc) (D:=Dc) (l:=[(true,[]),(false,[])]) h FX) ?_
 refine aa.map (fun w' h=>Ok.BH (T:=mQ) (lv:=la) (tc:=ta) (D:=Da) (l:=[(true,[]),(true,[1])]) (M:=[]) h FX) ?_
 refine aa.mH (fun w5 h5=>?_)
 have x5:Ext w w5:=x4.trans (show Ext w4 w5 from h5.at)
 have hA5:fh (fun k=>k<w5.heap.size) w5 la [(true,[]),(true,[1])]:=fc.mono ki.mo ki.ce (h5.get (p:=fun w=>fh (fun _=>True) w la [(true,[]),(true,[1])]) ao) (fun _ h _=>h)
 have hC5:fh (fun _=>True) w5 lc [(true,[]),(false,[])]:=h5.get (p:=fun w=>fh (fun _=>True) w lc [(true,[]),(false,[])]) ao
 obtain⟨pc,cc,rfl⟩:∃p c,lc=.slice p 2 c:=by obtain⟨p,c,e,-⟩:=hC5.slice;exact⟨p,c,e⟩
 obtain⟨bq,oq,rfl,-,hq⟩:=hC5.at (i:=1) FX
 obtain⟨_,_,hq1,-,-⟩:=hq 1 FX
 refine aa.Ci F0 (HE.uL (V:=fun D w (u:Value)=>fh D w u [(true,[]),(true,[1])]) (tf:=fun u=>u) (w0:=w5) (F:=fun k=>k<w5.heap.size) (fun h hc hd=>fh.aB h hc hd) ao (fun _ h=>h) rfl rfl (fun w' hw'=>tP _ _ la w' (hA5.ext hw'.at))) rfl ?_
 rintro⟨D6,v6⟩ _
 dsimp only
 repeat'(first|refine ay ?_|fail)
 refine aa.Ci F0 (HE.mq rfl rfl rfl rfl rfl fS F0 F0) rfl ?_
 intro k6 _
 repeat'(first|refine ay ?_|fail)
 refine aa.Ci F0 (HE.mq rfl rfl rfl rfl rfl fS F0 F0) rfl ?_
 intro k7 _
 repeat'(first|refine ay ?_|fail)
 refine aa.dV (v:=.bool true) rfl rfl rfl rfl (fun w' hw'=>by
  obtain⟨e6,-⟩:=hw'.ow (b:=k6) (w0:=w5) ao gG
  obtain⟨e7,-⟩:=hw'.ow (b:=k7) (w0:=w5) ao gG
  have hs:fh (fun _=>True) w' (.slice (some ⟨k7,0,none⟩) 2 2) [(true,[]),(true,[1])]:=⟨_,_,rfl,by show(2:Nat)≤_;omega,.inr ⟨k7,0,rfl,trivial,fun i hi=>by
   have hi2:i<2:=hi
   rcases(show i=0∨i=1 by omega)with rfl|rfl
   ·exact⟨none,0,e7.cell (j:=0) rfl,e7.cell (j:=1) rfl,af.eB _ _⟩
   ·exact⟨some ⟨k6,0,none⟩,1,e7.cell (j:=2) rfl,e7.cell (j:=3) rfl,(eQ e6).mono fun _ _ _=>trivial⟩⟩⟩
  have:=ud D6 (fun _=>True) _ _ v6 _ w' (hw'.get (p:=fun w=>fh D6 w v6 [(true,[]),(true,[1])]) ao) hs
  rw[decide_eq_true rfl]at this;exact this) ?_
 refine aa.kJ (cl bq (oq+1*2) (.bool false)) (fun w2 h=>(show Ext w5 w2 from h _ ao).cell hq1) ?_
 repeat'(first|refine ay ?_|fail)
 refine aa.yg F0 (Yl.idx (i:=1) rfl rfl rfl rfl rfl FX FX) rfl ?_
 repeat'(first|refine ay ?_|fail)
 all_goals exact ai.aA rfl rfl fun w' hw'=>⟨rfl,x5.trans hw'.at⟩
theorem pq (m:ae) (cs:List Value) (i:Int) (w:World) (hm:aD (fun _=>True) w cs m) (g:Nat) (cap:Array Value):Calls G.P 21 #[.agg cs.toArray,.pointer none,.int .i64 i,.func (.func g) #[] cap] w fun e w'=>e=.returned (.tuple #[.int .i64 0,.int .i64 2])∧Ext w w':=by
 obtain⟨v0,v1,v2,v3,v4,v5,v6,v7,v8,v9,rfl,r0,r1,r2,r3,r4,r5,r6,r7,r8,r9,g0⟩:=hm;obtain⟨p0,c0,rfl,l0⟩:=r0.slice;obtain⟨p1,c1,rfl,l1⟩:=r1.slice;obtain⟨p2,c2,rfl,l2⟩:=r2.slice;obtain⟨p3,c3,rfl,l3⟩:=r3.slice;obtain⟨p4,c4,rfl,l4⟩:=r4.slice;obtain⟨p5,c5,rfl,l5⟩:=r5.slice;obtain⟨p6,c6,rfl,l6⟩:=r6.slice;obtain⟨p7,c7,rfl,l7⟩:=r7.slice;obtain⟨p8,c8,rfl,l8⟩:=r8.slice;obtain⟨p9,c9,rfl,l9⟩:=r9.slice
 refine aj (l:=[_,_,_,_]) Tryz.func21 rfl Tryz.ntmps21 rfl (Ok.start w) ?_
 repeat'(first|refine ay ?_|(refine br fun b_=>?_)|(refine aa.an ?_;refine aa.y_ (Yl.Bn Tryz.underlying39 rfl rfl) rfl ?_)|fail)
 exact ne
theorem qI (m:ae) (cs:List Value) (i:Int) (w:World) (hm:aD (fun _=>True) w cs m):Calls G.P 31 #[.agg cs.toArray,.pointer none,.int .i64 i] w fun e w'=>e=.returned (.tuple #[.agg #[.slice none 0 0,.slice none 0 0],.bool false])∧Ext w w':=by
 obtain⟨v0,v1,v2,v3,v4,v5,v6,v7,v8,v9,rfl,r0,r1,r2,r3,r4,r5,r6,r7,r8,r9,g0⟩:=hm;obtain⟨p0,c0,rfl,l0⟩:=r0.slice;obtain⟨p1,c1,rfl,l1⟩:=r1.slice;obtain⟨p2,c2,rfl,l2⟩:=r2.slice;obtain⟨p3,c3,rfl,l3⟩:=r3.slice;obtain⟨p4,c4,rfl,l4⟩:=r4.slice;obtain⟨p5,c5,rfl,l5⟩:=r5.slice;obtain⟨p6,c6,rfl,l6⟩:=r6.slice;obtain⟨p7,c7,rfl,l7⟩:=r7.slice;obtain⟨p8,c8,rfl,l8⟩:=r8.slice;obtain⟨p9,c9,rfl,l9⟩:=r9.slice
 refine aj (l:=[_,_,_]) Tryz.func31 rfl Tryz.ntmps31 rfl (Ok.start w) ?_
 repeat'(first|refine ay ?_|(refine Fb fun b_=>?_)|(refine aa.an ?_;refine aa.y_ (Yl.Bn Tryz.underlying39 rfl rfl) rfl ?_)|fail)
 exact ai.bh (.inl rfl) rfl rfl rfl rfl rfl bM rfl rfl fun w' hw'=>⟨rfl,hw'.at⟩
theorem nb (m:ae) (cs:List Value) (i:Int) (w:World) (hm:aD (fun _=>True) w cs m):Calls G.P 14 #[.agg cs.toArray,.pointer none,.int .i64 i] w fun e w'=>e=.returned (.tuple #[.slice none 0 0,.bool false])∧Ext w w':=by
 have hm0:=hm
 obtain⟨v0,v1,v2,v3,v4,v5,v6,v7,v8,v9,rfl,r0,r1,r2,r3,r4,r5,r6,r7,r8,r9,g0⟩:=hm;obtain⟨p0,c0,rfl,l0⟩:=r0.slice;obtain⟨p1,c1,rfl,l1⟩:=r1.slice;obtain⟨p2,c2,rfl,l2⟩:=r2.slice;obtain⟨p3,c3,rfl,l3⟩:=r3.slice;obtain⟨p4,c4,rfl,l4⟩:=r4.slice;obtain⟨p5,c5,rfl,l5⟩:=r5.slice;obtain⟨p6,c6,rfl,l6⟩:=r6.slice;obtain⟨p7,c7,rfl,l7⟩:=r7.slice;obtain⟨p8,c8,rfl,l8⟩:=r8.slice;obtain⟨p9,c9,rfl,l9⟩:=r9.slice
 refine aj (l:=[_,_,_]) Tryz.func14 rfl Tryz.ntmps14 rfl (Ok.start w) ?_
 repeat'(first|refine ay ?_|(refine Fb fun b_=>?_)|(refine aa.ak (f:=31) ?_;refine aa.az rfl rfl rfl (fun w' hw'=>qI m ([Value.slice p0 m.types.length c0,Value.slice p1 m.imports.length c1,Value.slice p2 m.funcs.length c2,Value.slice p3 m.tables.length c3,Value.slice p4 m.bU.length c4,Value.slice p5 m.globals.length c5,Value.slice p6 m.aG.length c6,Value.bool m.aJ,Value.int .i64 m.start,Value.slice p7 m.elems.length c7,Value.slice p8 m.aW.length c8,Value.slice p9 m.bI.length c9]:List Value) i w' (hm0.aB (show Ext w w' from hw'.at) (fun _ _ _ h=>h))) ?_)|fail)
 exact ne
theorem Aa {g g':Prop} (h:g') (hw:dP g'→g:=by(intro hk_;(first|(refine aa.ak (f:=21) ?_;refine aa.az rfl rfl rfl (fun w' hw'=>pq m ([Value.slice p0 m.types.length c0,Value.slice p1 m.imports.length c1,Value.slice p2 m.funcs.length c2,Value.slice p3 m.tables.length c3,Value.slice p4 m.bU.length c4,Value.slice p5 m.globals.length c5,Value.slice p6 m.aG.length c6,Value.bool m.aJ,Value.int .i64 m.start,Value.slice p7 m.elems.length c7,Value.slice p8 m.aW.length c8,Value.slice p9 m.bI.length c9]:List Value) i w' (hm0.aB (show Ext w w' from hw'.at) (fun _ _ _ h=>h)) _ _) ?_));exact hk_.out)):g:=hw ⟨h⟩
theorem nR (m:ae) (cs:List Value) (i:Int) (w:World) (hm:aD (fun _=>True) w cs m):Calls G.P 9 #[.agg cs.toArray,.pointer none,.int .i64 i] w fun e w'=>e=.returned (.tuple #[.int .i64 0,.int .i64 2])∧Ext w w':=by
 have hm0:=hm
 obtain⟨v0,v1,v2,v3,v4,v5,v6,v7,v8,v9,rfl,r0,r1,r2,r3,r4,r5,r6,r7,r8,r9,g0⟩:=hm;obtain⟨p0,c0,rfl,l0⟩:=r0.slice;obtain⟨p1,c1,rfl,l1⟩:=r1.slice;obtain⟨p2,c2,rfl,l2⟩:=r2.slice;obtain⟨p3,c3,rfl,l3⟩:=r3.slice;obtain⟨p4,c4,rfl,l4⟩:=r4.slice;obtain⟨p5,c5,rfl,l5⟩:=r5.slice;obtain⟨p6,c6,rfl,l6⟩:=r6.slice;obtain⟨p7,c7,rfl,l7⟩:=r7.slice;obtain⟨p8,c8,rfl,l8⟩:=r8.slice;obtain⟨p9,c9,rfl,l9⟩:=r9.slice
 refine aj (l:=[_,_,_]) Tryz.func9 rfl Tryz.ntmps9 rfl (Ok.start w) ?_
 repeat'(first|refine ay ?_|(refine br fun b_=>?_)|refine Aa ?_|fail)
 exact ne
theorem nT (m:ae) (cs:List Value) (i:Int) (w:World) (hm:aD (fun _=>True) w cs m):Calls G.P 12 #[.agg cs.toArray,.pointer none,.int .i64 i] w fun e w'=>e=.returned (.tuple #[.slice none 0 0,.bool false])∧Ext w w':=by
 have hm0:=hm
 obtain⟨v0,v1,v2,v3,v4,v5,v6,v7,v8,v9,rfl,r0,r1,r2,r3,r4,r5,r6,r7,r8,r9,g0⟩:=hm;obtain⟨p0,c0,rfl,l0⟩:=r0.slice;obtain⟨p1,c1,rfl,l1⟩:=r1.slice;obtain⟨p2,c2,rfl,l2⟩:=r2.slice;obtain⟨p3,c3,rfl,l3⟩:=r3.slice;obtain⟨p4,c4,rfl,l4⟩:=r4.slice;obtain⟨p5,c5,rfl,l5⟩:=r5.slice;obtain⟨p6,c6,rfl,l6⟩:=r6.slice;obtain⟨p7,c7,rfl,l7⟩:=r7.slice;obtain⟨p8,c8,rfl,l8⟩:=r8.slice;obtain⟨p9,c9,rfl,l9⟩:=r9.slice
 refine aj (l:=[_,_,_]) Tryz.func12 rfl Tryz.ntmps12 rfl (Ok.start w) ?_
 repeat'(first|refine ay ?_|(refine br fun b_=>?_)|(refine aa.gn (t:=xe) ?_;refine aa.alloc (t:=xe) [Value.slice none 0 0] rfl rfl rfl fun b_=>?_)|refine Aa ?_|fail)
 exact ne
structure A6 (m:ae):Prop where
 types:m.types.length≤100
 imports:m.imports.length≤100
 funcs:m.funcs.length≤20
 globals:m.globals.length≤100
 elems:m.elems.length≤100
 loc:∀j,j<m.funcs.length→(ix m.funcs j).locals.length≤400
 len:∀j,j<m.funcs.length→(ix m.funcs j).body.length≤400
set_option maxHeartbeats 8000000 in
theorem vQ (m:ae) (cs:List Value) (w:World) (hm:aD (fun _=>True) w cs m):Calls G.P 7 #[.agg cs.toArray] w (pN (A6 m) w):=by
 obtain⟨v0,v1,v2,v3,v4,v5,v6,v7,v8,v9,rfl,r0,r1,r2,r3,r4,r5,r6,r7,r8,r9,g0⟩:=hm;obtain⟨p0,c0,rfl,l0⟩:=r0.slice;obtain⟨p1,c1,rfl,l1⟩:=r1.slice;obtain⟨p2,c2,rfl,l2⟩:=r2.slice;obtain⟨p3,c3,rfl,l3⟩:=r3.slice;obtain⟨p4,c4,rfl,l4⟩:=r4.slice;obtain⟨p5,c5,rfl,l5⟩:=r5.slice;obtain⟨p6,c6,rfl,l6⟩:=r6.slice;obtain⟨p7,c7,rfl,l7⟩:=r7.slice;obtain⟨p8,c8,rfl,l8⟩:=r8.slice;obtain⟨p9,c9,rfl,l9⟩:=r9.slice
 refine aj (l:=[_]) Tryz.func7 rfl Tryz.ntmps7 rfl (Ok.start w) ?_
 repeat'(first|refine ay ?_|(refine aY ?_ ?_<;>intro hc_))
 refine aa.box ([Value.slice p0 m.types.length c0,Value.slice p1 m.imports.length c1,Value.slice p2 m.funcs.length c2,Value.slice p3 m.tables.length c3,Value.slice p4 m.bU.length c4,Value.slice p5 m.globals.length c5,Value.slice p6 m.aG.length c6,Value.bool m.aJ,Value.int .i64 m.start,Value.slice p7 m.elems.length c7,Value.slice p8 m.aW.length c8,Value.slice p9 m.bI.length c9]:List Value) rfl rfl rfl fun bm=>?_
 repeat'(first|refine ay ?_|(refine aY ?_ ?_<;>intro hc_))
 refine aP.loop (σ:=Nat×Int) (fun s=>[(1,.pointer (some ⟨bm,0,none⟩)),(3,.int .i64 s.2),(4,.int .i64 s.1)]) (fun _=>[.aH bm ([Value.slice p0 m.types.length c0,Value.slice p1 m.imports.length c1,Value.slice p2 m.funcs.length c2,Value.slice p3 m.tables.length c3,Value.slice p4 m.bU.length c4,Value.slice p5 m.globals.length c5,Value.slice p6 m.aG.length c6,Value.bool m.aJ,Value.int .i64 m.start,Value.slice p7 m.elems.length c7,Value.slice p8 m.aW.length c8,Value.slice p9 m.bI.length c9]:List Value) jD]) (fun _=>[Ext w]) (fun s=>s.1≤m.funcs.length∧s.1≤100∧0≤s.2∧s.2≤(s.1:Int)*20000000000000∧∀j,j<s.1→((ix m.funcs j).locals.length:Int)+(ix m.funcs j).body.length≤s.2) (fun s=>m.funcs.length - s.1) (0,0) bP bN aX ⟨Nat.zero_le _,Nat.zero_le _,by decide,by decide,fun j hj=>absurd hj (Nat.not_lt_zero _)⟩ ?_
 rintro⟨i,q⟩ ⟨hi,hi2,hq0,hq,hall⟩
 dsimp only at hi hi2 hq0 hq hall ⊢
 by_cases hlt:i<m.funcs.length∧i<100
 ·obtain⟨hj,hj2⟩:=hlt
  have hnx:∀j,j<i+1→((ix m.funcs j).locals.length:Int)+(ix m.funcs j).body.length≤q+(ix m.funcs i).body.length+(ix m.funcs i).locals.length:=fun j h=>by
   rcases Nat.lt_or_ge j i with h1|h1
   ·have:=hall j h1;omega
   ·obtain rfl:j=i:=by omega
    omega
  obtain⟨b,o,rfl,hF9,cs5,⟨u0,u1,rfl,q0,q1,q2⟩,hc⟩:=r2.el hj;obtain⟨x0,y0,rfl,z0⟩:=q0.slice;obtain⟨x1,y1,rfl,z1⟩:=q1.slice
  refine aP.kJ (Cs b (o+i*3) _) (lx hc rfl ao) ?_
  repeat'(first|refine ay ?_|(refine aY ?_ ?_<;>intro hc_))
  all_goals first|(exfalso;omega)|skip
  all_goals exact ai.next (i+1,q+(ix m.funcs i).body.length+(ix m.funcs i).locals.length) bP bN aX ⟨by dsimp only;omega,by dsimp only;omega,by dsimp only;omega,by dsimp only;omega,hnx⟩ FP
 ·repeat'(first|refine ay ?_|(refine aY ?_ ?_<;>intro hc_))
  all_goals first|(exfalso;omega)|refine ai.aA rfl rfl fun w' hw'=>⟨⟨_,rfl,fun h_=>?_⟩,hw'.at⟩
  all_goals first|(cases h_;done)|(have hh_:=of_decide_eq_true h_;exact⟨by omega,by omega,by omega,by omega,by omega,fun j hj=>by have:=hall j FY;omega,fun j hj=>by have:=hall j FY;omega⟩)
set_option maxHeartbeats 4000000 in
theorem og (m:ae) (cs:List Value) (i:Int) (w:World) (hm:aD (fun _=>True) w cs m) (h0:dG w):Calls G.P 6 #[.agg cs.toArray,.int .i64 i] w fun e w'=>e=.returned (.bool true)∧Ext w w':=by
 have hm0:=hm
 obtain⟨v0,v1,v2,v3,v4,v5,v6,v7,v8,v9,rfl,r0,r1,r2,r3,r4,r5,r6,r7,r8,r9,g0⟩:=hm;obtain⟨p0,c0,rfl,l0⟩:=r0.slice;obtain⟨p1,c1,rfl,l1⟩:=r1.slice;obtain⟨p2,c2,rfl,l2⟩:=r2.slice;obtain⟨p3,c3,rfl,l3⟩:=r3.slice;obtain⟨p4,c4,rfl,l4⟩:=r4.slice;obtain⟨p5,c5,rfl,l5⟩:=r5.slice;obtain⟨p6,c6,rfl,l6⟩:=r6.slice;obtain⟨p7,c7,rfl,l7⟩:=r7.slice;obtain⟨p8,c8,rfl,l8⟩:=r8.slice;obtain⟨p9,c9,rfl,l9⟩:=r9.slice
 refine aj (l:=[_,_]) Tryz.func6 rfl Tryz.ntmps6 rfl (Ok.start w) ?_
 repeat'(first|refine ay ?_|(refine br fun b_=>?_)|fail)
 refine aa.he (HE.Bf (P:=A6 m) rfl rfl (fun w' hw'=>vQ m ([Value.slice p0 m.types.length c0,Value.slice p1 m.imports.length c1,Value.slice p2 m.funcs.length c2,Value.slice p3 m.tables.length c3,Value.slice p4 m.bU.length c4,Value.slice p5 m.globals.length c5,Value.slice p6 m.aG.length c6,Value.bool m.aJ,Value.int .i64 m.start,Value.slice p7 m.elems.length c7,Value.slice p8 m.aW.length c8,Value.slice p9 m.bI.length c9]:List Value) w' (hm0.aB (show Ext w w' from hw'.at) (fun _ _ _ h=>h)))) rfl ?_
 intro fb hfb
 cases fb with
 |false=>
  repeat'(first|refine ay ?_|(refine aa.ak (f:=8) ?_;refine aa.az rfl rfl rfl (fun w' hw'=>mV w' (h0.ext hw'.at)) ?_)|fail)
  all_goals exact bi
 |true=>
  repeat'(first|refine ay ?_|(refine aa.ak (f:=9) ?_;refine aa.az rfl rfl rfl (fun w' hw'=>nR m ([Value.slice p0 m.types.length c0,Value.slice p1 m.imports.length c1,Value.slice p2 m.funcs.length c2,Value.slice p3 m.tables.length c3,Value.slice p4 m.bU.length c4,Value.slice p5 m.globals.length c5,Value.slice p6 m.aG.length c6,Value.bool m.aJ,Value.int .i64 m.start,Value.slice p7 m.elems.length c7,Value.slice p8 m.aW.length c8,Value.slice p9 m.bI.length c9]:List Value) i w' (hm0.aB (show Ext w w' from hw'.at) (fun _ _ _ h=>h))) ?_)|(refine aa.ak (f:=12) ?_;refine aa.az rfl rfl rfl (fun w' hw'=>nT m ([Value.slice p0 m.types.length c0,Value.slice p1 m.imports.length c1,Value.slice p2 m.funcs.length c2,Value.slice p3 m.tables.length c3,Value.slice p4 m.bU.length c4,Value.slice p5 m.globals.length c5,Value.slice p6 m.aG.length c6,Value.bool m.aJ,Value.int .i64 m.start,Value.slice p7 m.elems.length c7,Value.slice p8 m.aW.length c8,Value.slice p9 m.bI.length c9]:List Value) i w' (hm0.aB (show Ext w w' from hw'.at) (fun _ _ _ h=>h))) ?_)|(refine aa.ak (f:=14) ?_;refine aa.az rfl rfl rfl (fun w' hw'=>nb m ([Value.slice p0 m.types.length c0,Value.slice p1 m.imports.length c1,Value.slice p2 m.funcs.length c2,Value.slice p3 m.tables.length c3,Value.slice p4 m.bU.length c4,Value.slice p5 m.globals.length c5,Value.slice p6 m.aG.length c6,Value.bool m.aJ,Value.int .i64 m.start,Value.slice p7 m.elems.length c7,Value.slice p8 m.aW.length c8,Value.slice p9 m.bI.length c9]:List Value) i w' (hm0.aB (show Ext w w' from hw'.at) (fun _ _ _ h=>h))) ?_)|(refine aa.eR (f:=8) ?_;refine aa.dV wM rfl rfl rfl (fun w' hw'=>mV w' (h0.ext hw'.at)) ?_)|fail)
  all_goals exact bi
open Go.ChangeShapes Go.WideShapes Go.ChangeAt Go.RowKit
noncomputable def gi (os:Os):World:=
 let N:=(World.settled Tryz.prog os).heap.size
 let w0:=World.holding Tryz.prog os ⟨#[.cells (Lib.whiteT.map fun(z:Nat)=>Value.int .u16 (z:Int)).toArray 301,.cells #[.slice (some ⟨N,0,none⟩) 7 7,.slice none 0 0,.int .i64 2] 298],#[],[]⟩
 let put (h:Array Obj) (g:Nat) (cs:Array Value):Array Obj:=h.modify g fun
  |.cells _ t frozen=>.cells cs t frozen
  |o=>o
 let h1:=put w0.heap 0 (Lib.asciiSpaceTab.map fun z=>Value.int .u8 z).toArray
 let h2:=put h1 2 #[.pointer (some ⟨N+1,0,none⟩)]
 {w0 with heap:=h2}
theorem qH (os:Os) (args:Array Value):laidMet Tryz.prog Rows.bodyNoneRow.laid ((gi os).forCall (fun _ _=>0) ⟨#[],args,[]⟩).memory:=
 laidMet_of_run' 8 FT FT
theorem mD (os:Os) {H:Type} (enc:TypeId×Value→H):
  (OpenSpec.ofChange Rows.bodyNoneSpec).preRow enc Tryz.prog Tryz.f6 Rows.bodyNoneRow.domain false Rows.bodyNoneRow.laid ((gi os).forCall (fun _ _=>0) ⟨#[],#[.agg #[.slice none 0 0,.slice none 0 0,.slice none 0 0,.slice none 0 0,.slice none 0 0,.slice none 0 0,.slice none 0 0,.bool false,.int .i64 0,.slice none 0 0,.slice none 0 0,.slice none 0 0],.int .i64 0],[]⟩).memory #[.agg #[.slice none 0 0,.slice none 0 0,.slice none 0 0,.slice none 0 0,.slice none 0 0,.slice none 0 0,.slice none 0 0,.bool false,.int .i64 0,.slice none 0 0,.slice none 0 0,.slice none 0 0],.int .i64 0]:=by
 have hw:(DataW.whole enc Tryz.prog ((gi os).forCall (fun _ _=>0) ⟨#[],#[.agg #[.slice none 0 0,.slice none 0 0,.slice none 0 0,.slice none 0 0,.slice none 0 0,.slice none 0 0,.slice none 0 0,.bool false,.int .i64 0,.slice none 0 0,.slice none 0 0,.slice none 0 0],.int .i64 0],[]⟩).memory Tryz.f6.params.toList Rows.bodyNoneSpec.vars false (#[.agg #[.slice none 0 0,.slice none 0 0,.slice none 0 0,.slice none 0 0,.slice none 0 0,.slice none 0 0,.slice none 0 0,.bool false,.int .i64 0,.slice none 0 0,.slice none 0 0,.slice none 0 0],.int .i64 0]:Array Value).toList 8).map (fun x=>(x.1,x.2.1))=
   some ([.agg [.nil,.nil,.nil,.nil,.nil,.nil,.nil,.lit (.bool false),.lit (.int .i64 0),.nil,.nil,.nil],.lit (.int .i64 0)],[]):=by kernel_rfl
 obtain⟨⟨x1,x2,x3⟩,hx,hx1⟩:=Option.map_eq_some_iff.1 hw
 simp only[Prod.mk.injEq]at hx1
 obtain⟨rfl,rfl⟩:=hx1
 exact OpenSpec.preRow_of_cond 8 hx FT (fun k hk=>by cases hk) FT (qH os _)
theorem na (os:Os) (started:os.Started) (H:Type) (enc:TypeId×Value→H) (F:Stop.Interp):
  ReturnsInHanded {} Tryz.checked os 6 .any ((OpenSpec.ofChange Rows.bodyNoneSpec).preRow enc Tryz.prog Tryz.f6 Rows.bodyNoneRow.domain false Rows.bodyNoneRow.laid) (((OpenSpec.ofChange Rows.bodyNoneSpec).at F).post enc Tryz.prog Tryz.f6 false true false false):=by
 refine returnsInHanded_of_row (C:=Tryz.checked) (s:=OpenSpec.ofChange Rows.bodyNoneSpec) own started FT Tryz.func6
  (witness_row_atRef (enc:=enc) (C:=Tryz.checked) false (gi os) #[.agg #[.slice none 0 0,.slice none 0 0,.slice none 0 0,.slice none 0 0,.slice none 0 0,.slice none 0 0,.slice none 0 0,.bool false,.int .i64 0,.slice none 0 0,.slice none 0 0,.slice none 0 0],.int .i64 0] rfl FT FT FT (mD os enc)) ?_
 intro W base args ds gs before hval0 hW _ _ hsz hL hsh _
 have h0:dG W:=yN hL hsh
 have hW':DataW.Whole enc Tryz.prog Tryz.f6.params.toList Rows.bodyNoneSpec.vars false W args.toList ds gs before:=hW
 obtain⟨p,q,hA0,hV,rfl,hfz,hnd⟩:=hW
 have hA:DataW.TrodAll enc Tryz.prog W 0 (fun _=>true) true Tryz.f6.params.toList args.toList ds p:=hA0
 obtain⟨rfl,rfl⟩:=trodVars_none hV
 have hz:∀n∈DataW.weightsEach Tryz.prog Tryz.f6.params.toList ds,n≤reachBytes:=fun n hn=>by
  have h1:=List.all_eq_true.1 hsz n (by rw[List.append_nil];exact m7 _ _ _ n hn)
  simpa using h1
 have hval:∀(j:Nat) t v,Tryz.f6.params[j]?=some t→args[j]?=some v→Value.okWide Tryz.prog W .any base t v:=hval0
 rw[Tryz.params6]at hA hz hval
 obtain⟨v0,vs0,d0,ds0,p0,q0,hargs,rfl,rfl,h0',r0⟩:=trodAll_cons hA
 obtain⟨v1,vs1,d1,ds1,p1,q1,rfl,rfl,rfl,h1',r1⟩:=trodAll_cons r0
 obtain⟨rfl,rfl,rfl⟩:=trodAll_nil r1
 obtain rfl:args=#[v0,v1]:=by cases args;simp_all
 obtain⟨cs0,rfl,hl0,ht0⟩:=tC Tryz.underlying33 (hval 0 _ v0 rfl rfl) h0' (fun n hn=>hz n (by simp only[DataW.weightsEach,List.append_nil,List.mem_append];first|exact hn|exact .inl hn|exact .inr hn|exact .inr (.inl hn)|exact .inr (.inr hn)|exact .inr (.inr (.inl hn))|exact .inr (.inr (.inr hn))|exact .inr (.inr (.inr (.inl hn)))|exact .inr (.inr (.inr (.inr hn)))))
 obtain⟨m0,hm0⟩:=aD.of ht0 (by rw[hl0];kernel_rfl)
 obtain⟨n1,rfl,rfl,rfl,hr1⟩:=open_int Tryz.underlying3 (hval 1 _ v1 rfl rfl) h1'
 refine(og m0 cs0 n1 W hm0 h0).mono fun e W' ⟨he,hx⟩=>?_
 subst he
 exact⟨_,rfl,rh (P:=Tryz.prog) laidOut rfl (tb:=4) FT Tryz.underlying4 FT hW' (fun _=>rfl) hx.below⟩
end Go.Proofs.YtceedealggognaaGreatDoor
