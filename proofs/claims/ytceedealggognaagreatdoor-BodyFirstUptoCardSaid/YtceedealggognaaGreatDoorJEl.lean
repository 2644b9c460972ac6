/- How many types remain on the stack when the given ones are popped. -/
import Derived.Test.YtceedealggognaaGreatDoorJSw
import Derived.Test.YtceedealggognaaGreatDoorJSe
import Derived.Laws.CopyOwn
namespace Go.Proofs.YtceedealggognaaGreatDoor
open Go.RowKit
set_option maxRecDepth 100000
abbrev wu:Nat:=109
abbrev vH:Nat:=219
abbrev wo:Nat:=36
abbrev om:Nat:=3
theorem rh {fn:Func} {n:Nat} {E:Env} {w:World} {a T b T':Nat} {ti ti':TI} {v u:Value} {ad bd:Addr} (hr:fn.results=#[.cell a T,.cell b T']) (ha:lk E a=some (.pointer (some ad))) (hT:G.ty T=some ti) (hag:ti.agg=false) (hc:w.cell? ad=some v)
  (hb:lk E b=some (.pointer (some bd))) (hT':G.ty T'=some ti') (hag':ti'.agg=false) (hc':w.cell? bd=some u):∀ac,Ag n ac E→(results fn ac.tmps).run G.P w=.ok (.tuple #[v,u]) w:=fun ac hac=>by
 have h1:=(G.eZ T ti hT).agg w
 rw[hag]at h1
 have h2:=(G.eZ T' ti' hT').agg w
 rw[hag']at h2
 have g1:ac.tmps[a]?.getD undef=.pointer (some ad):=by have:=(hac.eq a _ ha).2;simpa using this
 have g2:ac.tmps[b]?.getD undef=.pointer (some bd):=by have:=(hac.eq b _ hb).2;simpa using this
 simp[results,hr,g1,g2,asAddr,loadVar,h1,hc,h2,hc']
theorem mG {W:World} {D:Nat} {o:Obj} {p:Addr} {v:Value} (h:W.cell? p=some v) (hne:p.block≠D):(W.putObj D o).cell? p=some v:=by
 rw[World.cell?_of_block (w:=W) (World.putObj_heap_other hne)];exact h
theorem zW {l:List Int} {pre:List (Int×Int)} {x:Int×Int} (h:pre++[x]<+:bwd l):pre.length<l.length∧l.reverse.drop pre.length=x.2::l.reverse.drop (pre.length+1):=by
 obtain⟨r,hr⟩:=h
 have hl:pre.length<l.length:=by rw[←mF,←hr];simp
 refine⟨hl,?_⟩
 have h1:(bwd l)[pre.length]?=some x:=by rw[←hr];simp
 have h2:(bwd l)[pre.length]?=some (((l.length - 1 - pre.length:Nat):Int),ix l (l.length - 1 - pre.length)):=by
  rw[List.getElem?_eq_getElem (by rw[mF];exact hl)]
  congr 1
  simp[bwd,List.getElem_reverse]
 rw[h1]at h2
 cases h2
 rw[List.drop_eq_getElem_cons (by simpa using hl)]
 congr 1
 rw[List.getElem_reverse,cw Hb]
set_option maxHeartbeats 8000000 in
theorem pT (D:Nat→Prop) (sp:Nat) (s:cZ) (x:Value×Value) (v:Value) (l:List Int) (w:World) (hw:Ok (ay sp s x) [fun w=>af D w v l] w) (hp:0<s.ps.length) (h0:0≤s.at_) (hle:s.at_≤s.ts.length):
  Calls G.P 133 #[.pointer (some ⟨sp,0,none⟩),v] w fun e w'=>e=.returned (.tuple #[.int .i64 ((gq s l.reverse s.ts.length).1:Nat),.int .i64 (gq s l.reverse s.ts.length).2])∧Ext w w':=by
 obtain⟨v1,v2⟩:=x
 obtain⟨⟨p1,c1,e1,hcap,hg1⟩,⟨p2,c2,e2,hg2⟩,hn1,hn2⟩:=sG sp s (v1,v2) hw (List.Sublist.refl _)
 dsimp only at e1 e2
 subst e1;subst e2
 obtain⟨g2,rfl⟩:=hg2 hp
 have hI:af D w v l:=hw.get (p:=fun w=>af D w v l) Hc
 obtain⟨q,d,rfl,hl⟩:=hI.slice
 have k0:w.cell? ⟨sp,0,none⟩=some (.slice p1 s.ts.length c1):=hw.c1 (T:=fS) (cs:=[.slice p1 s.ts.length c1,.slice (some ⟨g2,0,none⟩) s.ps.length c2,.bool (cB s)]) Up.head rfl
 have k1:w.cell? ⟨sp,1,none⟩=some (.slice (some ⟨g2,0,none⟩) s.ps.length c2):=hw.c1 (T:=fS) (cs:=[.slice p1 s.ts.length c1,.slice (some ⟨g2,0,none⟩) s.ps.length c2,.bool (cB s)]) Up.head rfl
 have o1:w.ownsRow 0 fl 1 (.slice p1 s.ts.length c1) s.ts.length (aU s.ts):=(hw.m (.own 0 fl 1 (.slice p1 s.ts.length c1) s.ts.length (aU s.ts)) (by simp[ay])).1
 have o2:w.ownsRow 0 fR 2 (.slice (some ⟨g2,0,none⟩) s.ps.length c2) s.ps.length (bw s.ps):=(hw.m (.own 0 fR 2 (.slice (some ⟨g2,0,none⟩) s.ps.length c2) s.ps.length (bw s.ps)) (by simp[ay])).1
 have a1:w.cell? ⟨g2,(s.ps.length - 1)*2,none⟩=some (.int .i64 s.at_):=dL o2 (jF (l:=s.ps) (i:=s.ps.length - 1) Hb).1
 have a2:w.cell? ⟨g2,(s.ps.length - 1)*2+1,none⟩=some (.bool s.loose):=dL o2 (jF (l:=s.ps) (i:=s.ps.length - 1) Hb).2
 refine Bz (l:=[.pointer (some ⟨sp,0,none⟩),.slice q l.length d]) Tryz.func133 rfl Tryz.ntmps133 rfl (Ok.start w) ?_
 refine zJ ?_
 refine aP.he (HE.box [.pointer (some ⟨sp,0,none⟩)] rfl rfl) rfl rfl ?_
 intro b2 _
 refine zJ ?_
 refine aP.he (HE.alloc [.int .i64 0] rfl rfl) rfl rfl ?_
 intro b4 _
 refine zJ ?_
 refine aP.he (HE.alloc [.int .i64 0] rfl rfl) rfl rfl ?_
 intro b5 _
 refine zJ ?_
 refine fJ.EX ?_
 refine aQ.de [.aJ b5 [.int .i64 0] wo,.aJ b4 [.int .i64 0] om,.aJ b2 [.pointer (some ⟨sp,0,none⟩)] wu] [Ext w] bN aY ?_
 refine aK.A2 (α:=Nat×Nat) (fun y=>[(1,.slice q l.length d),(2,.pointer (some ⟨b2,0,none⟩)),(4,.pointer (some ⟨b4,0,none⟩)),(5,.pointer (some ⟨b5,0,none⟩)),(6,.pointer (some ⟨y.1,0,none⟩)),(7,.pointer (some ⟨y.2,0,none⟩))]) (fun y=>[.aJ y.1 [.int .i64 s.ts.length] om,.aJ y.2 [.pointer (some ⟨g2,(s.ps.length - 1)*2,none⟩)] vH,.aJ b5 [.int .i64 0] wo,.aJ b4 [.int .i64 0] om,.aJ b2 [.pointer (some ⟨sp,0,none⟩)] wu]) (fun _=>[Ext w]) ?_ fun hrest=>?_
 ·rintro⟨b6,b7⟩
  dsimp only
  refine ai.CV ?_
  refine zJ ?_
  refine aP.he (HE.call (β:=Nat) (tf:=fun b=>.func (.func 186) #[] #[.pointer (some ⟨b,0,none⟩)]) (φ:=fun _=>True) (Mf:=fun b=>.aJ b [.slice q l.length d] 49::[.aJ b6 [.int .i64 s.ts.length] om,.aJ b7 [.pointer (some ⟨g2,(s.ps.length - 1)*2,none⟩)] vH,.aJ b5 [.int .i64 0] wo,.aJ b4 [.int .i64 0] om,.aJ b2 [.pointer (some ⟨sp,0,none⟩)] wu]) (Rf:=fun _=>[Ext w]) rfl rfl (fun w' hw'=>(od q l.length d w').mono fun e w'' ⟨e1,hn⟩=>⟨w'.heap.size,e1,trivial,hw'.push hn.ext hn.aJ (rF hn)⟩)) rfl rfl ?_
  intro b9 _
  refine zJ ?_
  refine⟨fun w1 hw1=>?_⟩
  have hx1:Ext w w1:=hw1.at
  have f9:b9<w1.heap.size:=(hw1.m (.aJ b9 _ _) gi).2 b9 rfl
  have f6:b6<w1.heap.size:=(hw1.m (.aJ b6 _ _) gi).2 b6 rfl
  have f7:b7<w1.heap.size:=(hw1.m (.aJ b7 _ _) gi).2 b7 rfl
  have f5:b5<w1.heap.size:=(hw1.m (.aJ b5 _ _) gi).2 b5 rfl
  have f4:b4<w1.heap.size:=(hw1.m (.aJ b4 _ _) gi).2 b4 rfl
  have f2:b2<w1.heap.size:=(hw1.m (.aJ b2 _ _) gi).2 b2 rfl
  have hRB:RB b9 q d l w1:=⟨hw1.c1 (cs:=[.slice q l.length d]) bJ rfl,fun i hi=>by
   obtain⟨b,o,e,-,hc⟩:=hI.at hi
   exact⟨b,o,e,hx1.cell (hc i hi)⟩⟩
  have lowG:∀(x6 x5 x4:Int) (r:Nat),Mb [.aJ b6 [.int .i64 x6] om,.aJ b7 [.pointer (some ⟨g2,(s.ps.length - 1)*2,none⟩)] vH,.aJ b5 [.int .i64 x5] wo,.aJ b4 [.int .i64 x4] om,.aJ b2 [.pointer (some ⟨sp,0,none⟩)] wu] r→r<w1.heap.size:=fun x6 x5 x4 r ⟨q',hq,hk⟩=>by
   simp only[List.mem_cons,List.not_mem_nil,or_false]at hq
   rcases hq with rfl|rfl|rfl|rfl|rfl<;>(have hk':r=_:=hk;omega)
  have lowM:∀(nn:Nat) (r:Nat),Mb [.aJ b6 [.int .i64 ((nn:Nat):Int)] om,.aJ b7 [.pointer (some ⟨g2,(s.ps.length - 1)*2,none⟩)] vH,.aJ b5 [.int .i64 0] wo,.aJ b4 [.int .i64 0] om,.aJ b2 [.pointer (some ⟨sp,0,none⟩)] wu] r→r<w1.heap.size:=fun nn r ⟨q',hq,hk⟩=>by
   simp only[List.mem_cons,List.not_mem_nil,or_false]at hq
   rcases hq with rfl|rfl|rfl|rfl|rfl<;>(have hk':r=_:=hk;omega)
  have lowX:∀(ee:Int) (r:Nat),Mb [.aJ b7 [.pointer (some ⟨g2,(s.ps.length - 1)*2,none⟩)] vH,.aJ b5 [.int .i64 ee] wo,.aJ b4 [.int .i64 0] om,.aJ b2 [.pointer (some ⟨sp,0,none⟩)] wu] r→r<w1.heap.size:=fun ee r ⟨q',hq,hk⟩=>by
   simp only[List.mem_cons,List.not_mem_nil,or_false]at hq
   rcases hq with rfl|rfl|rfl|rfl<;>(have hk':r=_:=hk;omega)
  have hqb:∀a,0<l.length→q=some a→a.block<w.heap.size:=fun a h e=>by
   obtain⟨b,o,e',-,hc⟩:=hI.at (i:=0) h
   rw[e]at e';cases e'
   exact ed (hc 0 h)
  have hne:b9≠b6∧b9≠b7∧b9≠b5∧b9≠b4∧b9≠b2:=by
   have hd:=(List.pairwise_cons.1 hw1.d).1
   exact⟨hd (.aJ b6 _ _) gi b9 rfl,hd (.aJ b7 _ _) gi b9 rfl,hd (.aJ b5 _ _) gi b9 rfl,hd (.aJ b4 _ _) gi b9 rfl,hd (.aJ b2 _ _) gi b9 rfl⟩
  have keepM:∀(nn:Nat) (W:World),Ok [.aJ b6 [.int .i64 ((nn:Nat):Int)] om,.aJ b7 [.pointer (some ⟨g2,(s.ps.length - 1)*2,none⟩)] vH,.aJ b5 [.int .i64 0] wo,.aJ b4 [.int .i64 0] om,.aJ b2 [.pointer (some ⟨sp,0,none⟩)] wu] [Ext w] W→∀k,KB b9 q l.length k→¬Mb [.aJ b6 [.int .i64 ((nn:Nat):Int)] om,.aJ b7 [.pointer (some ⟨g2,(s.ps.length - 1)*2,none⟩)] vH,.aJ b5 [.int .i64 0] wo,.aJ b4 [.int .i64 0] om,.aJ b2 [.pointer (some ⟨sp,0,none⟩)] wu] k:=fun nn W hok k hk hm=>by
   rcases hk with rfl|⟨h,a,e,rfl⟩
   ·obtain⟨q',hq,hk⟩:=hm
    simp only[List.mem_cons,List.not_mem_nil,or_false]at hq
    obtain⟨n1,n2,n3,n4,n5⟩:=hne
    rcases hq with rfl|rfl|rfl|rfl|rfl
    ·exact n1 hk
    ·exact n2 hk
    ·exact n3 hk
    ·exact n4 hk
    ·exact n5 hk
   ·exact hok.origin (S:=fun _=>False) Hc _ hm (hqb a h e)
  refine gP.BY (encs:=Bx) (Kp:=KD (KB b9 q l.length)) (full:=bwd l) rfl rfl (zX b9 q d l w1 hRB Hb) (fun h k=>h.trans k) (fun W l' r r' hW hl' _=>KD.put ?_) (fun _=>rfl) rfl
   (fun pre W=>∃nn:Nat,Ok [.aJ b6 [.int .i64 ((nn:Nat):Int)] om,.aJ b7 [.pointer (some ⟨g2,(s.ps.length - 1)*2,none⟩)] vH,.aJ b5 [.int .i64 0] wo,.aJ b4 [.int .i64 0] om,.aJ b2 [.pointer (some ⟨sp,0,none⟩)] wu] [Ext w] W∧s.at_≤nn∧nn≤s.ts.length∧gq s (l.reverse.drop pre.length) nn=gq s l.reverse s.ts.length)
   (fun c pre W=>c=.ret∧∃ee:Int,Ok [.aJ b7 [.pointer (some ⟨g2,(s.ps.length - 1)*2,none⟩)] vH,.aJ b5 [.int .i64 ee] wo,.aJ b4 [.int .i64 0] om,.aJ b2 [.pointer (some ⟨sp,0,none⟩)] wu] [Ext w] W∧gq s l.reverse s.ts.length=(0,ee)) ?_ ?_ ⟨s.ts.length,hw1.sub bN (fun _ h=>h),hle,Nat.le_refl _,rfl⟩
   (fun x=>[(9,.int .i64 x.2),(1,.slice q l.length d),(2,.pointer (some ⟨b2,0,none⟩)),(4,.pointer (some ⟨b4,0,none⟩)),(5,.pointer (some ⟨b5,0,none⟩)),(6,.pointer (some ⟨b6,0,none⟩)),(7,.pointer (some ⟨b7,0,none⟩))]) ?_ ?_ ?_ ?_
  ·intro hk
   have hlt:l'<w1.heap.size:=by
    rcases hk with rfl|⟨h,a,e,rfl⟩
    ·exact f9
    ·exact Nat.lt_of_lt_of_le (hqb a h e) hx1.size
   omega
  ·rintro pre A A' row ⟨nn,h,h1,h2,h3⟩ hg hr
   exact⟨nn,h.grow hx1.size hg hr fun r o h1 h2 h3 h4=>absurd (lowM nn r h4) Hb,h1,h2,h3⟩
  ·rintro c pre A A' row ⟨e,ee,h,h3⟩ hg hr
   exact⟨e,ee,h.grow hx1.size hg hr fun r o h1 h2 h3 h4=>absurd (lowX ee r h4) Hb,h3⟩
  ·intro l' x W2 K hK
   refine um ?_
   exact dt.Be (fun a ha=>hK a (ha.sub bR))
  ·rintro l' pre x W2 ⟨nn,hok,h1,h2,h3⟩ hN
   obtain⟨hpl,hdr⟩:=zW hN
   rw[hdr,gq]at h3
   obtain⟨S0,hS0⟩:∃S0,S0=Mb [.aJ b6 [.int .i64 ((nn:Nat):Int)] om,.aJ b7 [.pointer (some ⟨g2,(s.ps.length - 1)*2,none⟩)] vH,.aJ b5 [.int .i64 0] wo,.aJ b4 [.int .i64 0] om,.aJ b2 [.pointer (some ⟨sp,0,none⟩)] wu]:=⟨_,rfl⟩
   have hok':=hok.bW
   rw[←hS0]at hok'
   have fin:∀{W':World},bA S0 W2 W'→sO #[20,21] w1.heap.size W2 W'∧KD (KB b9 q l.length) W2 W':=fun{W'} hc=>by
    have hk0:=keepM nn W2 hok
    rw[←hS0]at hk0
    refine⟨⟨hc.size,fun k o hk ho _=>?_⟩,hc.size,fun k hlt hk=>hc.block k hlt (hk0 k hk)⟩
    rw[hc.block k (Array.getElem?_eq_some_iff.1 ho).1 (fun hs=>by rw[hS0]at hs;have:=lowM nn k hs;omega)];exact ho
   refine fJ.at hok' ?_
   by_cases he:(nn:Int)=s.at_
   ·rw[if_pos he]at h3
    obtain⟨lo,hlo⟩:∃b,s.loose=b:=⟨_,rfl⟩
    rw[hlo]at a2 h3
    cases lo with
    |true=>
     rw[if_pos rfl]at h3
     refine zI ?_
     refine⟨fun W' hw'=>⟨fun a ha=>?_⟩⟩
     obtain⟨k1,k2⟩:=fin hw'.at
     exact⟨k1,k2,nn,hw'.sub bN aY,h1,h2,by rw[←h3];simp⟩
    |false=>
     rw[if_neg Hc]at h3
     refine zI ?_
     refine aP.m6 (gj.aM [.int .i64 0] rfl rfl rfl rfl rfl rfl bJ rfl) rfl ?_
     rintro⟨⟩ _
     refine zI ?_
     refine aP.m6 (gj.aM [.int .i64 13] rfl rfl rfl rfl rfl rfl bJ rfl) rfl ?_
     rintro⟨⟩ _
     refine zI ?_
     refine⟨fun W' hw'=>⟨fun a ha=>?_⟩⟩
     obtain⟨k1,k2⟩:=fin hw'.at
     exact⟨k1,k2,rfl,13,hw'.sub bN aY,h3.symm⟩
   ·rw[if_neg he]at h3
    obtain⟨g1,rfl⟩:=hg1 Hb
    have b1:=dL o1 (mX (l:=s.ts) (i:=nn - 1) Hb)
    have e1:(nn:Int) - 1=((nn - 1:Nat):Int):=by omega
    by_cases hM:ix s.ts (nn - 1)≠x.2∧ix s.ts (nn - 1)≠0∧x.2≠0
    ·rw[if_pos hM]at h3
     obtain⟨m1,m2,m3⟩:=hM
     refine zI ?_
     refine aP.m6 (gj.aM [.int .i64 ((nn:Int) - 1)] rfl rfl rfl rfl rfl rfl bJ rfl) rfl ?_
     rintro⟨⟩ _
     rw[e1]
     refine zI ?_
     refine aP.m6 (gj.aM [.int .i64 0] rfl rfl rfl rfl rfl rfl bJ rfl) rfl ?_
     rintro⟨⟩ _
     refine zI ?_
     refine aP.m6 (gj.aM [.int .i64 12] rfl rfl rfl rfl rfl rfl bJ rfl) rfl ?_
     rintro⟨⟩ _
     refine zI ?_
     refine⟨fun W' hw'=>⟨fun a ha=>?_⟩⟩
     obtain⟨k1,k2⟩:=fin hw'.at
     exact⟨k1,k2,rfl,12,hw'.sub bN aY,h3.symm⟩
    ·rw[if_neg hM]at h3
     rcases(show(ix s.ts (nn - 1)=x.2)∨(ix s.ts (nn - 1)≠x.2∧ix s.ts (nn - 1)=0)∨(ix s.ts (nn - 1)≠x.2∧ix s.ts (nn - 1)≠0∧x.2=0)from by omega)with m1|⟨m1,m2⟩|⟨m1,m2,m3⟩
     all_goals
      refine zI ?_
      refine aP.m6 (gj.aM [.int .i64 ((nn:Int) - 1)] rfl rfl rfl rfl rfl rfl bJ rfl) rfl ?_
      rintro⟨⟩ _
      rw[e1]
      refine zI ?_
      refine⟨fun W' hw'=>⟨fun a ha=>?_⟩⟩
      obtain⟨k1,k2⟩:=fin hw'.at
      exact⟨k1,k2,nn - 1,hw'.sub bN aY,by omega,by omega,by rw[←h3];simp⟩
  ·rintro Dn W2 hD ⟨nn,hok,h1,h2,h3⟩ hK
   rw[mF,show l.length=l.reverse.length from by simp,List.drop_length,gq]at h3
   rw[←h3]
   have hok2:Ok [.aJ b6 [.int .i64 ((nn:Nat):Int)] om,.aJ b7 [.pointer (some ⟨g2,(s.ps.length - 1)*2,none⟩)] vH,.aJ b5 [.int .i64 0] wo,.aJ b4 [.int .i64 0] om,.aJ b2 [.pointer (some ⟨sp,0,none⟩)] wu] [fun W=>W.heap[Dn]?=some (.deferred (some [])),Ext w] W2:=hok.add fun w' hc=>by
    rw[hc.block Dn (Array.getElem?_eq_some_iff.1 hK).1 (fun hs=>by have:=lowM nn Dn hs;omega)];exact hK
   refine ec.at hok2 ?_
   refine zJ ?_
   refine aP.m6 (gj.aM [.int .i64 nn] rfl rfl rfl rfl rfl rfl bJ rfl) rfl ?_
   rintro⟨⟩ _
   refine zJ ?_
   refine aP.m6 (gj.aM [.int .i64 0] rfl rfl rfl rfl rfl rfl bJ rfl) rfl ?_
   rintro⟨⟩ _
   refine zJ ?_
   refine⟨fun W' hw'=>?_⟩
   have hK':W'.heap[Dn]?=some (.deferred (some [])):=hw'.at
   have hx':Ext w (W'.putObj Dn (.deferred none)):=(hw'.sub (List.Sublist.refl _) (R':=[Ext w]) aY |>.grow (row:=some Dn) (B:=w1.heap.size) hx1.size (grownBy_putObj' W' Dn (.deferred none)) (fun r e=>by cases e;exact⟨hD,_,hK',rfl⟩) (fun r o h1 h2 h3 h4=>absurd (lowG _ _ _ r h4) Hb)).at
   have q4:W'.cell? ⟨b4,0,none⟩=some (.int .i64 nn):=hw'.c1 bJ rfl
   have q5:W'.cell? ⟨b5,0,none⟩=some (.int .i64 0):=hw'.c1 bJ rfl
   refine dt.AF (.inl rfl) hK' (rh rfl rfl rfl rfl (mG q4 (show b4≠Dn by omega)) rfl rfl rfl (mG q5 (show b5≠Dn by omega))) ⟨rfl,hx'⟩
  ·rintro Dn c pre W2 hD hpre ⟨rfl,ee,hok,h3⟩ hK
   rw[h3]
   have hok2:Ok [.aJ b7 [.pointer (some ⟨g2,(s.ps.length - 1)*2,none⟩)] vH,.aJ b5 [.int .i64 ee] wo,.aJ b4 [.int .i64 0] om,.aJ b2 [.pointer (some ⟨sp,0,none⟩)] wu] [fun W=>W.heap[Dn]?=some (.deferred (some [])),Ext w] W2:=hok.add fun w' hc=>by
    rw[hc.block Dn (Array.getElem?_eq_some_iff.1 hK).1 (fun hs=>by have:=lowX ee Dn hs;omega)];exact hK
   refine fJ.at hok2 ?_
   refine zJ ?_
   refine⟨fun W' hw'=>?_⟩
   have hK':W'.heap[Dn]?=some (.deferred (some [])):=hw'.at
   have hx':Ext w (W'.putObj Dn (.deferred none)):=(hw'.sub (List.Sublist.refl _) (R':=[Ext w]) aY |>.grow (row:=some Dn) (B:=w1.heap.size) hx1.size (grownBy_putObj' W' Dn (.deferred none)) (fun r e=>by cases e;exact⟨hD,_,hK',rfl⟩) (fun r o h1 h2 h3 h4=>absurd (lowX ee r h4) Hb)).at
   have q4:W'.cell? ⟨b4,0,none⟩=some (.int .i64 0):=hw'.c1 bJ rfl
   have q5:W'.cell? ⟨b5,0,none⟩=some (.int .i64 ee):=hw'.c1 bJ rfl
   refine dt.AF (.inl rfl) hK' (rh rfl rfl rfl rfl (mG q4 (show b4≠Dn by omega)) rfl rfl rfl (mG q5 (show b5≠Dn by omega))) ⟨rfl,hx'⟩
 ·repeat'(first|refine uo ?_|(refine aI.Aj om ?_;refine aI.he rfl rfl (HE.alloc (t:=om) [.int .i64 0] rfl rfl) (fun _=>bN) (fun _=>aY) ?_;intro b_ _)|(refine aI.Aj vH ?_;refine aI.he rfl rfl (HE.alloc (t:=vH) [.pointer none] rfl rfl) (fun _=>bN) (fun _=>aY) ?_;intro b_ _)|(refine aI.eU 134 ?_;refine aI.he rfl rfl (HE.kp rfl rfl (fun w' hw'=>jK sp s.ps.length c2 g2 w' ((show Ext w w' from hw'.at).cell k1) hp hn2)) (fun _=>bN) (fun _=>aY) ?_;rintro⟨⟩ _)|(refine aI.yF ?_;refine aI.m6 rfl (gj.aM _ rfl rfl rfl rfl rfl rfl bJ rfl) (fun _=>bN) (fun _=>aY) ?_;rintro⟨⟩ _)|refine aK.nil G6 ?_|refine aK.any G6 ?_|exact aC.fin rfl|refine aC.skip G6 ?_|refine aC.go ?_ ?_)
  all_goals exact ai.bV (hrest (_,_)) bR cT aY
set_option maxHeartbeats 4000000 in
theorem dX (D:Nat→Prop) (sp:Nat) (s:cZ) (x:Value×Value) (v:Value) (l:List Int) (w:World) (hw:Ok (ay sp s x) [fun w=>af D w v l] w) (hp:0<s.ps.length) (h0:0≤s.at_) (hle:s.at_≤s.ts.length):
  Calls G.P 85 #[.pointer (some ⟨sp,0,none⟩),v] w (dr sp s x (.int .i64 (aT s l).2) (aT s l).1 w):=by
 obtain⟨v1,v2⟩:=x;obtain⟨⟨p1,c1,e1,hcap,hg1⟩,⟨p2,c2,e2,hg2⟩,hn1,hn2⟩:=sG sp s (v1,v2) hw (List.Sublist.refl _);dsimp only at e1 e2;subst e1;subst e2;obtain⟨g2,rfl⟩:=hg2 hp
 have hI:af D w v l:=hw.get (p:=fun w=>af D w v l) Hc
 obtain⟨q,d,rfl,hl⟩:=hI.slice
 refine aj (l:=[_,_]) Tryz.func85 rfl Tryz.ntmps85 rfl (Ok.bW hw) ?_
 unfold dr
 obtain⟨r,hr⟩:∃r,gq s l.reverse s.ts.length=r:=⟨_,rfl⟩
 obtain⟨n,e⟩:=r
 have hlf:∀w',Ok (ay sp s (.slice p1 s.ts.length c1,.slice (some ⟨g2,0,none⟩) s.ps.length c2)) [fun w=>af D w (.slice q l.length d) l] w'→Calls G.P 133 #[.pointer (some ⟨sp,0,none⟩),.slice q l.length d] w' fun ee w''=>ee=.returned (.tuple #[.int .i64 (n:Nat),.int .i64 e])∧Ext w' w'':=fun w' hw'=>by
  have:=pT D sp s _ _ l w' hw' hp h0 hle
  rw[hr]at this;exact this
 have hwk:aT s l=if e=0 then({s with ts:=s.ts.take n},0)else(s,e):=by unfold aT;rw[hr]
 have hnl:e=0→n≤s.ts.length:=fun h=>by
  have:=jz l.reverse s.ts.length hle (by rw[hr];exact h)
  rw[hr]at this;exact this.2
 rw[hwk]
 generalize hS:Mb (ay sp s (.slice p1 s.ts.length c1,.slice (some ⟨g2,0,none⟩) s.ps.length c2))=S0;unfold ay;dsimp only
 repeat'(first|refine ax ?_|refine Gt ?_|(refine aa.ak (f:=133) ?_;refine aa.az rfl rfl rfl (fun w' hw'=>hlf w' (hw'.sub (List.Sublist.refl _) aY)) ?_)|(refine aa.y_ (Yl.cn (i:=n) rfl rfl rfl rfl rfl rfl (Nat.le_trans (hnl hc_) hcap)) rfl ?_)|(refine aO ?_ ?_<;>intro hc_))
 ·subst hc_
  rw[if_pos rfl]
  dsimp only
  refine ai.jZ n bJ (hnl rfl) ?_
  exact ai.aA rfl rfl fun w' hw'=>by
   have hn:=hnl rfl
   refine aq.nj (x:=(_,_)) trivial hS hw' (gH rfl rfl rfl (by simp;omega) (by simp[aU,List.map_take]) rfl rfl rfl) ao
 ·rw[if_neg hc_]
  dsimp only
  exact qr
theorem nH:∀(l:List (Int×Bool)) (k:Nat),(bw l).take (k*2)=bw (l.take k)
 |[],k=>by simp[bw]
 |a::r,0=>by simp[bw]
 |a::r,k+1=>by
  have ih:=nH r k
  have e:(k+1)*2=k*2+2:=by omega
  show((kt a)++bw r).take ((k+1)*2)=kt a++bw (r.take k)
  rw[←ih,e]
  simp[kt]
theorem ph:∀(l:List (Int×Bool)) (k:Nat) (b:Bool),(bw l).set (k*2+1) (.bool b)=bw (l.set k ((ix l k).1,b))
 |[],k,b=>by simp[bw]
 |a::r,0,b=>by
  show((kt a)++bw r).set 1 (.bool b)=kt (a.1,b)++bw r
  rfl
 |a::r,k+1,b=>by
  have ih:=ph r k b
  have e:(k+1)*2+1=k*2+1+1+1:=by omega
  show((kt a)++bw r).set ((k+1)*2+1) (.bool b)=kt a++bw (r.set k ((ix (a::r) (k+1)).1,b))
  rw[show ix (a::r) (k+1)=ix r k from by simp[ix],←ih,e]
  rfl
theorem vd (l:List (Int×Bool)) (a:Int×Bool):bw (l++[a])=bw l++kt a:=by unfold bw;rw[List.flatMap_append];simp
set_option maxHeartbeats 4000000 in
theorem pR (sp:Nat) (s:cZ) (x:Value×Value) (w:World) (hw:Ok (ay sp s x) [] w) (hp:0<s.ps.length) (hpl:s.ps.length≤1000000):
  Calls G.P 50 #[.pointer (some ⟨sp,0,none⟩)] w (dr sp s x (.tuple #[]) (eX s) w):=by
 obtain⟨v1,v2⟩:=x;obtain⟨⟨p1,c1,e1,hcap,hg1⟩,⟨p2,c2,e2,hg2⟩,hn1,hn2⟩:=sG sp s (v1,v2) hw (List.Sublist.refl _);dsimp only at e1 e2;subst e1;subst e2;obtain⟨g2,rfl⟩:=hg2 hp
 refine aj (l:=[_]) Tryz.func50 rfl Tryz.ntmps50 rfl (Ok.bW hw) ?_
 unfold dr
 generalize hS:Mb (ay sp s (.slice p1 s.ts.length c1,.slice (some ⟨g2,0,none⟩) s.ps.length c2))=S0;unfold ay;dsimp only
 repeat'(first|refine ax ?_|refine Gt ?_|fail)
 refine aQ.cA [0,1,2,3,4,5,6,7,8,9,10,11,12,13,14] 15 [.aJ sp [.slice p1 s.ts.length c1,.slice (some ⟨g2,0,none⟩) s.ps.length c2,.bool (cB s)] fS,.own 0 fl 1 (.slice p1 s.ts.length c1) s.ts.length (aU s.ts)] [] G7 bN aY ?_
 refine jM ?_
 refine FX ?_
 intro b3 _
 refine FY ?_
 intro v2 _
 refine aN.pure (φ:=∃p c,v2=.slice p (s.ps.length+1) c) (fun w' hw'=>?_) ?_
 ·obtain⟨p,c,e,_⟩:=av (hw'.own (v:=v2));exact⟨p,c,e⟩
 rintro⟨p3,c3,rfl⟩
 refine jM ?_
 refine aN.hG (gj.er rfl rfl rfl rfl rfl bJ mi) rfl ?_
 rintro⟨⟩ _
 refine dy ?_
 exact ai.kJ rfl fun w' hw'=>aq.nj (x:=(_,_)) trivial hS (hw'.bV (M':=[.aJ sp [.slice p1 s.ts.length c1,.slice p3 (s.ps.length+1) c3,.bool (cB s)] fS,.own 0 fl 1 (.slice p1 s.ts.length c1) s.ts.length (aU s.ts),.own 0 fR 2 (.slice p3 (s.ps.length+1) c3) (s.ps.length+1) _]) cT (fun _ h=>h)) (gH rfl rfl rfl rfl rfl (by simp[eX]) (by simp[eX,vd];rfl) rfl) ao
set_option maxHeartbeats 4000000 in
theorem pS (D:Nat→Prop) (sp:Nat) (s:cZ) (x:Value×Value) (v:Value) (l:List Int) (w:World) (hw:Ok (ay sp s x) [fun w=>af D w v l] w) (h2p:2≤s.ps.length) (h0:0≤s.at_) (hle:s.at_≤s.ts.length):
  Calls G.P 88 #[.pointer (some ⟨sp,0,none⟩),v] w (dr sp s x (.int .i64 (dA s l).2) (dA s l).1 w):=by
 have hp:0<s.ps.length:=by omega
 obtain⟨v1,v2⟩:=x;obtain⟨⟨p1,c1,e1,hcap,hg1⟩,⟨p2,c2,e2,hg2⟩,hn1,hn2⟩:=sG sp s (v1,v2) hw (List.Sublist.refl _);dsimp only at e1 e2;subst e1;subst e2;obtain⟨g2,rfl⟩:=hg2 hp
 have hcap2:s.ps.length≤c2:=by
  obtain⟨p',c',e,h,-⟩:=av (show w.ownsRow 0 fR 2 (.slice (some ⟨g2,0,none⟩) s.ps.length c2) s.ps.length (bw s.ps)from(hw.m (.own 0 fR 2 (.slice (some ⟨g2,0,none⟩) s.ps.length c2) s.ps.length (bw s.ps)) (by simp[ay])).1)
  cases e;exact h
 have hI:af D w v l:=hw.get (p:=fun w=>af D w v l) Hc
 obtain⟨q,d,rfl,hl⟩:=hI.slice
 have a1:(bw s.ps)[(s.ps.length - 1)*2]?=some (.int .i64 s.at_):=(jF (l:=s.ps) (i:=s.ps.length - 1) Hb).1
 refine aj (l:=[_,_]) Tryz.func88 rfl Tryz.ntmps88 rfl (Ok.bW hw) ?_
 unfold dr
 obtain⟨r,hr⟩:∃r,gq s l.reverse s.ts.length=r:=⟨_,rfl⟩
 obtain⟨n,e⟩:=r
 have hlf:∀w',Ok (ay sp s (.slice p1 s.ts.length c1,.slice (some ⟨g2,0,none⟩) s.ps.length c2)) [fun w=>af D w (.slice q l.length d) l] w'→Calls G.P 133 #[.pointer (some ⟨sp,0,none⟩),.slice q l.length d] w' fun ee w''=>ee=.returned (.tuple #[.int .i64 (n:Nat),.int .i64 e])∧Ext w' w'':=fun w' hw'=>by
  have:=pT D sp s _ _ l w' hw' hp h0 hle
  rw[hr]at this;exact this
 have hwk:dA s l=if e≠0 then(s,e)else if s.at_<n then(s,14)else({s with ts:=s.ts.take n,ps:=s.ps.take (s.ps.length - 1)},0):=by
  unfold dA;rw[hr];dsimp only;rw[if_neg (show¬s.ps.length=1 by omega)]
 have hnl:e=0→n≤s.ts.length:=fun h=>by
  have:=jz l.reverse s.ts.length hle (by rw[hr];exact h)
  rw[hr]at this;exact this.2
 rw[hwk]
 generalize hS:Mb (ay sp s (.slice p1 s.ts.length c1,.slice (some ⟨g2,0,none⟩) s.ps.length c2))=S0;unfold ay;dsimp only
 repeat'(first|refine ax ?_|refine Gt ?_|refine Gu ?_|(refine aa.ak (f:=133) ?_;refine aa.az rfl rfl rfl (fun w' hw'=>hlf w' (hw'.sub (List.Sublist.refl _) aY)) ?_)|(refine aa.bX ?_;refine aa.y_ (Yl.fM rfl rfl rfl rfl a1 gi) rfl ?_)|(refine aa.y_ (Yl.cn (i:=n) rfl rfl rfl rfl rfl rfl (Nat.le_trans (hnl Hb) hcap)) rfl ?_)|(refine aO ?_ ?_<;>intro hc_))
 ·rw[if_pos hc_]
  dsimp only
  exact qr
 ·rw[if_neg G8,if_pos G8]
  dsimp only
  exact qr
 ·have hn:=hnl Hb
  rw[if_neg G8,if_neg G8]
  dsimp only
  refine aQ.cA [0,1,2,3,4,5,6,7,8,9,10,11,12,13] 14 _ _ G7 (List.Sublist.refl _) (fun _ h=>h) ?_
  refine jM ?_
  refine aN.y_ (Yl.cn (i:=s.ps.length - 1) rfl rfl rfl rfl rfl Hb Hb) rfl ?_
  refine jM ?_
  refine aN.hG (gj.er rfl rfl rfl rfl rfl bJ mi) rfl ?_
  rintro⟨⟩ _
  refine dy ?_
  refine ai.jZ n bJ hn ?_
  refine ai.jZ (s.ps.length - 1) (bJ (q:=.own 0 fR 2 _ _ _)) Hb ?_
  exact ai.aA rfl rfl fun w' hw'=>aq.nj (x:=(_,_)) trivial hS hw' (gH rfl rfl rfl (by simp;omega) (by simp[aU,List.map_take]) Hc (nH _ _) rfl) ao
set_option maxHeartbeats 4000000 in
theorem ud (sp:Nat) (s:cZ) (x:Value×Value) (w:World) (hw:Ok (ay sp s x) [] w) (hp:0<s.ps.length) (h0:0≤s.at_) (hle:s.at_≤s.ts.length):
  Calls G.P 92 #[.pointer (some ⟨sp,0,none⟩)] w (dr sp s x (.tuple #[]) (gA s) w):=by
 obtain⟨v1,v2⟩:=x;obtain⟨⟨p1,c1,e1,hcap,hg1⟩,⟨p2,c2,e2,hg2⟩,hn1,hn2⟩:=sG sp s (v1,v2) hw (List.Sublist.refl _);dsimp only at e1 e2;subst e1;subst e2;obtain⟨g2,rfl⟩:=hg2 hp
 have e0:(bw s.ps).set ((s.ps.length - 1)*2+1) (.bool true)=bw (s.ps.set (s.ps.length - 1) (s.at_,true)):=ph _ _ _
 have hsl:(s.ps.set (s.ps.length - 1) (s.at_,true)).length=s.ps.length:=List.length_set
 have a1:(bw (s.ps.set (s.ps.length - 1) (s.at_,true)))[(s.ps.length - 1)*2]?=some (.int .i64 s.at_):=by
  have:=(jF (l:=s.ps.set (s.ps.length - 1) (s.at_,true)) (i:=s.ps.length - 1) (by rw[hsl];omega)).1
  rw[this]
  congr 2
  rw[cw (by rw[hsl];omega)];simp
 refine aj (l:=[_]) Tryz.func92 rfl Tryz.ntmps92 rfl (Ok.bW hw) ?_
 unfold dr
 generalize hS:Mb (ay sp s (.slice p1 s.ts.length c1,.slice (some ⟨g2,0,none⟩) s.ps.length c2))=S0;unfold ay;dsimp only
 repeat'(first|refine ax ?_|refine Gt ?_|refine Gu ?_|fail)
 refine aa.m6 (gj.Bc rfl rfl rfl rfl rfl rfl bJ (by unfold bw;rw[fP kt (s:=2) (fun _=>rfl)];omega)) ?_
 rintro⟨⟩ _
 rw[e0]
 refine dy ?_
 refine aQ.cA [0,1,2,3,4,5,6,7,8,9,10,11] 12 _ _ G7 (List.Sublist.refl _) (fun _ h=>h) ?_
 refine jM ?_
 refine aN.y_ (Yl.fM rfl rfl rfl rfl a1 gi) rfl ?_
 refine jM ?_
 refine aN.y_ (Yl.cn (i:=s.at_.toNat) rfl rfl rfl rfl rfl Hb Hb) rfl ?_
 refine jM ?_
 refine aN.hG (gj.er rfl rfl rfl rfl rfl bJ mi) rfl ?_
 rintro⟨⟩ _
 refine dy ?_
 refine ai.jZ s.at_.toNat bJ Hb ?_
 exact ai.kJ rfl fun w' hw'=>aq.nj (x:=(_,_)) trivial hS hw' (gH rfl rfl rfl (by simp[gA];omega) (by simp[gA,aU,List.map_take]) (by simp[gA]) rfl rfl) ao
set_option maxHeartbeats 4000000 in
theorem lJ (xs:List Int) (p:Option Addr) (c:Nat) (w:World) (hrd:xs.length=0∨∃bk o,p=some ⟨bk,o,none⟩∧∀j u,(aU xs)[j]?=some u→w.cell? ⟨bk,o+j,none⟩=some u) (hl:xs.length≤17592186044416):
  Calls G.P 45 #[.slice p xs.length c] w (aq [] w (fun u:Value=>u) (fun _=>True) (fun u=>[.own 0 fl 1 u xs.length (aU xs)])):=by
 refine aj (l:=[_]) Tryz.func45 rfl Tryz.ntmps45 rfl (Ok.start w) ?_
 repeat'(first|refine ax ?_|(refine aO ?_ ?_<;>intro hc_))
 ·have hp:p=none:=by cases p with|none=>rfl|some a=>cases hc_
  subst hp
  have h0:xs.length=0:=by
   rcases hrd with h|⟨bk,o,e,-⟩
   ·exact h
   ·cases e
  have hx:xs=[]:=List.eq_nil_of_length_eq_zero h0
  subst hx
  exact ai.aA rfl rfl fun w' hw'=>aq.uy (x:=Value.slice none 0 0) trivial (hw'.iC 0 fl 1) (by exact List.Sublist.refl _) ao
 ·refine AC ?_
  intro b _
  refine aa.pV 1 bJ rfl (Nat.zero_le _) ?_
  refine dy ?_
  refine aa.he (HE.kF (aU xs) rfl rfl (fun _=>bJ) (hrd.imp id fun⟨bk,o,e,h⟩=>⟨bk,o,e,fun w' hw' j u hj=>(show Ext w w' from hw'.at).cell (h j u hj)⟩) (by simp[aU]) rfl rfl rfl Hd Hd Hd (gL _) (by show(0+xs.length)*8≤_;omega) Hb (fun _ _=>Nat.zero_le _)) rfl ?_
  intro u _
  simp only[Nat.zero_add,List.nil_append]
  refine dy ?_
  exact ai.aA rfl rfl fun w' hw'=>aq.uy (x:=u) trivial hw' bN ao
theorem xF (sp:Nat) (s:cZ) (x:Value×Value) (w:World) (hw:Ok (ay sp s x) [] w) (hp:0<s.ps.length) (hl:s.ts.length≤17592186044416):
  Calls G.P 30 #[.pointer (some ⟨sp,0,none⟩)] w (aq [] w (fun u:Value=>u) (fun _=>True) (fun u=>[.own 0 fl 1 u s.ts.length (aU s.ts)])):=by
 obtain⟨v1,v2⟩:=x;obtain⟨⟨p1,c1,e1,hcap,hg1⟩,⟨p2,c2,e2,hg2⟩,hn1,hn2⟩:=sG sp s (v1,v2) hw (List.Sublist.refl _);dsimp only at e1 e2;subst e1;subst e2;obtain⟨g2,rfl⟩:=hg2 hp
 have k0:w.cell? ⟨sp,0,none⟩=some (.slice p1 s.ts.length c1):=hw.c1 (T:=fS) (cs:=[.slice p1 s.ts.length c1,.slice (some ⟨g2,0,none⟩) s.ps.length c2,.bool (cB s)]) Up.head rfl
 have k1:w.cell? ⟨sp,1,none⟩=some (.slice (some ⟨g2,0,none⟩) s.ps.length c2):=hw.c1 (T:=fS) (cs:=[.slice p1 s.ts.length c1,.slice (some ⟨g2,0,none⟩) s.ps.length c2,.bool (cB s)]) Up.head rfl
 have o1:w.ownsRow 0 fl 1 (.slice p1 s.ts.length c1) s.ts.length (aU s.ts):=(hw.m (.own 0 fl 1 (.slice p1 s.ts.length c1) s.ts.length (aU s.ts)) (by simp[ay])).1
 have hrd:s.ts.length=0∨∃bk o,p1=some ⟨bk,o,none⟩∧∀j u,(aU s.ts)[j]?=some u→w.cell? ⟨bk,o+j,none⟩=some u:=by
  by_cases h0:s.ts.length=0
  ·exact .inl h0
  ·obtain⟨g,rfl⟩:=hg1 Hb
   exact .inr ⟨g,0,rfl,fun j u hj=>by rw[Nat.zero_add];exact dL o1 hj⟩
 refine aj (l:=[_]) Tryz.func30 rfl Tryz.ntmps30 rfl (Ok.start w) ?_
 repeat'(first|refine ax ?_|refine Gp ?_|fail)
 refine aa.he (HE.oI (M0:=[]) rfl rfl (fun w' hw'=>lJ s.ts p1 c1 w' (hrd.imp id fun⟨bk,o,e,h⟩=>⟨bk,o,e,fun j u hj=>(show Ext w w' from hw'.at).cell (h j u hj)⟩) hl)) rfl ?_
 intro u _
 refine dy ?_
 exact ai.aA rfl rfl fun w' hw'=>aq.uy (x:=u) trivial hw' (List.Sublist.refl _) ao
set_option maxHeartbeats 4000000 in
theorem xG (w:World):Calls G.P 49 #[] w (aq [] w (fun y:Nat×Value×Value=>.pointer (some ⟨y.1,0,none⟩)) (fun _=>True) (fun y=>ay y.1 ⟨[],[(0,false)],0⟩ y.2)):=by
 refine aj (l:=[]) Tryz.func49 rfl Tryz.ntmps49 rfl (Ok.start w) ?_
 repeat'(first|refine ax ?_|(refine gh fun b_ _=>?_)|(refine bz fun b_=>?_)|fail)
 all_goals exact ai.aA rfl rfl fun w' hw'=>aq.uy (x:=(_,_,_)) trivial ((((hw'.pV (s:=2) (len:=1) (Up.tail Up.head) rfl G0).iC 0 fl 1)).front (Rm.tail Rm.head)) (by exact List.Sublist.refl _) ao
structure sN (fs:List nw):Prop where
 kinds:∀i,i<fs.length→(ix fs i).kind=0∨(ix fs i).kind=2∨(ix fs i).kind=3∨(ix fs i).kind=4
 other:∀i,i<fs.length→(ix fs i).other=true→(ix fs i).kind=4
 first:0<fs.length→(ix fs 0).zD=true∧(ix fs 0).kind=0
theorem sN.snoc {fs:List nw} {f:nw} (h:sN fs) (hk:f.kind=0∨f.kind=2∨f.kind=3∨f.kind=4) (ho:f.other=true→f.kind=4) (hw:0<fs.length):sN (fs++[f]):=by
 have hl:(fs++[f]).length=fs.length+1:=by simp
 have e:∀i,i<fs.length→ix (fs++[f]) i=ix fs i:=fun i hi=>jy hi
 have e2:ix (fs++[f]) fs.length=f:=by rw[iz (Nat.le_refl _),Nat.sub_self];rfl
 refine⟨fun i hi=>?_,fun i hi=>?_,fun _=>by rw[e 0 hw];exact h.first hw⟩
 ·by_cases hlt:i<fs.length
  ·rw[e i hlt];exact h.kinds i hlt
  ·have:i=fs.length:=by omega
   subst this;rw[e2];exact hk
 ·by_cases hlt:i<fs.length
  ·rw[e i hlt];exact h.other i hlt
  ·have:i=fs.length:=by omega
   subst this;rw[e2];exact ho
theorem sN.take {fs:List nw} (h:sN fs) {n:Nat} (hn:n≤fs.length):sN (fs.take n):=by
 have hl:(fs.take n).length=n:=by rw[List.length_take];omega
 refine⟨fun i hi=>?_,fun i hi=>?_,fun h0=>?_⟩
 ·rw[hl]at hi;rw[jX hi hn];exact h.kinds i Hb
 ·rw[hl]at hi;rw[jX hi hn];exact h.other i Hb
 ·rw[hl]at h0;rw[jX h0 hn];exact h.first Hb
structure dq.Wf (c:dq):Prop where
 aG:c.aG.Wf
 many:c.aG.ps.length=c.fs.length+1
 fr:sN c.fs
 ended:c.fs.length=0→c.live=true
theorem As (r:List Int):(iB r).Wf:=by
 refine⟨⟨by simp[iB],fun i hi=>?_,fun i j hij hj=>?_,show(0:Int)≤0 from Int.le_refl _⟩,rfl,⟨fun i hi=>?_,fun i hi h=>?_,fun _=>⟨rfl,rfl⟩⟩,fun h=>by simp[iB]at h⟩
 ·have:i=0∨i=1:=by simp[iB]at hi;omega
  rcases this with rfl|rfl<;>simp[iB,ix]
 ·have:(i=0∨i=1)∧(j=0∨j=1):=by simp[iB]at hj;omega
  obtain⟨rfl|rfl,rfl|rfl⟩:=this<;>simp[iB,ix]
 ·have:i=0:=by simp[iB]at hi;exact hi
  subst this;exact .inl rfl
 ·have:i=0:=by simp[iB]at hi;exact hi
  subst this;cases h
theorem qE {c:dq} {s:cZ} {fs:List nw} {f:nw} (hs:s.Wf) (hm:s.ps.length=fs.length+1) (hf:sN (fs++[f])):(lS c s fs f).Wf:=
 ⟨mR (yX hs) _,by show(s.ps++[((s.ts.length:Int),false)]).length=(fs++[f]).length+1;simp[hm],hf,fun h=>by have h':(fs++[f]).length=0:=h;simp at h'⟩
theorem wM {c:dq} (h:c.Wf) (op:Int) (par res:List Int):(iu c op par res).1.Wf:=by
 unfold iu
 split
 ·exact h
 ·split
  ·exact h
  ·rename_i hop
   split
   ·exact h
   ·rename_i hn
    have ha:(if op=4 then aT c.aG [1]else(c.aG,0)).1.Wf∧(if op=4 then aT c.aG [1]else(c.aG,0)).1.ps=c.aG.ps:=by
     split
     ·exact⟨dx h.aG _,eu _ _⟩
     ·exact⟨h.aG,rfl⟩
    revert ha
    generalize (if op=4 then aT c.aG [1]else(c.aG,0))=a
    intro ha
    dsimp only
    split
    ·exact⟨h.aG,h.many,h.fr,h.ended⟩
    ·split
     ·exact⟨ha.1,by show a.1.ps.length=_;rw[ha.2];exact h.many,h.fr,h.ended⟩
     ·exact qE (dx ha.1 _) (by rw[eu,ha.2];exact h.many) (h.fr.snoc G2 (fun h=>by cases h) Hb)
theorem yz {c:dq} (h:c.Wf):(mH c).1.Wf:=by
 unfold mH
 split
 ·exact h
 ·split
  ·exact h
  ·rename_i hb hn
   simp only[not_or,Bool.not_eq_true]at hn
   obtain⟨h0,h4,h5⟩:=hn
   have h4':c.top.kind=4:=by omega
   dsimp only
   split
   ·exact⟨h.aG,h.many,h.fr,h.ended⟩
   ·rename_i he
    have hl:1<c.fs.length:=by
     rcases Nat.lt_or_ge 1 c.fs.length with h1|h1
     ·exact h1
     ·have h6:c.fs.length - 1=0:=by omega
      have:=(h.fr.first Hb).2
      have h7:(ix c.fs (c.fs.length - 1)).kind=4:=h4'
      rw[h6]at h7;omega
    refine qE (pN h.aG _) ?_ ?_
    ·have hm:=h.many
     rw[pM Hb,if_neg Hb,List.length_take,List.length_take];omega
    ·exact(h.fr.take Hb).snoc (.inr (.inr (.inr h4'))) (fun _=>h4') GW
theorem xg {c:dq} (h:c.Wf):(jY c).1.Wf:=by
 unfold jY
 split
 ·exact h
 ·split
  ·exact h
  ·rename_i hb h0
   dsimp only
   have hm:=h.many
   split
   ·exact⟨h.aG,h.many,h.fr,h.ended⟩
   ·rename_i he
    have hps:(dA c.aG c.top.res).1.ps.length=c.fs.length:=by
     rw[pM Hb,if_neg Hb,List.length_take];omega
    have hfl:(c.fs.take (c.fs.length - 1)).length=c.fs.length - 1:=by rw[List.length_take];omega
    split
    ·rename_i hk
     refine⟨pN h.aG _,by show(dA c.aG c.top.res).1.ps.length=(c.fs.take (c.fs.length - 1)).length+1;omega,h.fr.take Hb,fun hz=>?_⟩
     have hz':(c.fs.take (c.fs.length - 1)).length=0:=hz
     have h6:c.fs.length - 1=0:=by omega
     have h7:(ix c.fs (c.fs.length - 1)).kind=4:=hk.1
     rw[h6]at h7
     have:=(h.fr.first Hb).2
     omega
    ·refine⟨mR (pN h.aG _) _,by show(dA c.aG c.top.res).1.ps.length=(c.fs.take (c.fs.length - 1)).length+1;omega,h.fr.take Hb,fun hz=>?_⟩
     have hz':(c.fs.take (c.fs.length - 1)).length=0:=hz
     have h6:c.fs.length - 1=0:=by omega
     show(ix c.fs (c.fs.length - 1)).zD=true
     rw[h6];exact(h.fr.first Hb).1
theorem yx {c:dq} (h:c.Wf):(fD c).Wf:=by
 unfold fD
 split
 ·exact h
 ·rename_i hn
  simp only[not_or]at hn
  exact⟨xi h.aG,by show(c.aG.ps.set _ _).length=_;rw[List.length_set];exact h.many,h.fr,fun hz=>absurd hz hn.2⟩
abbrev fA:Nat:=132
abbrev nO:Nat:=143
def aV.iM {β:Type} (V:(Nat→Prop)→World→β→Prop) (hV:Bi V) (D:Nat→Prop) (x:β):aV:=⟨D,fun w=>V D w x,fun h hc hd=>hV h hc hd⟩
def fx (D:Nat→Prop) (w:World) (L:List (aE×Value×Value)):Prop:=∀y∈L,fa y.1 D w y.2
theorem fx.fr:Bi fx:=fun h hc hd y hy=>fa.fr y.1 (h y hy) hc hd
structure fU where
 sp:Nat
 tv:Value
 pv:Value
 bv:Value
 rv:Value
 fv:List (Value×Value)
 D:Nat→Prop
 L:List (aE×Value×Value)
def eO (f:nw) (x:Value×Value):List Value:=[.int .i64 f.kind,x.1,x.2,.bool f.other,.bool f.zD]
def cM:List nw→List (Value×Value)→List Value
 |f::r,x::s=>eO f x++cM r s
 |_,_=>[]
abbrev nw.fn (f:nw):aE:=⟨f.par,f.res⟩
structure fU.Good (v:fU) (c:dq):Prop where
 len:v.fv.length=c.fs.length
 fr:∀i,i<c.fs.length→((ix c.fs i).fn,ix v.fv i)∈v.L
 rs:(⟨[],c.results⟩,.slice none 0 0,v.rv)∈v.L
def aw (cp:Nat) (c:dq) (v:fU):List aV:=.aJ cp [.pointer (some ⟨v.sp,0,none⟩),v.bv,v.rv,.bool c.live,.int .i64 c.broken] fA::(ay v.sp c.aG (v.tv,v.pv)++[.own 0 nO 5 v.bv c.fs.length (cM c.fs v.fv),.iM fx fx.fr v.D v.L])
structure qz (cp:Nat) (c:dq) (v:fU) (w:World):Prop where
 b:dZ w cp [.pointer (some ⟨v.sp,0,none⟩),v.bv,v.rv,.bool c.live,.int .i64 c.broken] fA
 o:w.ownsRow 0 nO 5 v.bv c.fs.length (cM c.fs v.fv)
 l:fx v.D w v.L
theorem Ok.vN {cp:Nat} {c:dq} {v:fU} {M:List aV} {R:List (World→Prop)} {w:World} (h:Ok M R w) (hM:(aw cp c v).Sublist M):qz cp c v w:=
 ⟨(h.m (.aJ cp _ fA) (hM.subset (by simp[aw]))).1,(h.m (.own 0 nO 5 v.bv c.fs.length (cM c.fs v.fv)) (hM.subset (by simp[aw]))).1,(h.m (.iM fx fx.fr v.D v.L) (hM.subset (by simp[aw]))).1⟩
theorem jx:∀(fs:List nw) (fv:List (Value×Value)) (i j:Nat),fv.length=fs.length→i<fs.length→j<5→(cM fs fv)[i*5+j]?=(eO (ix fs i) (ix fv i))[j]?
 |[],_,i,j,_,h,_=>by simp at h
 |f::r,[],i,j,h,_,_=>by simp at h
 |f::r,x::s,0,j,_,_,hj=>by
  show(eO f x++cM r s)[0*5+j]?=_
  rw[Nat.zero_mul,Nat.zero_add,List.getElem?_append_left (by simp[eO];omega)]
  rfl
 |f::r,x::s,i+1,j,h,hi,hj=>by
  have ih:=jx r s i j G5 G4 hj
  show(eO f x++cM r s)[(i+1)*5+j]?=_
  rw[List.getElem?_append_right (by simp[eO];omega),show(i+1)*5+j - (eO f x).length=i*5+j from by simp[eO];omega,ih]
  simp[ix]
theorem qO:∀(fs:List nw) (fv:List (Value×Value)) (f:nw) (x:Value×Value),fv.length=fs.length→cM (fs++[f]) (fv++[x])=cM fs fv++eO f x
 |[],[],f,x,_=>by simp[cM]
 |[],y::s,_,_,h=>by simp at h
 |g::r,[],_,_,h=>by simp at h
 |g::r,y::s,f,x,h=>by
  show eO g y++cM (r++[f]) (s++[x])=eO g y++cM r s++eO f x
  rw[qO r s f x G5,List.append_assoc]
theorem oM:∀(fs:List nw) (fv:List (Value×Value)) (k:Nat),fv.length=fs.length→(cM fs fv).take (k*5)=cM (fs.take k) (fv.take k)
 |[],[],k,_=>by simp[cM]
 |[],y::s,_,h=>by simp at h
 |g::r,[],_,h=>by simp at h
 |g::r,y::s,0,h=>by simp[cM]
 |g::r,y::s,k+1,h=>by
  have ih:=oM r s k G5
  show(eO g y++cM r s).take ((k+1)*5)=eO g y++cM (r.take k) (s.take k)
  rw[←ih,show(k+1)*5=(eO g y).length+k*5 from by simp[eO];omega,List.take_length_add_append]
theorem qI (cp:Nat) (a:Addr) (w:World) (h:w.cell? ⟨cp,0,none⟩=some (.pointer (some a))):Calls G.P 43 #[.pointer (some ⟨cp,0,none⟩)] w fun e w'=>e=.returned (.bool true)∧Ext w w':=by
 refine aj (l:=[_]) Tryz.func43 rfl Tryz.ntmps43 rfl (Ok.start w) ?_
 repeat'(first|refine ax ?_|(refine aa.an ?_;refine aa.y_ (Yl.yP Tryz.underlying78 rfl rfl) rfl ?_)|(refine aa.an ?_;refine aa.yg (by first|rfl|fail) (Yl.yP Tryz.underlying109 rfl rfl) rfl ?_)|fail)
 all_goals exact mt
theorem il (cp:Nat) (a:Addr) (e0:Int) (w:World) (h:w.cell? ⟨cp,0,none⟩=some (.pointer (some a))) (h4:w.cell? ⟨cp,4,none⟩=some (.int .i64 e0)):Calls G.P 42 #[.pointer (some ⟨cp,0,none⟩)] w fun e w'=>e=.returned (.int .i64 e0)∧Ext w w':=by
 refine aj (l:=[_]) Tryz.func42 rfl Tryz.ntmps42 rfl (Ok.start w) ?_
 repeat'(first|refine ax ?_|(refine aa.ak (f:=43) ?_;refine aa.az rfl rfl rfl (fun w' hw'=>qI cp a w' ((show Ext w w' from hw'.at).cell h)) ?_)|fail)
 all_goals exact mt
theorem cW (cp:Nat) (a:Addr) (w:World) (h:w.cell? ⟨cp,0,none⟩=some (.pointer (some a))):Calls G.P 29 #[.pointer (some ⟨cp,0,none⟩)] w fun e w'=>e=.returned (.pointer (some a))∧Ext w w':=by
 refine aj (l:=[_]) Tryz.func29 rfl Tryz.ntmps29 rfl (Ok.start w) ?_
 repeat'(first|refine ax ?_|(refine aa.ak (f:=43) ?_;refine aa.az rfl rfl rfl (fun w' hw'=>qI cp a w' ((show Ext w w' from hw'.at).cell h)) ?_)|fail)
 all_goals exact mt
theorem Ax {g g':Prop} (h:g') (hw:ek g'→g:=by(intro hk_;(first|(refine aa.ak (f:=42) ?_;refine aa.az rfl rfl rfl (fun w' hw'=>il cp ⟨v.sp,0,none⟩ c.broken w' ((show Ext w w' from hw'.at).cell k0) ((show Ext w w' from hw'.at).cell k4)) ?_));exact hk_.out)):g:=hw ⟨h⟩
theorem wL (cp:Nat) (c:dq) (v:fU) (w:World) (h:qz cp c v w) (hb:c.broken=0):Calls G.P 28 #[.pointer (some ⟨cp,0,none⟩)] w fun e w'=>e=.returned (.bool c.live)∧Ext w w':=by
 have k0:=h.b.cell (j:=0) rfl
 have k3:=h.b.cell (j:=3) rfl
 have k4:=h.b.cell (j:=4) rfl
 refine aj (l:=[_]) Tryz.func28 rfl Tryz.ntmps28 rfl (Ok.start w) ?_
 repeat'(first|refine ax ?_|refine Ax ?_|fail)
 all_goals first|omega|exact ai.aA rfl rfl fun w' hw'=>⟨by rfl,hw'.at⟩
inductive lD:List aV→List aV→List aV→Prop
 |nil {M:List aV}:lD [] M M
 |cons {q:aV} {M M1 M0 Mr:List aV} (hr:Rm q M M1) (h:lD M0 M1 Mr):lD (q::M0) M Mr
theorem lD.perm {M0 M Mr:List aV} (h:lD M0 M Mr):M.Perm (M0++Mr):=by
 induction h with
 |nil=>exact List.Perm.refl _
 |cons hr _ ih=>exact hr.perm.trans (ih.cons _)
theorem cE {M0 M Mr:List aV} (h:lD M0 M Mr:=by(repeat(first|exact lD.nil|(apply lD.cons;·(repeat(first|with_reducible exact Rm.head|apply Rm.tail)))))):lD M0 M Mr:=h
section
variable {n:Nat} {E:Env} {M M0 Mr:List aV} {R:List (World→Prop)} {β:Type} {tf:β→Value} {φ:β→Prop} {M1:β→List aV} {f:Nat} {args:List Operand} {tys:Array TypeId} {vs:List Value}
theorem HE.aW (hr:lD M0 M Mr) (hf:G.fb[f]?=some true) (ha:ju E args=some vs)
  (hc:∀w,Ok M R w→Calls G.P f vs.toArray w (aq M0 w tf φ M1)):HE n (.call ⟨.value (.func f),args.toArray,tys⟩) E M R φ tf (fun x=>M1 x++Mr) (fun _=>R):=
 HE.call tf hf ha fun w hw=>(hc w hw).mono fun _e _w' ⟨x,e1,h1,h2,h3,h4⟩=>⟨x,e1,h1,(hw.perm hr.perm).frame h2 h3 h4⟩
end
theorem oQ {D:Nat→Prop} {w:World} {p:Option Addr} {n c:Nat} {xs:List Int} (h:af D w (.slice p n c) xs):xs.length=0∨∃bk o,p=some ⟨bk,o,none⟩∧∀j u,(aU xs)[j]?=some u→w.cell? ⟨bk,o+j,none⟩=some u:=by
 obtain⟨p',c',e,hl,h⟩:=h
 cases e
 rcases h with h|⟨b,o,rfl,hF,h⟩
 ·exact .inl (by rw[h];rfl)
 ·refine .inr ⟨b,o,rfl,fun j u hj=>?_⟩
  have hj':j<xs.length:=by have:=(List.getElem?_eq_some_iff.1 hj).1;simpa[aU]using this
  rw[h j hj',←hj]
  unfold aU
  rw[List.getElem?_map,gF hj'];rfl
theorem cR {D:Nat→Prop} (xs:List Int) (v:Value) (w:World) (h:af D w v xs):
  Calls G.P 45 #[v] w (aq [] w (fun u:Value=>u) (fun _=>True) (fun u=>[.own 0 fl 1 u xs.length (aU xs)])):=by
 obtain⟨p,c,rfl,hl⟩:=h.slice
 exact lJ xs p c w (oQ h) hl
def fV {β:Type} (w:World) (tf:β→Value) (M1:β→List aV):Ending→World→Prop:=aq [] w tf (fun _=>True) M1
theorem iX (cp:Nat) (c:dq) (v:fU) (w:World) (h:qz cp c v w) (hg:v.Good c) (hb:c.broken=0):Calls G.P 93 #[.pointer (some ⟨cp,0,none⟩)] w (fV w (fun u:Value=>u) (fun u=>[.own 0 fl 1 u c.results.length (aU c.results)])):=by
 have k0:=h.b.cell (j:=0) rfl
 have k2:=h.b.cell (j:=2) rfl
 have k4:=h.b.cell (j:=4) rfl
 have hI:=(h.l _ hg.rs).2
 dsimp only at hI
 unfold fV
 refine aj (l:=[_]) Tryz.func93 rfl Tryz.ntmps93 rfl (Ok.start w) ?_
 repeat'(first|refine ax ?_|refine Ax ?_|fail)
 all_goals first|omega|skip
 refine aa.he (HE.oI (M0:=[]) rfl rfl (fun w' hw'=>cR c.results v.rv w' (hI.aD (show Ext w w' from hw'.at) (fun _ _ _ h=>h)))) rfl ?_
 intro u _
 refine dy ?_
 exact ai.aA rfl rfl fun w' hw'=>aq.uy (x:=u) trivial hw' (List.Sublist.refl _) ao
set_option maxHeartbeats 8000000 in
theorem lY (cp:Nat) (c:dq) (v:fU) (n:Int) (w:World) (h:qz cp c v w) (hg:v.Good c) (hb:c.broken=0):Calls G.P 94 #[.pointer (some ⟨cp,0,none⟩),.int .i64 n] w (fV w (fun u:Value=>.tuple #[u,.int .i64 (bU c n).2]) (fun u=>[.own 0 fl 1 u (bU c n).1.length (aU (bU c n).1)])):=by
 have k0:=h.b.cell (j:=0) rfl
 have k1:=h.b.cell (j:=1) rfl
 have k4:=h.b.cell (j:=4) rfl
 obtain⟨p,cc,e,hcp,hmx,hgg⟩:=av h.o
 unfold maxLen at hmx
 have ho:=h.o
 rw[e]at k1 ho
 unfold fV bU
 rw[if_neg Hb]
 by_cases hr:n<0∨c.fs.length≤n
 ·rw[if_pos hr]
  refine aj (l:=[_,_]) Tryz.func94 rfl Tryz.ntmps94 rfl (Ok.start w) ?_
  repeat'(first|refine ax ?_|refine Ax ?_|(refine aO ?_ ?_<;>intro hc_))
  all_goals first|omega|exact ai.iD rfl rfl rfl fun w' hw'=>aq.uy (x:=Value.slice none 0 0) trivial (hw'.iC 0 fl 1) (List.Sublist.refl _) ao
 ·rw[if_neg hr]
  dsimp only
  obtain⟨k,rfl⟩:=Int.eq_ofNat_of_zero_le (show 0≤n by omega)
  obtain⟨g,rfl,-⟩:=hgg Hb
  have hi:c.fs.length - 1 - k<c.fs.length:=by omega
  rw[Int.toNat_natCast]
  obtain⟨i,hie⟩:∃i,i=c.fs.length - 1 - k:=⟨_,rfl⟩
  rw[←hie]at hi ⊢
  have hfr:=h.l _ (hg.fr i hi)
  have hc5:∀j,j<5→w.cell? ⟨g,0+i*5+j,none⟩=(eO (ix c.fs i) (ix v.fv i))[j]?:=fun j hj=>by
   have h5:=jx c.fs v.fv i j hg.len hi hj
   have hlt:j<(eO (ix c.fs i) (ix v.fv i)).length:=hj
   rw[List.getElem?_eq_getElem hlt]at h5 ⊢
   rw[Nat.zero_add]
   exact dL ho h5
  generalize ix c.fs i=f at*
  generalize ix v.fv i=x at*
  obtain⟨x1,x2⟩:=x
  obtain⟨q1,q2⟩:=hfr
  dsimp only[nw.fn]at q1 q2
  obtain⟨u1,d1,rfl,-⟩:=q1.slice
  obtain⟨u2,d2,rfl,-⟩:=q2.slice
  dsimp only[eO]at hc5
  refine aj (l:=[_,_]) Tryz.func94 rfl Tryz.ntmps94 rfl (Ok.start w) ?_
  repeat'(first|refine ax ?_|refine Ax ?_|(refine aO ?_ ?_<;>intro hc_))
  refine aQ.de [] [Ext w] bN aY ?_
  repeat'(first|refine uo ?_|(refine aK.qy 12 rfl (Yl.idx (i:=i) rfl rfl rfl rfl rfl Hb Hb) ?_)|(refine aK.qy 13 rfl (Yl.fY rfl rfl rfl ao Hd Hd hc5) ?_)|(refine aI.Aj nO ?_;refine aI.he rfl rfl (HE.alloc (t:=nO) [.int .i64 0,.slice none 0 0,.slice none 0 0,.bool false,.bool false] rfl rfl) (fun _=>bN) (fun _=>aY) ?_;intro b_ _)|(refine aI.yF ?_;refine aI.m6 rfl (gj.aM _ rfl rfl rfl rfl rfl rfl bJ rfl) (fun _=>bN) (fun _=>aY) ?_;rintro⟨⟩ _)|refine aK.nil G6 ?_|refine aK.any G6 ?_|exact aC.fin rfl|refine aC.skip G6 ?_|refine aC.go ?_ ?_)
  have hq1:=q1
  have hq2:=q2
  repeat'(first|refine ax ?_|(refine aO ?_ ?_<;>intro hc_))
  ·rw[if_pos hc_]
   refine aa.he (HE.oI (M0:=[]) rfl rfl (fun w' hw'=>cR f.par _ w' (q1.aD (show Ext w w' from hw'.at) (fun _ _ _ h=>h)))) rfl ?_
   intro u _
   dsimp only[List.cons_append,List.nil_append]
   refine dy ?_
   exact ai.iD rfl rfl rfl fun w' hw'=>aq.uy (x:=u) trivial hw' bN ao
  ·rw[if_neg hc_]
   refine aa.he (HE.oI (M0:=[]) rfl rfl (fun w' hw'=>cR f.res _ w' (q2.aD (show Ext w w' from hw'.at) (fun _ _ _ h=>h)))) rfl ?_
   intro u _
   dsimp only[List.cons_append,List.nil_append]
   refine dy ?_
   exact ai.iD rfl rfl rfl fun w' hw'=>aq.uy (x:=u) trivial hw' bN ao
theorem aq.mM {β:Type} {M0 M:List aV} {R:List (World→Prop)} {w w':World} {S0:Nat→Prop} {tf:β→Value} {φ:β→Prop} {M1:β→List aV} (x:β) (hφ:φ x) (hS:Mb M0=S0) (h:Ok M R w') (hM:gK (M1 x) M) (hR:bA S0 w∈R):aq M0 w tf φ M1 (.returned (tf x)) w':=by
 obtain⟨M2,hp⟩:=hM.perm
 exact aq.nj x hφ hS (h.perm hp) (List.sublist_append_left _ _) hR
theorem Ok.merge {q1 q2 q:aV} {M:List aV} {R:List (World→Prop)} {w:World} (h:Ok (q1::q2::M) R w) (hF:∀k,q.F k→q1.F k∨q2.F k) (hP:q1.P w→q2.P w→q.P w):Ok (q::M) R w:=by
 have h1:=h.m q1 Hc
 have h2:=h.m q2 Hc
 have hd:=h.d
 rw[List.pairwise_cons,List.pairwise_cons]at hd
 refine h.step (bA.refl _ w) (fun x hx=>?_) (List.pairwise_cons.2 ⟨fun x hx k hk hk'=>?_,hd.2.2⟩) (fun k ⟨x,hx,hk⟩ _=>?_)
 ·rcases List.mem_cons.1 hx with rfl|hx
  ·exact⟨hP h1.1 h2.1,fun k hk=>(hF k hk).elim (h1.2 k) (h2.2 k)⟩
  ·exact h.m x (by simp[hx])
 ·rcases hF k hk with h|h
  ·exact hd.1 x (by simp[hx]) k h hk'
  ·exact hd.2.1 x hx k h hk'
 ·rcases List.mem_cons.1 hx with rfl|hx
  ·rcases hF k hk with h|h
   ·exact⟨q1,by simp,h⟩
   ·exact⟨q2,by simp,h⟩
  ·exact⟨x,by simp[hx],hk⟩
def oh (M0:List aV) (cp:Nat) (r:Value) (c':dq) (w:World):Ending→World→Prop:=aq M0 w (fun _:fU=>r) (fun v'=>v'.Good c') (aw cp c')
theorem fU.Good.mono {v v':fU} {c c':dq} (h:v.Good c) (hfs:c'.fs=c.fs) (hrs:c'.results=c.results) (hfv:v'.fv=v.fv) (hrv:v'.rv=v.rv) (hL:∀y,y∈v.L→y∈v'.L):v'.Good c':=
 ⟨by rw[hfs,hfv];exact h.len,fun i hi=>by rw[hfs]at hi ⊢;rw[hfv];exact hL _ (h.fr i hi),by rw[hrs,hrv];exact hL _ h.rs⟩
theorem zj {g g':Prop} (h:g') (hw:ek g'→g:=by(intro hk_;(first|refine Gr ?_);exact hk_.out)):g:=hw ⟨h⟩
set_option maxHeartbeats 8000000 in
theorem lg (cp:Nat) (c:dq) (v:fU) (w:World) (hw:Ok (aw cp c v) [] w) (hg:v.Good c) (hb:c.broken=0) (hwf:c.Wf):Calls G.P 56 #[.pointer (some ⟨cp,0,none⟩)] w (oh (aw cp c v) cp (.tuple #[]) (fD c) w):=by
 obtain⟨sp,tv,pv,bv,rv,fv,D,L⟩:=v
 have hrd:=hw.vN (List.Sublist.refl _)
 obtain⟨p,cc,e,hcp,hmx,-⟩:=av hrd.o
 dsimp only at e
 subst e
 have hat:=hwf.aG.at_
 have hps:=hwf.aG.some
 refine aj (l:=[_]) Tryz.func56 rfl Tryz.ntmps56 rfl (Ok.bW hw) ?_
 unfold oh
 generalize hS:Mb (aw cp c ⟨sp,tv,pv,.slice p c.fs.length cc,rv,fv,D,L⟩)=S0
 dsimp only[aw,ay,List.cons_append,List.nil_append]
 by_cases h0:c.fs.length=0
 ·have e:fD c=c:=if_pos (.inr h0)
  rw[e]
  repeat'(first|refine ax ?_|refine zj ?_|fail)
  all_goals first|omega|exact ai.zm rfl fun w' hw'=>aq.mM (x:=⟨sp,tv,pv,.slice p c.fs.length cc,rv,fv,D,L⟩) hg hS hw' GP ao
 ·have e:fD c={c with aG:=gA c.aG,live:=false}:=if_neg (by rintro(h|h)<;>omega)
  rw[e]
  repeat'(first|refine ax ?_|refine zj ?_|fail)
  all_goals first|omega|skip
  refine aa.he (HE.aW (M0:=[.aJ sp [tv,pv,.bool (cB c.aG)] fS,.own 0 fl 1 tv c.aG.ts.length (aU c.aG.ts),.own 0 fR 2 pv c.aG.ps.length (bw c.aG.ps)]) cE rfl rfl (fun w' hw'=>ud sp c.aG (tv,pv) w' (hw'.bV cT (fun p h=>by cases h)) hps hat.1 hat.2)) rfl ?_
  rintro⟨tv2,pv2⟩ _
  dsimp only[aw,ay,List.cons_append,List.nil_append]
  repeat'(first|refine ax ?_|fail)
  exact ai.kJ rfl fun w' hw'=>aq.mM (x:=⟨sp,tv2,pv2,.slice p c.fs.length cc,rv,fv,D,L⟩) (hg.mono rfl rfl rfl rfl (fun _ h=>h)) hS hw' GP ao
theorem fK (cp:Nat) (a b r l e0:Value) (e:Int) (w:World) (hw:Ok [.aJ cp [a,b,r,l,e0] fA] [] w):Calls G.P 86 #[.pointer (some ⟨cp,0,none⟩),.int .i64 e] w (aq [.aJ cp [a,b,r,l,e0] fA] w (fun _:Unit=>.int .i64 e) (fun _=>True) (fun _=>[.aJ cp [a,b,r,l,.int .i64 e] fA])):=by
 refine aj (l:=[_,_]) Tryz.func86 rfl Tryz.ntmps86 rfl (Ok.bW hw) ?_
 repeat'(first|refine ax ?_|fail)
 exact ai.aA rfl rfl fun w' hw'=>aq.mM (x:=()) trivial rfl hw' cT ao
theorem qu {P:Program} (w:World) (dT sT ty elem:TypeId) (g dLen dCap s:Nat) (a:Addr) (sLen sCap:Nat) (cur:Array Value) (t:TypeId) (cs:List Value)
  (hu:P.underlying dT=some (.slice elem)) (hs:∀w,(sizeOf elem).run P w=.ok s w) (hg:w.heap[g]?=some (.cells cur t (0,0))) (hle:dLen≤sLen) (hn:cs.length=dLen*s)
  (hsrc:∀j v,cs[j]?=some v→w.cell? (a.add j)=some v) (hfit:cs.length≤cur.size) (h1:∀v∈cs,v.oneCell'=true):
  (Builtin.copy_ #[dT,sT] ty #[.slice (some ⟨g,0,none⟩) dLen dCap,.slice (some a) sLen sCap]).run P w=.ok (goInt dLen) (w.setRow g (cs++cur.toList.drop cs.length).toArray):=by
 have hl:=run_loadCells_list (P:=P) w a cs hsrc
 have hst:=run_storeCells_at P g 0 t cs 0 cur w hg (by simpa using hfit) h1
 have hmin:Nat.min sLen dLen=dLen:=Nat.min_eq_right hle
 have hmul:dLen*s=cs.length:=hn.symm
 simp[Builtin.copy_,run_underlying hu,Builtin.lenOf,Builtin.firstCells,hs,hmin,hmul,hl,hst]
section
variable {n:Nat} {E:Env} {M M' M'':List aV} {R:List (World→Prop)} {t:TypeId} {x y:Operand}
theorem HE.Eb {ti te:TI} {e len B s:Nat} (ht:G.ty t=some ti) (he:ti.elem=some e) (hte:G.ty e=some te) (hs:te.size=s) (hx:ev E x=some (.int .i64 (len:Int))) (hbt:Nat.ble te.bytes 1000=true) (hml:len≤100000000000) (hB:∀w,Ok M R w→B≤w.heap.size):
  HE n (.makeSlice t x x) E M R (fun _:Nat=>True) (fun g=>.slice (some ⟨g,0,none⟩) len len) (fun g=>.own B e s (.slice (some ⟨g,0,none⟩) len len) len (madeCells te.zero.cells (len*te.size)).toList::M) (fun _=>R):=
 ⟨fun w hw=>(bB.make ht he hte hx (by have:=Nat.mul_le_mul (Nat.le_of_ble_eq_true hbt) hml;omega) G0 (hB w hw)).mono fun v w' ⟨h1,h2,h3,h4⟩=>by
  subst h1 hs
  refine⟨w.heap.size,trivial,rfl,hw.push h3 h2 (fun k hk=>?_)⟩
  have hk':some w.heap.size=some k:=hk
  cases hk';exact⟨Nat.le_refl _,h4⟩⟩
theorem HE.Cz {ti te:TI} {B B2 T T2 s m cd sLen cS g gS e:Nat} {zs ys:List Value} (hx:ev E x=some (.slice (some ⟨g,0,none⟩) m cd)) (hy:ev E y=some (.slice (some ⟨gS,0,none⟩) sLen cS)) (hM:Up (.own B T s (.slice (some ⟨g,0,none⟩) m cd) m zs) (.own B T s (.slice (some ⟨g,0,none⟩) m cd) m (ys.take (m*s))) M M')
  (hb:Up (.own B2 T2 s (.slice (some ⟨gS,0,none⟩) sLen cS) sLen ys) (.own B2 T2 s (.slice (some ⟨gS,0,none⟩) sLen cS) sLen ys) M M'') (hle:m≤sLen) (ht:G.ty t=some ti) (he:ti.elem=some e) (hte:G.ty e=some te) (hs:te.size=s) (h1:∀u∈ys,u.oneCell'=true):
  HE n (.call ⟨.builtin .copy,#[x,y],#[t,t]⟩) E M R (fun _:Unit=>True) (fun _=>.int .i64 m) (fun _=>M') (fun _=>R):=
 ⟨fun w hw=>by
  subst hs
  have hou:=(hw.m _ hM.mem)
  have hos:w.ownsRow B2 T2 te.size (.slice (some ⟨gS,0,none⟩) sLen cS) sLen ys:=(hw.m _ hb.mem).1
  obtain⟨⟨hl,ho⟩,hlt⟩:=hou
  rcases ho with⟨e1,_⟩|⟨g',cap,cur,e1,hg,hh,hn,hc,hsz,htk⟩
  ·cases e1
  cases e1
  have hly:(ys.take (m*te.size)).length=m*te.size:=by
   rw[List.length_take,hos.1];have:=Nat.mul_le_mul_right te.size hle;omega
  have hfit:(ys.take (m*te.size)).length≤cur.size:=by rw[hly,hsz];exact Nat.mul_le_mul_right _ hn
  have hsrc:∀j v,(ys.take (m*te.size))[j]?=some v→w.cell? ((⟨gS,0,none⟩:Addr).add j)=some v:=fun j v hj=>by
   have hj':ys[j]?=some v:=by
    have hlt:=(List.getElem?_eq_some_iff.1 hj).1
    rw[hly]at hlt
    rw[List.getElem?_take]at hj
    rw[if_pos hlt]at hj;exact hj
   have:=dL hos hj'
   have e:(⟨gS,0,none⟩:Addr).add j=⟨gS,j,none⟩:=by
    unfold Addr.add;split
    ·rename_i h0;rw[h0]
    ·simp
   rw[e];exact this
  have hrun:=fun ty=>qu (P:=G.P) w t t ty e g m cd te.size ⟨gS,0,none⟩ sLen cS cur T (ys.take (m*te.size)) ((G.eZ t ti ht).elem e he) ((G.eZ e te hte).size) hh hle hly hsrc hfit (fun u hu=>h1 u (List.mem_of_mem_take hu))
  refine bB.of (v:=.int .i64 m) (w':=w.setRow g (ys.take (m*te.size)++cur.toList.drop (ys.take (m*te.size)).length).toArray) (fun ac hac d ty pos aft gd=>?_) ⟨(),trivial,rfl,hw.nL hM (w':=w.setRow g _) ⟨rfl,rfl,rfl,by simp[World.setRow],fun k hk hne=>setRow_other _ _ _ _ (fun e=>hne (by subst e;rfl))⟩ ⟨hly,.inr ⟨g,cd,_,rfl,hg,setRow_heap w g cur _ T _ hh,hn,hc,?_,?_⟩⟩ (fun k hk=>⟨?_,fun _=>hk⟩)⟩
  ·simp[execOp,resolve,invoke,builtin,hac.eval hx,hac.eval hy,hrun,goInt]
  ·have:=hfit
   simp only[List.size_toArray,List.length_append,List.length_drop,Array.length_toList]
   omega
  ·show(ys.take (m*te.size)++_).take (m*te.size)=_
   rw[List.take_append_of_le_length Hb,List.take_take,Nat.min_self]
  ·have:=hlt k hk
   simpa[World.setRow]using this⟩
end
theorem fa.Ck {f:aE} {D:Nat→Prop} {w:World} {x:Value×Value} (h:fa f D w x):∃p c p' c',x=(.slice p f.params.length c,.slice p' f.results.length c'):=by
 obtain⟨p,c,e,_⟩:=h.1.slice
 obtain⟨p2,c2,e2,_⟩:=h.2.slice
 exact⟨p,c,p2,c2,by rw[←e,←e2]⟩
theorem xM (l:List Int):∀u∈aU l,u.oneCell'=true:=gL l
theorem qQ:∀(fs:List nw) (fv:List (Value×Value)),(∀x∈fv,x.1.oneCell'=true∧x.2.oneCell'=true)→∀u∈cM fs fv,u.oneCell'=true
 |[],[],_,u,h=>by simp[cM]at h
 |[],y::s,_,u,h=>by simp[cM]at h
 |f::r,[],_,u,h=>by simp[cM]at h
 |f::r,x::s,hv,u,h=>by
  have ih:=qQ r s (fun y hy=>hv y (by simp[hy]))
  have h':u∈eO f x++cM r s:=h
  rcases List.mem_append.1 h' with h|h
  ·have hx:=hv x Hc
   simp only[eO,List.mem_cons,List.not_mem_nil,or_false]at h
   rcases h with rfl|rfl|rfl|rfl|rfl
   ·rfl
   ·exact hx.1
   ·exact hx.2
   ·rfl
   ·rfl
  ·exact ih u h
theorem fU.Good.one {v:fU} {c:dq} {w:World} (h:v.Good c) (hl:fx v.D w v.L):∀x∈v.fv,x.1.oneCell'=true∧x.2.oneCell'=true:=fun x hx=>by
 obtain⟨i,hi,e⟩:=List.mem_iff_getElem.1 hx
 have hi':i<c.fs.length:=by rw[←h.len];exact hi
 have hf:=hl _ (h.fr i hi')
 rw[cw hi,e]at hf
 obtain⟨p,c1,p',c1',e1⟩:=hf.Ck
 dsimp only at e1
 rw[e1];exact⟨rfl,rfl⟩
set_option maxHeartbeats 16000000 in
theorem jU (cp:Nat) (c:dq) (v:fU) (f:nw) (x:Value×Value) (w:World) (hw:Ok (aw cp c v) [] w) (hg:v.Good c) (hin:(f.fn,x)∈v.L) (hps:0<c.aG.ps.length) (hpl:c.aG.ps.length≤1000000) (hfl:c.fs.length≤1000000) (hts:(c.aG.ts.length+f.par.length)*8≤140737488355328):
  Calls G.P 87 #[.pointer (some ⟨cp,0,none⟩),.agg (eO f x).toArray] w (oh (aw cp c v) cp (.tuple #[]) (lS c c.aG c.fs f) w):=by
 obtain⟨sp,tv,pv,bv,rv,fv,D,L⟩:=v
 have hrd:qz cp c ⟨sp,tv,pv,bv,rv,fv,D,L⟩ w:=hw.vN (List.Sublist.refl _)
 obtain⟨p,cc,e,hcp,hmx,-⟩:=av hrd.o
 dsimp only at e hin
 subst e
 obtain⟨p1,c1,p2,c2,hx⟩:=fa.Ck (hrd.l _ hin)
 dsimp only at hx
 subst hx
 refine aj (l:=[.pointer (some ⟨cp,0,none⟩),.agg (eO f _).toArray]) Tryz.func87 rfl Tryz.ntmps87 rfl (Ok.bW hw) ?_
 unfold oh
 generalize hS:Mb (aw cp c ⟨sp,tv,pv,.slice p c.fs.length cc,rv,fv,D,L⟩)=S0
 dsimp only[aw,ay,List.cons_append,List.nil_append]
 repeat'(first|refine ax ?_|fail)
 refine aa.box (eO f (.slice p1 f.par.length c1,.slice p2 f.res.length c2)) rfl rfl rfl fun b3=>?_
 dsimp only[eO]
 repeat'(first|refine ax ?_|fail)
 refine aa.he (HE.aW (M0:=[.aJ sp [tv,pv,.bool (cB c.aG)] fS,.own 0 fl 1 tv c.aG.ts.length (aU c.aG.ts),.own 0 fR 2 pv c.aG.ps.length (bw c.aG.ps)]) cE rfl rfl (fun w' hw'=>pR sp c.aG (tv,pv) w' (hw'.bV cT (fun p h=>by cases h)) hps hpl)) rfl ?_
 rintro⟨tv2,pv2⟩ _
 dsimp only[aw,ay,List.cons_append,List.nil_append]
 repeat'(first|refine ax ?_|fail)
 refine aQ.cA [0,1,2,3,4,5,6] 7 _ _ G7 (List.Sublist.refl _) (fun _ h=>h) ?_
 refine jM ?_
 refine aN.C4 (HE.aW (M0:=[.aJ sp [tv2,pv2,.bool (cB (eX c.aG))] fS,.own 0 fl 1 tv2 (eX c.aG).ts.length (aU (eX c.aG).ts),.own 0 fR 2 pv2 (eX c.aG).ps.length (bw (eX c.aG).ps)]) cE rfl rfl (fun w' hw'=>eB D sp (eX c.aG) (tv2,pv2) _ f.par w' ((hw'.freeze (q:=.iM fx fx.fr D L) (p:=fun w=>af D w (.slice p1 f.par.length c1) f.par) hU (fun _ h=>(h _ hin).1)).bV cT aY) (by simp[eX]) hts)) rfl ?_
 rintro⟨tv3,pv3⟩ _
 dsimp only[aw,ay,List.cons_append,List.nil_append]
 repeat'(first|refine ax ?_|fail)
 refine aQ.cA [0,1,2,3,4,5,6,7,8,9] 10 [.aJ b3 [.int .i64 f.kind,.slice p1 f.par.length c1,.slice p2 f.res.length c2,.bool f.other,.bool f.zD] nO,.aJ cp [.pointer (some ⟨sp,0,none⟩),.slice p c.fs.length cc,rv,.bool c.live,.int .i64 c.broken] fA] [] G7 bN aY ?_
 refine jM ?_
 refine FX ?_
 intro b5 _
 refine FY ?_
 intro bv2 _
 refine aN.pure (φ:=∃p c',bv2=.slice p (c.fs.length+1) c') (fun w' hw'=>?_) ?_
 ·obtain⟨p,c,e,_⟩:=av (hw'.own (v:=bv2));exact⟨p,c,e⟩
 rintro⟨p3,c3,rfl⟩
 refine jM ?_
 refine aN.hG (gj.er rfl rfl rfl rfl rfl bJ mi) rfl ?_
 rintro⟨⟩ _
 repeat'(first|refine ax ?_|fail)
 refine ai.kJ rfl fun w' hw'=>?_
 refine aq.mM (x:=(⟨sp,tv3,pv3,.slice p3 (c.fs.length+1) c3,rv,fv++[(.slice p1 f.par.length c1,.slice p2 f.res.length c2)],D,L⟩:fU)) ⟨?_,fun i hi=>?_,hg.rs⟩ hS hw' (by unfold lS;dsimp only[aw,ay,List.cons_append,List.nil_append];rw[qO _ _ _ _ hg.len,List.length_append];dsimp only[eO,List.length_cons,List.length_nil];exact cT) ao
 ·show(fv++[_]).length=(c.fs++[f]).length
  have:=hg.len
  simp at this ⊢;exact this
 ·have hlen:=hg.len
  dsimp only at hlen
  have hi':i<(c.fs++[f]).length:=hi
  show((ix (c.fs++[f]) i).fn,ix (fv++[_]) i)∈L
  by_cases hlt:i<c.fs.length
  ·rw[jy hlt,jy (show i<fv.length by omega)];exact hg.fr i hlt
  ·have:i=c.fs.length:=by rw[List.length_append,List.length_singleton]at hi';omega
   subst this
   rw[iz (Nat.le_refl _),iz (show fv.length≤c.fs.length by omega),hlen,Nat.sub_self]
   exact hin
theorem Yl.BQ {n:Nat} {E:Env} {M:List aV} {R:List (World→Prop)} {t:TypeId} {x:Operand} {ti:TI} {B T s s' m g cap o:Nat} {xs cs:List Value} (ht:G.ty t=some ti) (ha:ti.agg=true) (hx:ev E x=some (.pointer (some ⟨g,o,none⟩))) (hs:ti.size=s') (hl:cs.length=s') (hc:∀j,j<s'→xs[o+j]?=cs[j]?) (hM:aV.own B T s (.slice (some ⟨g,0,none⟩) m cap) m xs∈M):Yl G n (.load t x) E (Ok M R) (.agg cs.toArray):=
 Yl.nE ht ha hs hx hl fun w hw j hj=>by
  have h1:=hc j hj
  obtain⟨u,hu⟩:∃u,cs[j]?=some u:=⟨_,List.getElem?_eq_getElem (show j<cs.length by omega)⟩
  rw[hu]at h1 ⊢
  exact dL (hw.m _ hM).1 h1
set_option maxHeartbeats 16000000 in
theorem tp (cp:Nat) (c:dq) (v:fU) (w:World) (hw:Ok (aw cp c v) [] w) (hg:v.Good c) (h0:0<c.fs.length) (hfl:c.fs.length≤1000000):
  Calls G.P 89 #[.pointer (some ⟨cp,0,none⟩)] w (aq (aw cp c v) w (fun _:Value=>.agg (eO c.top (ix v.fv (c.fs.length - 1))).toArray) (fun _=>True) (fun bv'=>aw cp {c with fs:=c.fs.take (c.fs.length - 1)} {v with bv:=bv',fv:=v.fv.take (c.fs.length - 1)})):=by
 obtain⟨sp,tv,pv,bv,rv,fv,D,L⟩:=v
 have hrd:qz cp c ⟨sp,tv,pv,bv,rv,fv,D,L⟩ w:=hw.vN (List.Sublist.refl _)
 obtain⟨p,cc,e,hcp,hmx,hgg⟩:=av hrd.o
 dsimp only at e
 subst e
 obtain⟨g,rfl,-⟩:=hgg h0
 have hone:=qQ c.fs fv (hg.one hrd.l)
 obtain⟨q1,d1,q2,d2,hx⟩:=(hrd.l _ (hg.fr (c.fs.length - 1) Hb)).Ck
 have hc5:∀j,j<5→(cM c.fs fv)[0+(c.fs.length - 1)*5+j]?=(eO (ix c.fs (c.fs.length - 1)) (ix fv (c.fs.length - 1)))[j]?:=fun j hj=>by rw[Nat.zero_add];exact jx c.fs fv (c.fs.length - 1) j hg.len Hb hj
 dsimp only at hx hc5 ⊢
 rw[hx]at hc5 ⊢
 rw[show c.top=ix c.fs (c.fs.length - 1)from rfl]
 generalize ix c.fs (c.fs.length - 1)=f at*
 dsimp only[eO]at hc5 ⊢
 have e1:(c.fs.length:Int) - 1=((c.fs.length - 1:Nat):Int):=by omega
 refine aj (l:=[_]) Tryz.func89 rfl Tryz.ntmps89 rfl (Ok.bW hw) ?_
 generalize hS:Mb (aw cp c ⟨sp,tv,pv,.slice (some ⟨g,0,none⟩) c.fs.length cc,rv,fv,D,L⟩)=S0
 dsimp only[aw,ay,List.cons_append,List.nil_append]
 repeat'(first|refine ax ?_|(refine aa.hH (t:=nO) ?_;refine aa.alloc (t:=nO) [.int .i64 0,.slice none 0 0,.slice none 0 0,.bool false,.bool false] rfl rfl rfl fun b_=>?_)|fail)
 rw[e1]
 repeat'(first|refine ax ?_|(refine aa.dK ?_;refine aa.y_ (Yl.idx (i:=c.fs.length - 1) rfl rfl rfl rfl rfl Hb Hb) rfl ?_)|(refine aa.bX ?_;refine aa.y_ (Yl.BQ rfl rfl rfl Hd Hd hc5 gi) rfl ?_)|(refine aa.hH (t:=nO) ?_;refine aa.alloc (t:=nO) [.int .i64 0,.slice none 0 0,.slice none 0 0,.bool false,.bool false] rfl rfl rfl fun b_=>?_)|fail)
 refine aa.he (HE.Eb (s:=5) (len:=c.fs.length - 1) rfl rfl rfl Hd rfl Hd Hb (fun _ _=>Nat.zero_le _)) rfl ?_
 intro g3 _
 repeat'(first|refine ax ?_|fail)
 refine aa.he (HE.Cz rfl rfl bJ bJ Hb rfl rfl rfl Hd hone) rfl ?_
 rintro⟨⟩ _
 rw[oM _ _ _ hg.len]
 repeat'(first|refine ax ?_|fail)
 exact ai.fG (.inl rfl) rfl rfl rfl rfl rfl bJ rfl fun w' hw'=>aq.mM (x:=Value.slice (some ⟨g3,0,none⟩) (c.fs.length - 1) (c.fs.length - 1)) trivial hS hw' (by dsimp only[aw,ay,List.cons_append,List.nil_append];rw[List.length_take,Nat.min_eq_left Hb];exact cT) ao
abbrev Ch:Nat:=74
theorem dI {w:World} {B T:Nat} {v:Value} {xs:List Int} (h:w.ownsRow B T 1 v xs.length (aU xs)) (hl:xs.length≤17592186044416):af (fun k=>v.ownBlock=some k) w v xs:=by
 obtain⟨p,c,rfl,hn,hc,hg⟩:=av h
 refine⟨p,c,rfl,hl,?_⟩
 by_cases h0:xs.length=0
 ·exact .inl (List.eq_nil_of_length_eq_zero h0)
 ·obtain⟨g,rfl,-⟩:=hg Hb
  exact .inr ⟨g,0,rfl,rfl,fun i hi=>dL h (mX hi)⟩
theorem Ok.swap {q q':aV} {M M':List aV} {R:List (World→Prop)} {w:World} (h:Ok M R w) (hM:Up q q' M M') (hF:∀k,q'.F k→q.F k) (hP:q.P w→q'.P w):Ok M' R w:=
 h.nL hM (bA.refl _ w) (hP (h.m _ hM.mem).1) fun k hk=>⟨(h.m _ hM.mem).2 k (hF k hk),fun _=>hF k hk⟩
theorem aq.DJ {β:Type} {M:List aV} {R:List (World→Prop)} {w w':World} {tf:β→Value} {φ:β→Prop} {M1:β→List aV} (x:β) (hφ:φ x) (h:Ok M R w') (hM:gK (M1 x) M) (hR:Ext w∈R):aq [] w tf φ M1 (.returned (tf x)) w':=by
 obtain⟨M2,hp⟩:=hM.perm
 exact aq.uy x hφ (h.perm hp) (List.sublist_append_left _ _) hR
set_option maxHeartbeats 16000000 in
theorem yw (D0:Nat→Prop) (results:List Int) (v:Value) (w:World) (hI:af D0 w v results):Calls G.P 34 #[v] w (aq [] w (fun y:Nat×fU=>.pointer (some ⟨y.1,0,none⟩)) (fun y=>y.2.Good (iB results)) (fun y=>aw y.1 (iB results) y.2)):=by
 obtain⟨p,cc,rfl,hl⟩:=hI.slice
 refine aj (l:=[_]) Tryz.func34 rfl Tryz.ntmps34 rfl (Ok.start w) ?_
 repeat'(first|refine ax ?_|fail)
 refine aa.he (HE.aW (M0:=[]) lD.nil rfl rfl (fun w' hw'=>xG w')) rfl ?_
 rintro⟨sp,tv,pv⟩ _
 dsimp only[ay,List.cons_append,List.nil_append]
 repeat'(first|refine ax ?_|fail)
 refine aa.he (HE.aW (M0:=[]) lD.nil rfl rfl (fun w' hw'=>cR results _ w' (hI.aD (show Ext w w' from hw'.at) (fun _ _ _ h=>h)))) rfl ?_
 intro u _
 dsimp only[List.cons_append,List.nil_append]
 refine aa.pure (φ:=∃p c,u=.slice p results.length c) (fun w' hw'=>?_) ?_
 ·obtain⟨p,c,e,_⟩:=av (hw'.own (v:=u));exact⟨p,c,e⟩
 rintro⟨p3,c3,rfl⟩
 repeat'(first|refine ax ?_|fail)
 refine aa.box [.pointer (some ⟨sp,0,none⟩),.slice none 0 0,.slice p3 results.length c3,.bool true,.int .i64 0] rfl rfl rfl fun cp=>?_
 repeat'(first|refine ax ?_|fail)
 refine aa.he (HE.aW (M0:=[.aJ sp [tv,pv,.bool (cB ⟨[],[(0,false)],0⟩)] fS,.own 0 fl 1 tv (([]:List Int).length) (aU []),.own 0 fR 2 pv ([((0:Int),false)].length) (bw [(0,false)])]) cE rfl rfl (fun w' hw'=>pR sp ⟨[],[(0,false)],0⟩ (tv,pv) w' (hw'.bV cT (fun p h=>by cases h)) Ha Ha)) rfl ?_
 rintro⟨tv2,pv2⟩ _
 dsimp only[ay,List.cons_append,List.nil_append]
 repeat'(first|refine ax ?_|fail)
 refine AC ?_
 intro b6 _
 repeat'(first|refine ax ?_|fail)
 refine ai.aA rfl rfl fun w' hw'=>?_
 have h1:=hw'.swap (q:=.own 0 fl 1 (.slice p3 results.length c3) results.length (aU results)) (q':=.iM fx fx.fr (fun k=>(Value.slice p3 results.length c3).ownBlock=some k) [(⟨[],results⟩,.slice none 0 0,.slice p3 results.length c3)]) bJ (fun k h=>h) (fun h y hy=>by
  rw[List.mem_singleton]at hy;subst hy
  exact⟨af.eJ _ _,dI h hl⟩)
 have h2:=h1.pV (s:=5) (len:=1) bJ rfl G0
 refine aq.DJ (x:=(cp,(⟨sp,tv2,pv2,.slice (some ⟨b6,0,none⟩) 1 1,.slice p3 results.length c3,[(.slice none 0 0,.slice p3 results.length c3)],_,[(⟨[],results⟩,.slice none 0 0,.slice p3 results.length c3)]⟩:fU))) ⟨rfl,fun i hi=>?_,List.mem_cons_self⟩ h2 (by
  show gK [.aJ cp [.pointer (some ⟨sp,0,none⟩),.slice (some ⟨b6,0,none⟩) 1 1,.slice p3 results.length c3,.bool true,.int .i64 0] fA,.aJ sp [tv2,pv2,.bool (cB (eX ⟨[],[(0,false)],0⟩))] fS,.own 0 fl 1 tv2 (eX ⟨[],[(0,false)],0⟩).ts.length (aU (eX ⟨[],[(0,false)],0⟩).ts),.own 0 fR 2 pv2 (eX ⟨[],[(0,false)],0⟩).ps.length (bw (eX ⟨[],[(0,false)],0⟩).ps),.own 0 nO 5 (.slice (some ⟨b6,0,none⟩) 1 1) 1 [.int .i64 0,.slice none 0 0,.slice p3 results.length c3,.bool false,.bool true],.iM fx fx.fr _ _] _
  exact cT) ao
 have:i=0:=by simp[iB]at hi;exact hi
 subst this
 exact List.mem_cons_self
def ar (M0:List aV) (cp:Nat) (r:dq×Int) (w:World):Ending→World→Prop:=aq M0 w (fun _:fU=>.int .i64 r.2) (fun v'=>r.2=0→v'.Good r.1) (fun v'=>if r.2=0 then aw cp r.1 v' else[])
theorem ar.err {M0 M:List aV} {cp:Nat} {r:dq×Int} {w w':World} {S0:Nat→Prop} {R:List (World→Prop)} (e:Int) (hr:r.2=e) (he:e≠0) (hS:Mb M0=S0) (h:Ok M R w') (hR:bA S0 w∈R):ar M0 cp r w (.returned (.int .i64 e)) w':=by
 subst hr
 exact aq.mM (x:=(⟨0,undef,undef,undef,undef,[],fun _=>False,[]⟩:fU)) (fun h=>absurd h he) hS h (by rw[if_neg he];exact gK.nil) hR
theorem ar.ok {M0 M:List aV} {cp:Nat} {r:dq×Int} {w w':World} {S0:Nat→Prop} {R:List (World→Prop)} (v':fU) (hr:r.2=0) (hg:v'.Good r.1) (hS:Mb M0=S0) (h:Ok M R w') (hM:gK (aw cp r.1 v') M) (hR:bA S0 w∈R):ar M0 cp r w (.returned (.int .i64 0)) w':=by
 have:=aq.mM (M0:=M0) (tf:=fun _:fU=>.int .i64 r.2) (φ:=fun v'=>r.2=0→v'.Good r.1) (M1:=fun v'=>if r.2=0 then aw cp r.1 v' else[]) v' (fun _=>hg) hS h (by rw[if_pos hr];exact hM) hR
 unfold ar
 rw[hr]at this ⊢
 exact this
theorem gK.app (M:List aV):∀M':List aV,gK M (M++M'):=by
 induction M with
 |nil=>exact fun M'=>gK.nil
 |cons q M ih=>exact fun M'=>gK.cons Rm.head (ih M')
theorem fx.cons {D D0:Nat→Prop} {w:World} {L:List (aE×Value×Value)} {f:aE} {x:Value×Value} (h1:fx D w L) (h2:fa f D0 w x):fx (fun k=>D k∨D0 k) w ((f,x)::L):=fun y hy=>by
 rcases List.mem_cons.1 hy with rfl|hy
 ·exact fa.mono h2 (fun k h=>.inr h)
 ·exact fa.mono (h1 y hy) (fun k h=>.inl h)
theorem dw (s:cZ) (l:List Int):(aT s l).1.ts.length≤s.ts.length:=by
 unfold aT;dsimp only;split
 ·rw[List.length_take];omega
 ·exact Nat.le_refl _
theorem fg {w:World} {b T:Nat} {a:Int} (h:dZ w b [.int .i64 a] T):af (fun k=>k=b) w (.slice (some ⟨b,0,none⟩) 1 1) [a]:=
 ⟨_,1,rfl,by simp,.inr ⟨b,0,rfl,rfl,fun i hi=>by
  have:i=0:=by simp at hi;exact hi
  subst this
  exact h.cell rfl⟩⟩
theorem aQ.kN {Q:Exit→Act→World→Prop} {n:Nat} {cd:Code} {E:Env} {q1 q2 q:aV} {M M1 M2:List aV} {R:List (World→Prop)} (h1:Rm q1 M M1) (h2:Rm q2 M1 M2) (hF:∀k,q.F k→q1.F k∨q2.F k) (hP:∀w,q1.P w→q2.P w→q.P w) (h:aQ Q n cd E (q::M2) R):aQ Q n cd E M R:=
 ⟨fun w hw=>h.h w (((hw.front h1).front (Rm.tail h2)).merge (fun k hk=>(hF k hk).symm) (fun a b=>hP w b a))⟩
theorem yy (c:dq) (hb:c.broken=0):mH c=if c.fs.length=0∨c.top.kind≠4∨c.top.other=true then(c,16)else if(dA c.aG c.top.res).2≠0 then({c with broken:=(dA c.aG c.top.res).2},(dA c.aG c.top.res).2)else(lS c (dA c.aG c.top.res).1 (c.fs.take (c.fs.length - 1)) {c.top with other:=true},0):=by
 unfold mH;rw[if_neg Hb]
theorem mW (s:cZ) (l:List Int):(dA s l).1.ts.length≤s.ts.length:=by
 unfold dA;dsimp only;split
 ·exact Nat.le_refl _
 ·split
  ·exact Nat.le_refl _
  ·dsimp only;rw[List.length_take];omega
theorem tX (s:cZ) (l:List Int) (h:2≤s.ps.length) (h0:(dA s l).2=0):0<(dA s l).1.ps.length∧(dA s l).1.ps.length≤s.ps.length:=by
 rw[pM h0,if_neg Hb,List.length_take];omega
theorem fU.Good.pop {v:fU} {c:dq} (h:v.Good c) (s:cZ) (tv pv bv:Value) (k:Nat):(fU.mk v.sp tv pv bv v.rv (v.fv.take k) v.D v.L).Good {c with aG:=s,fs:=c.fs.take k}:=by
 have hl:=h.len
 refine⟨by dsimp only;rw[List.length_take,List.length_take,hl],fun i hi=>?_,h.rs⟩
 dsimp only at hi ⊢
 have hi2:i<k∧i<c.fs.length:=by rw[List.length_take]at hi;omega
 rw[cw hi,cw GW,List.getElem_take,List.getElem_take,←cw hi2.2,←cw (show i<v.fv.length by omega)]
 exact h.fr i hi2.2
set_option maxHeartbeats 32000000 in
theorem wK (cp:Nat) (c:dq) (v:fU) (w:World) (hw:Ok (aw cp c v) [] w) (hg:v.Good c) (hb:c.broken=0) (hwf:c.Wf) (hfl:c.fs.length≤1000) (hts:(c.aG.ts.length+c.top.par.length)*8≤140737488355328):
  Calls G.P 54 #[.pointer (some ⟨cp,0,none⟩)] w (ar (aw cp c v) cp (mH c) w):=by
 obtain⟨sp,tv,pv,bv,rv,fv,D,L⟩:=v
 have hrd:=hw.vN (List.Sublist.refl _)
 obtain⟨p,cc,e,hcp,hmx,hgg⟩:=av hrd.o
 dsimp only at e
 subst e
 unfold maxLen at hmx
 have hat:=hwf.aG.at_
 have hps:=hwf.aG.some
 have hmany:=hwf.many
 rw[yy c hb]
 refine aj (l:=[_]) Tryz.func54 rfl Tryz.ntmps54 rfl (Ok.bW hw) ?_
 by_cases h0:c.fs.length=0
 ·rw[if_pos (.inl h0)]
  generalize hS:Mb (aw cp c ⟨sp,tv,pv,.slice p c.fs.length cc,rv,fv,D,L⟩)=S0
  dsimp only[aw,ay,List.cons_append,List.nil_append]
  repeat'(first|refine ax ?_|refine zj ?_|(refine aO ?_ ?_<;>intro hc_))
  all_goals exact ge
 ·obtain⟨g,rfl,-⟩:=hgg Hb
  have hi:c.fs.length - 1<c.fs.length:=by omega
  have hin:((ix c.fs (c.fs.length - 1)).fn,ix fv (c.fs.length - 1))∈L:=hg.fr _ hi
  obtain⟨q1,d1,q2,d2,hx⟩:=(hrd.l _ hin).Ck
  have hc5:∀j,j<5→(cM c.fs fv)[0+(c.fs.length - 1)*5+j]?=(eO (ix c.fs (c.fs.length - 1)) (ix fv (c.fs.length - 1)))[j]?:=fun j hj=>by rw[Nat.zero_add];exact jx c.fs fv (c.fs.length - 1) j hg.len hi hj
  dsimp only at hx hin
  rw[hx]at hc5 hin
  have htop:c.top=ix c.fs (c.fs.length - 1):=rfl
  rw[←htop]at hc5 hin hx
  have hpe:(ix fv (c.fs.length - 1))=(.slice q1 c.top.par.length d1,.slice q2 c.top.res.length d2):=hx
  generalize hf:c.top=f at*
  dsimp only[eO]at hc5
  obtain⟨o5,hoff⟩:∃o5,0+(c.fs.length - 1)*5=o5:=⟨_,rfl⟩
  rw[hoff]at hc5
  have f0:(cM c.fs fv)[o5]?=some (.int .i64 f.kind):=hc5 0 Hb
  have f2:(cM c.fs fv)[o5+1+1]?=some (.slice q2 f.res.length d2):=hc5 2 Hb
  have f3:(cM c.fs fv)[o5+3]?=some (.bool f.other):=hc5 3 Hb
  generalize hS:Mb (aw cp c ⟨sp,tv,pv,.slice (some ⟨g,0,none⟩) c.fs.length cc,rv,fv,D,L⟩)=S0
  dsimp only[aw,ay,List.cons_append,List.nil_append]
  by_cases hk:f.kind≠4∨f.other=true
  ·rw[if_pos (.inr hk)]
   repeat'(first|refine ax ?_|refine zj ?_|(refine aa.dK ?_;refine aa.yg GS (Yl.idx (i:=c.fs.length - 1) rfl rfl rfl rfl rfl Hb Hb) rfl ?_;rw[hoff])|(refine aa.bX ?_;refine aa.yg GS (Yl.fM rfl rfl rfl rfl f0 gi) rfl ?_)|(refine aa.bX ?_;refine aa.yg GS (Yl.fM rfl rfl rfl rfl f3 gi) rfl ?_)|(refine aO ?_ ?_<;>intro hc_))
   all_goals first|omega|skip
   all_goals first|(exfalso;simp_all;done)|skip
   all_goals exact ai.aA rfl rfl fun w' hw'=>ar.err 16 rfl Ha hS hw' ao
  ·rw[if_neg (by rintro(h|h);exact h0 h;exact hk h)]
   have hk4:f.kind=4:=by omega
   have hot:f.other=false:=by cases hb2:f.other<;>simp_all
   obtain⟨r,hr⟩:∃r,dA c.aG f.res=r:=⟨_,rfl⟩
   obtain⟨s2,e2⟩:=r
   have hs2p:=tX c.aG f.res Hb
   have hs2t:=mW c.aG f.res
   rw[hr]at hs2p hs2t ⊢
   dsimp only at hs2p hs2t ⊢
   repeat'(first|refine ax ?_|refine zj ?_|(refine aa.dK ?_;refine aa.yg GS (Yl.idx (i:=c.fs.length - 1) rfl rfl rfl rfl rfl Hb Hb) rfl ?_;rw[hoff])|(refine aa.bX ?_;refine aa.yg GS (Yl.fM rfl rfl rfl rfl f0 gi) rfl ?_)|(refine aa.bX ?_;refine aa.yg GS (Yl.fM rfl rfl rfl rfl f3 gi) rfl ?_)|(refine aO ?_ ?_<;>intro hc_))
   all_goals first|omega|skip
   refine FP ?_
   repeat'(first|refine uo ?_|(refine aK.qy 10 rfl (Yl.idx (i:=c.fs.length - 1) rfl rfl rfl rfl rfl Hb Hb) ?_;rw[hoff])|refine aK.qy 13 rfl (Yl.fM rfl rfl rfl rfl f2 gi) ?_|(refine aI.eU 88 ?_;refine aI.he rfl rfl (HE.aW (M0:=[.aJ sp [tv,pv,.bool (cB c.aG)] fS,.own 0 fl 1 tv c.aG.ts.length (aU c.aG.ts),.own 0 fR 2 pv c.aG.ps.length (bw c.aG.ps)]) cE rfl rfl (fun w' hw'=>by have:=pS D sp c.aG (tv,pv) (.slice q2 f.res.length d2) f.res w' ((hw'.jW (q:=.iM fx fx.fr D L) (p:=fun w=>af D w (.slice q2 f.res.length d2) f.res) hU (fun w' h _=>(h _ hin).2)).bV cT aY) Hb hat.1 hat.2;rw[hr]at this;exact this)) (fun _=>by dsimp only[ay,List.cons_append,List.nil_append];exact bN) (fun _=>aY) ?_;rintro⟨tvb,pvb⟩ _;dsimp only[ay,List.cons_append,List.nil_append])|refine aK.nil G6 ?_|refine aK.any G6 ?_|exact aC.fin rfl|refine aC.skip G6 ?_|refine aC.go ?_ ?_)
   by_cases he2:e2=0
   ·subst he2
    obtain⟨hs2p,hs2q⟩:=hs2p rfl
    rw[if_neg Ha]
    repeat'(first|refine ax ?_|(refine aO ?_ ?_<;>intro hc_))
    refine aa.he (HE.aW (M0:=[.aJ cp [.pointer (some ⟨sp,0,none⟩),.slice (some ⟨g,0,none⟩) c.fs.length cc,rv,.bool c.live,.int .i64 c.broken] fA,.aJ sp [tvb,pvb,.bool (cB s2)] fS,.own 0 fl 1 tvb s2.ts.length (aU s2.ts),.own 0 fR 2 pvb s2.ps.length (bw s2.ps),.own 0 nO 5 (.slice (some ⟨g,0,none⟩) c.fs.length cc) c.fs.length (cM c.fs fv),.iM fx fx.fr D L]) cE rfl rfl (fun w' hw'=>tp cp {c with aG:=s2} ⟨sp,tvb,pvb,.slice (some ⟨g,0,none⟩) c.fs.length cc,rv,fv,D,L⟩ w' (hw'.bV cT (fun p h=>by cases h)) (hg.mono rfl rfl rfl rfl (fun _ h=>h)) G2 G2)) rfl ?_
    intro bv2 _
    dsimp only[aw,ay,List.cons_append,List.nil_append]
    rw[show dq.top {c with aG:=s2}=f from hf,hpe]
    dsimp only[eO]
    rw[hk4,hot]
    repeat'(first|refine ax ?_|(refine aa.hH (t:=nO) ?_;refine aa.alloc (t:=nO) [.int .i64 0,.slice none 0 0,.slice none 0 0,.bool false,.bool false] rfl rfl rfl fun b_=>?_)|(refine aO ?_ ?_<;>intro hc_))
    refine aa.he (HE.aW (M0:=[.aJ cp [.pointer (some ⟨sp,0,none⟩),bv2,rv,.bool c.live,.int .i64 c.broken] fA,.aJ sp [tvb,pvb,.bool (cB s2)] fS,.own 0 fl 1 tvb s2.ts.length (aU s2.ts),.own 0 fR 2 pvb s2.ps.length (bw s2.ps),.own 0 nO 5 bv2 (c.fs.take (c.fs.length - 1)).length (cM (c.fs.take (c.fs.length - 1)) (fv.take (c.fs.length - 1))),.iM fx fx.fr D L]) cE rfl rfl (fun w' hw'=>by
     have:=jU cp {c with aG:=s2,fs:=c.fs.take (c.fs.length - 1)} ⟨sp,tvb,pvb,bv2,rv,fv.take (c.fs.length - 1),D,L⟩ {f with other:=true} (.slice q1 f.par.length d1,.slice q2 f.res.length d2) w' (hw'.bV cT (fun p h=>by cases h)) (hg.pop s2 _ _ _ _) hin G2 G2 (by dsimp only;rw[List.length_take];omega) G2
     dsimp only[eO]at this
     rw[hk4]at this
     exact this)) rfl ?_
    intro y hy
    repeat'(first|refine ax ?_|(refine aO ?_ ?_<;>intro hc_))
    exact gt
   ·rw[if_pos he2]
    repeat'(first|refine ax ?_|(refine aO ?_ ?_<;>intro hc_))
    refine FQ ?_
    rintro⟨⟩ _
    dsimp only[List.cons_append,List.nil_append]
    repeat'(first|refine ax ?_|(refine aO ?_ ?_<;>intro hc_))
    exact ii
end Go.Proofs.YtceedealggognaaGreatDoor
