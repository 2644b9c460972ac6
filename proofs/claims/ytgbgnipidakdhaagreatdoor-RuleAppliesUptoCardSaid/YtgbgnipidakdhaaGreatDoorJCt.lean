/- How many types remain on the stack when the given ones are popped. -/
import Derived.Test.YtgbgnipidakdhaaGreatDoorJSw
import Derived.Test.YtgbgnipidakdhaaGreatDoorJRg
import Derived.Test.YtgbgnipidakdhaaGreatDoorJGr
import Derived.Test.YtgbgnipidakdhaaGreatDoorJSk
namespace Go.Proofs.YtgbgnipidakdhaaGreatDoor
open Go.RowKit
set_option maxRecDepth 100000
abbrev BE:Nat:=62
abbrev zY:Nat:=189
abbrev Bc:Nat:=48
abbrev qw:Nat:=3
theorem uB {fn:Func} {n:Nat} {E:Env} {w:World} {a T b T':Nat} {ti ti':TI} {v u:Value} {ad bd:Addr} (hr:fn.results=#[.cell a T,.cell b T']) (ha:lk E a=some (.pointer (some ad))) (hT:G.ty T=some ti) (hag:ti.agg=false) (hc:w.cell? ad=some v)
  (hb:lk E b=some (.pointer (some bd))) (hT':G.ty T'=some ti') (hag':ti'.agg=false) (hc':w.cell? bd=some u):∀ac,Ag n ac E→(results fn ac.tmps).run G.P w=.ok (.tuple #[v,u]) w:=fun ac hac=>by
 have h1:=(G.iw T ti hT).agg w
 rw[hag]at h1
 have h2:=(G.iw T' ti' hT').agg w
 rw[hag']at h2
 have g1:ac.tmps[a]?.getD undef=.pointer (some ad):=by have:=(hac.eq a _ ha).2;simpa using this
 have g2:ac.tmps[b]?.getD undef=.pointer (some bd):=by have:=(hac.eq b _ hb).2;simpa using this
 simp[results,hr,g1,g2,asAddr,loadVar,h1,hc,h2,hc']
theorem oM {W:World} {D:Nat} {o:Obj} {p:Addr} {v:Value} (h:W.cell? p=some v) (hne:p.block≠D):(W.putObj D o).cell? p=some v:=by
 rw[World.cell?_of_block (w:=W) (World.putObj_heap_other hne)];exact h
theorem Ef {l:List Int} {pre:List (Int×Int)} {x:Int×Int} (h:pre++[x]<+:bwd l):pre.length<l.length∧l.reverse.drop pre.length=x.2::l.reverse.drop (pre.length+1):=by
 obtain⟨r,hr⟩:=h
 have hl:pre.length<l.length:=by rw[←oz,←hr];simp
 refine⟨hl,?_⟩
 have h1:(bwd l)[pre.length]?=some x:=by rw[←hr];simp
 have h2:(bwd l)[pre.length]?=some (((l.length - 1 - pre.length:Nat):Int),ix l (l.length - 1 - pre.length)):=by
  rw[List.getElem?_eq_getElem (by rw[oz];exact hl)]
  congr 1
  simp[bwd,List.getElem_reverse]
 rw[h1]at h2
 cases h2
 rw[List.drop_eq_getElem_cons (by simpa using hl)]
 congr 1
 rw[List.getElem_reverse,cD Mj]
set_option maxHeartbeats 8000000 in
theorem s9 (D:Nat→Prop) (sp:Nat) (s:bP) (x:Value×Value) (v:Value) (l:List Int) (w:World) (hw:Ok (aS sp s x) [fun w=>af D w v l] w) (hp:0<s.ps.length) (h0:0≤s.at_) (hle:s.at_≤s.ts.length):
  Calls G.P 115 #[.pointer (some ⟨sp,0,none⟩),v] w fun e w'=>e=.returned (.tuple #[.int .i64 ((ew s l.reverse s.ts.length).1:Nat),.int .i64 (ew s l.reverse s.ts.length).2])∧Ext w w':=by
 obtain⟨v1,v2⟩:=x
 obtain⟨⟨p1,c1,e1,hcap,hg1⟩,⟨p2,c2,e2,hg2⟩,hn1,hn2⟩:=vR sp s (v1,v2) hw (List.Sublist.refl _)
 dsimp only at e1 e2
 subst e1;subst e2
 obtain⟨g2,rfl⟩:=hg2 hp
 have hI:af D w v l:=hw.get (p:=fun w=>af D w v l) Mk
 obtain⟨q,d,rfl,hl⟩:=hI.slice
 have k0:w.cell? ⟨sp,0,none⟩=some (.slice p1 s.ts.length c1):=hw.c1 (T:=iN) (cs:=[.slice p1 s.ts.length c1,.slice (some ⟨g2,0,none⟩) s.ps.length c2,.bool (eN s)]) Up.head rfl
 have k1:w.cell? ⟨sp,1,none⟩=some (.slice (some ⟨g2,0,none⟩) s.ps.length c2):=hw.c1 (T:=iN) (cs:=[.slice p1 s.ts.length c1,.slice (some ⟨g2,0,none⟩) s.ps.length c2,.bool (eN s)]) Up.head rfl
 have o1:w.ownsRow 0 fY 1 (.slice p1 s.ts.length c1) s.ts.length (aX s.ts):=(hw.m (.own 0 fY 1 (.slice p1 s.ts.length c1) s.ts.length (aX s.ts)) (by simp[aS])).1
 have o2:w.ownsRow 0 iO 2 (.slice (some ⟨g2,0,none⟩) s.ps.length c2) s.ps.length (bO s.ps):=(hw.m (.own 0 iO 2 (.slice (some ⟨g2,0,none⟩) s.ps.length c2) s.ps.length (bO s.ps)) (by simp[aS])).1
 have a1:w.cell? ⟨g2,(s.ps.length - 1)*2,none⟩=some (.int .i64 s.at_):=dP o2 (lq (l:=s.ps) (i:=s.ps.length - 1) Mj).1
 have a2:w.cell? ⟨g2,(s.ps.length - 1)*2+1,none⟩=some (.bool s.loose):=dP o2 (lq (l:=s.ps) (i:=s.ps.length - 1) Mj).2
 refine FB (l:=[.pointer (some ⟨sp,0,none⟩),.slice q l.length d]) Tryz.func115 rfl Tryz.ntmps115 rfl (Ok.start w) ?_
 refine Hr ?_
 refine bw.he (HE.box [.pointer (some ⟨sp,0,none⟩)] rfl rfl) rfl rfl ?_
 intro b2 _
 refine Hr ?_
 refine bw.he (HE.alloc [.int .i64 0] rfl rfl) rfl rfl ?_
 intro b4 _
 refine Hr ?_
 refine bw.he (HE.alloc [.int .i64 0] rfl rfl) rfl rfl ?_
 intro b5 _
 refine Hr ?_
 refine iE.Ik ?_
 refine aZ.cT [.aT b5 [.int .i64 0] Bc,.aT b4 [.int .i64 0] qw,.aT b2 [.pointer (some ⟨sp,0,none⟩)] BE] [Ext w] bc aV ?_
 refine aP.xW (α:=Nat×Nat) (fun y=>[(1,.slice q l.length d),(2,.pointer (some ⟨b2,0,none⟩)),(4,.pointer (some ⟨b4,0,none⟩)),(5,.pointer (some ⟨b5,0,none⟩)),(6,.pointer (some ⟨y.1,0,none⟩)),(7,.pointer (some ⟨y.2,0,none⟩))]) (fun y=>[.aT y.1 [.int .i64 s.ts.length] qw,.aT y.2 [.pointer (some ⟨g2,(s.ps.length - 1)*2,none⟩)] zY,.aT b5 [.int .i64 0] Bc,.aT b4 [.int .i64 0] qw,.aT b2 [.pointer (some ⟨sp,0,none⟩)] BE]) (fun _=>[Ext w]) ?_ fun hrest=>?_
 ·rintro⟨b6,b7⟩
  dsimp only
  refine ah.F4 ?_
  refine Hr ?_
  refine bw.he (HE.call (β:=Nat) (tf:=fun b=>.func (.func 181) #[] #[.pointer (some ⟨b,0,none⟩)]) (φ:=fun _=>True) (Mf:=fun b=>.aT b [.slice q l.length d] 34::[.aT b6 [.int .i64 s.ts.length] qw,.aT b7 [.pointer (some ⟨g2,(s.ps.length - 1)*2,none⟩)] zY,.aT b5 [.int .i64 0] Bc,.aT b4 [.int .i64 0] qw,.aT b2 [.pointer (some ⟨sp,0,none⟩)] BE]) (Rf:=fun _=>[Ext w]) rfl rfl (fun w' hw'=>(qe q l.length d w').mono fun e w'' ⟨e1,hn⟩=>⟨w'.heap.size,e1,trivial,hw'.push hn.ext hn.aT (td hn)⟩)) rfl rfl ?_
  intro b9 _
  refine Hr ?_
  refine⟨fun w1 hw1=>?_⟩
  have hx1:Ext w w1:=hw1.at
  have f9:b9<w1.heap.size:=(hw1.m (.aT b9 _ _) bG).2 b9 rfl
  have f6:b6<w1.heap.size:=(hw1.m (.aT b6 _ _) bG).2 b6 rfl
  have f7:b7<w1.heap.size:=(hw1.m (.aT b7 _ _) bG).2 b7 rfl
  have f5:b5<w1.heap.size:=(hw1.m (.aT b5 _ _) bG).2 b5 rfl
  have f4:b4<w1.heap.size:=(hw1.m (.aT b4 _ _) bG).2 b4 rfl
  have f2:b2<w1.heap.size:=(hw1.m (.aT b2 _ _) bG).2 b2 rfl
  have hRB:RB b9 q d l w1:=⟨hw1.c1 (cs:=[.slice q l.length d]) aA rfl,fun i hi=>by
   obtain⟨b,o,e,-,hc⟩:=hI.at hi
   exact⟨b,o,e,hx1.cell (hc i hi)⟩⟩
  have lowG:∀(x6 x5 x4:Int) (r:Nat),Mb [.aT b6 [.int .i64 x6] qw,.aT b7 [.pointer (some ⟨g2,(s.ps.length - 1)*2,none⟩)] zY,.aT b5 [.int .i64 x5] Bc,.aT b4 [.int .i64 x4] qw,.aT b2 [.pointer (some ⟨sp,0,none⟩)] BE] r→r<w1.heap.size:=fun x6 x5 x4 r ⟨q',hq,hk⟩=>by
   simp only[List.mem_cons,List.not_mem_nil,or_false]at hq
   rcases hq with rfl|rfl|rfl|rfl|rfl<;>(have hk':r=_:=hk;omega)
  have lowM:∀(nn:Nat) (r:Nat),Mb [.aT b6 [.int .i64 ((nn:Nat):Int)] qw,.aT b7 [.pointer (some ⟨g2,(s.ps.length - 1)*2,none⟩)] zY,.aT b5 [.int .i64 0] Bc,.aT b4 [.int .i64 0] qw,.aT b2 [.pointer (some ⟨sp,0,none⟩)] BE] r→r<w1.heap.size:=fun nn r ⟨q',hq,hk⟩=>by
   simp only[List.mem_cons,List.not_mem_nil,or_false]at hq
   rcases hq with rfl|rfl|rfl|rfl|rfl<;>(have hk':r=_:=hk;omega)
  have lowX:∀(ee:Int) (r:Nat),Mb [.aT b7 [.pointer (some ⟨g2,(s.ps.length - 1)*2,none⟩)] zY,.aT b5 [.int .i64 ee] Bc,.aT b4 [.int .i64 0] qw,.aT b2 [.pointer (some ⟨sp,0,none⟩)] BE] r→r<w1.heap.size:=fun ee r ⟨q',hq,hk⟩=>by
   simp only[List.mem_cons,List.not_mem_nil,or_false]at hq
   rcases hq with rfl|rfl|rfl|rfl<;>(have hk':r=_:=hk;omega)
  have hqb:∀a,0<l.length→q=some a→a.block<w.heap.size:=fun a h e=>by
   obtain⟨b,o,e',-,hc⟩:=hI.at (i:=0) h
   rw[e]at e';cases e'
   exact fC (hc 0 h)
  have hne:b9≠b6∧b9≠b7∧b9≠b5∧b9≠b4∧b9≠b2:=by
   have hd:=(List.pairwise_cons.1 hw1.d).1
   exact⟨hd (.aT b6 _ _) bG b9 rfl,hd (.aT b7 _ _) bG b9 rfl,hd (.aT b5 _ _) bG b9 rfl,hd (.aT b4 _ _) bG b9 rfl,hd (.aT b2 _ _) bG b9 rfl⟩
  have keepM:∀(nn:Nat) (W:World),Ok [.aT b6 [.int .i64 ((nn:Nat):Int)] qw,.aT b7 [.pointer (some ⟨g2,(s.ps.length - 1)*2,none⟩)] zY,.aT b5 [.int .i64 0] Bc,.aT b4 [.int .i64 0] qw,.aT b2 [.pointer (some ⟨sp,0,none⟩)] BE] [Ext w] W→∀k,KB b9 q l.length k→¬Mb [.aT b6 [.int .i64 ((nn:Nat):Int)] qw,.aT b7 [.pointer (some ⟨g2,(s.ps.length - 1)*2,none⟩)] zY,.aT b5 [.int .i64 0] Bc,.aT b4 [.int .i64 0] qw,.aT b2 [.pointer (some ⟨sp,0,none⟩)] BE] k:=fun nn W hok k hk hm=>by
   rcases hk with rfl|⟨h,a,e,rfl⟩
   ·obtain⟨q',hq,hk⟩:=hm
    simp only[List.mem_cons,List.not_mem_nil,or_false]at hq
    obtain⟨n1,n2,n3,n4,n5⟩:=hne
    rcases hq with rfl|rfl|rfl|rfl|rfl
    ·exact n1 hk
    ·exact n2 hk
    ·exact n3 hk
    ·exact n4 hk
    ·exact n5 hk
   ·exact hok.origin (S:=fun _=>False) Mk _ hm (hqb a h e)
  refine jE.EY (encs:=EW) (Kp:=KD (KB b9 q l.length)) (full:=bwd l) rfl rfl (Dz b9 q d l w1 hRB Mj) (fun h k=>h.trans k) (fun W l' r r' hW hl' _=>KD.put ?_) (fun _=>rfl) rfl
   (fun pre W=>∃nn:Nat,Ok [.aT b6 [.int .i64 ((nn:Nat):Int)] qw,.aT b7 [.pointer (some ⟨g2,(s.ps.length - 1)*2,none⟩)] zY,.aT b5 [.int .i64 0] Bc,.aT b4 [.int .i64 0] qw,.aT b2 [.pointer (some ⟨sp,0,none⟩)] BE] [Ext w] W∧s.at_≤nn∧nn≤s.ts.length∧ew s (l.reverse.drop pre.length) nn=ew s l.reverse s.ts.length)
   (fun c pre W=>c=.ret∧∃ee:Int,Ok [.aT b7 [.pointer (some ⟨g2,(s.ps.length - 1)*2,none⟩)] zY,.aT b5 [.int .i64 ee] Bc,.aT b4 [.int .i64 0] qw,.aT b2 [.pointer (some ⟨sp,0,none⟩)] BE] [Ext w] W∧ew s l.reverse s.ts.length=(0,ee)) ?_ ?_ ⟨s.ts.length,hw1.sub bc (fun _ h=>h),hle,Nat.le_refl _,rfl⟩
   (fun x=>[(9,.int .i64 x.2),(1,.slice q l.length d),(2,.pointer (some ⟨b2,0,none⟩)),(4,.pointer (some ⟨b4,0,none⟩)),(5,.pointer (some ⟨b5,0,none⟩)),(6,.pointer (some ⟨b6,0,none⟩)),(7,.pointer (some ⟨b7,0,none⟩))]) ?_ ?_ ?_ ?_
  ·intro hk
   have hlt:l'<w1.heap.size:=by
    rcases hk with rfl|⟨h,a,e,rfl⟩
    ·exact f9
    ·exact Nat.lt_of_lt_of_le (hqb a h e) hx1.size
   omega
  ·rintro pre A A' row ⟨nn,h,h1,h2,h3⟩ hg hr
   exact⟨nn,h.grow hx1.size hg hr fun r o h1 h2 h3 h4=>absurd (lowM nn r h4) Mj,h1,h2,h3⟩
  ·rintro c pre A A' row ⟨e,ee,h,h3⟩ hg hr
   exact⟨e,ee,h.grow hx1.size hg hr fun r o h1 h2 h3 h4=>absurd (lowX ee r h4) Mj,h3⟩
  ·intro l' x W2 K hK
   refine Gf ?_
   exact eJ.Ey (fun a ha=>hK a (ha.sub bJ))
  ·rintro l' pre x W2 ⟨nn,hok,h1,h2,h3⟩ hN
   obtain⟨hpl,hdr⟩:=Ef hN
   rw[hdr,ew]at h3
   obtain⟨S0,hS0⟩:∃S0,S0=Mb [.aT b6 [.int .i64 ((nn:Nat):Int)] qw,.aT b7 [.pointer (some ⟨g2,(s.ps.length - 1)*2,none⟩)] zY,.aT b5 [.int .i64 0] Bc,.aT b4 [.int .i64 0] qw,.aT b2 [.pointer (some ⟨sp,0,none⟩)] BE]:=⟨_,rfl⟩
   have hok':=hok.dj
   rw[←hS0]at hok'
   have fin:∀{W':World},cg S0 W2 W'→yc #[20,21] w1.heap.size W2 W'∧KD (KB b9 q l.length) W2 W':=fun{W'} hc=>by
    have hk0:=keepM nn W2 hok
    rw[←hS0]at hk0
    refine⟨⟨hc.size,fun k o hk ho _=>?_⟩,hc.size,fun k hlt hk=>hc.block k hlt (hk0 k hk)⟩
    rw[hc.block k (Array.getElem?_eq_some_iff.1 ho).1 (fun hs=>by rw[hS0]at hs;have:=lowM nn k hs;omega)];exact ho
   refine iE.at hok' ?_
   by_cases he:(nn:Int)=s.at_
   ·rw[if_pos he]at h3
    obtain⟨lo,hlo⟩:∃b,s.loose=b:=⟨_,rfl⟩
    rw[hlo]at a2 h3
    cases lo with
    |true=>
     rw[if_pos rfl]at h3
     refine Hp ?_
     refine⟨fun W' hw'=>⟨fun a ha=>?_⟩⟩
     obtain⟨k1,k2⟩:=fin hw'.at
     exact⟨k1,k2,nn,hw'.sub bc aV,h1,h2,by rw[←h3];simp⟩
    |false=>
     rw[if_neg Mk]at h3
     refine Hp ?_
     refine bw.jf (fQ.bn [.int .i64 0] rfl rfl rfl rfl rfl rfl aA rfl) rfl ?_
     rintro⟨⟩ _
     refine Hp ?_
     refine bw.jf (fQ.bn [.int .i64 13] rfl rfl rfl rfl rfl rfl aA rfl) rfl ?_
     rintro⟨⟩ _
     refine Hp ?_
     refine⟨fun W' hw'=>⟨fun a ha=>?_⟩⟩
     obtain⟨k1,k2⟩:=fin hw'.at
     exact⟨k1,k2,rfl,13,hw'.sub bc aV,h3.symm⟩
   ·rw[if_neg he]at h3
    obtain⟨g1,rfl⟩:=hg1 Mj
    have b1:=dP o1 (ng (l:=s.ts) (i:=nn - 1) Mj)
    have e1:(nn:Int) - 1=((nn - 1:Nat):Int):=by omega
    by_cases hM:ix s.ts (nn - 1)≠x.2∧ix s.ts (nn - 1)≠0∧x.2≠0
    ·rw[if_pos hM]at h3
     obtain⟨m1,m2,m3⟩:=hM
     refine Hp ?_
     refine bw.jf (fQ.bn [.int .i64 ((nn:Int) - 1)] rfl rfl rfl rfl rfl rfl aA rfl) rfl ?_
     rintro⟨⟩ _
     rw[e1]
     refine Hp ?_
     refine bw.jf (fQ.bn [.int .i64 0] rfl rfl rfl rfl rfl rfl aA rfl) rfl ?_
     rintro⟨⟩ _
     refine Hp ?_
     refine bw.jf (fQ.bn [.int .i64 12] rfl rfl rfl rfl rfl rfl aA rfl) rfl ?_
     rintro⟨⟩ _
     refine Hp ?_
     refine⟨fun W' hw'=>⟨fun a ha=>?_⟩⟩
     obtain⟨k1,k2⟩:=fin hw'.at
     exact⟨k1,k2,rfl,12,hw'.sub bc aV,h3.symm⟩
    ·rw[if_neg hM]at h3
     rcases(show(ix s.ts (nn - 1)=x.2)∨(ix s.ts (nn - 1)≠x.2∧ix s.ts (nn - 1)=0)∨(ix s.ts (nn - 1)≠x.2∧ix s.ts (nn - 1)≠0∧x.2=0)from by omega)with m1|⟨m1,m2⟩|⟨m1,m2,m3⟩
     all_goals
      refine Hp ?_
      refine bw.jf (fQ.bn [.int .i64 ((nn:Int) - 1)] rfl rfl rfl rfl rfl rfl aA rfl) rfl ?_
      rintro⟨⟩ _
      rw[e1]
      refine Hp ?_
      refine⟨fun W' hw'=>⟨fun a ha=>?_⟩⟩
      obtain⟨k1,k2⟩:=fin hw'.at
      exact⟨k1,k2,nn - 1,hw'.sub bc aV,by omega,by omega,by rw[←h3];simp⟩
  ·rintro Dn W2 hD ⟨nn,hok,h1,h2,h3⟩ hK
   rw[oz,show l.length=l.reverse.length from by simp,List.drop_length,ew]at h3
   rw[←h3]
   have hok2:Ok [.aT b6 [.int .i64 ((nn:Nat):Int)] qw,.aT b7 [.pointer (some ⟨g2,(s.ps.length - 1)*2,none⟩)] zY,.aT b5 [.int .i64 0] Bc,.aT b4 [.int .i64 0] qw,.aT b2 [.pointer (some ⟨sp,0,none⟩)] BE] [fun W=>W.heap[Dn]?=some (.deferred (some [])),Ext w] W2:=hok.add fun w' hc=>by
    rw[hc.block Dn (Array.getElem?_eq_some_iff.1 hK).1 (fun hs=>by have:=lowM nn Dn hs;omega)];exact hK
   refine fO.at hok2 ?_
   refine Hr ?_
   refine bw.jf (fQ.bn [.int .i64 nn] rfl rfl rfl rfl rfl rfl aA rfl) rfl ?_
   rintro⟨⟩ _
   refine Hr ?_
   refine bw.jf (fQ.bn [.int .i64 0] rfl rfl rfl rfl rfl rfl aA rfl) rfl ?_
   rintro⟨⟩ _
   refine Hr ?_
   refine⟨fun W' hw'=>?_⟩
   have hK':W'.heap[Dn]?=some (.deferred (some [])):=hw'.at
   have hx':Ext w (W'.putObj Dn (.deferred none)):=(hw'.sub (List.Sublist.refl _) (R':=[Ext w]) aV |>.grow (row:=some Dn) (B:=w1.heap.size) hx1.size (grownBy_putObj' W' Dn (.deferred none)) (fun r e=>by cases e;exact⟨hD,_,hK',rfl⟩) (fun r o h1 h2 h3 h4=>absurd (lowG _ _ _ r h4) Mj)).at
   have q4:W'.cell? ⟨b4,0,none⟩=some (.int .i64 nn):=hw'.c1 aA rfl
   have q5:W'.cell? ⟨b5,0,none⟩=some (.int .i64 0):=hw'.c1 aA rfl
   refine eJ.Ee (.inl rfl) hK' (uB rfl rfl rfl rfl (oM q4 (show b4≠Dn by omega)) rfl rfl rfl (oM q5 (show b5≠Dn by omega))) ⟨rfl,hx'⟩
  ·rintro Dn c pre W2 hD hpre ⟨rfl,ee,hok,h3⟩ hK
   rw[h3]
   have hok2:Ok [.aT b7 [.pointer (some ⟨g2,(s.ps.length - 1)*2,none⟩)] zY,.aT b5 [.int .i64 ee] Bc,.aT b4 [.int .i64 0] qw,.aT b2 [.pointer (some ⟨sp,0,none⟩)] BE] [fun W=>W.heap[Dn]?=some (.deferred (some [])),Ext w] W2:=hok.add fun w' hc=>by
    rw[hc.block Dn (Array.getElem?_eq_some_iff.1 hK).1 (fun hs=>by have:=lowX ee Dn hs;omega)];exact hK
   refine iE.at hok2 ?_
   refine Hr ?_
   refine⟨fun W' hw'=>?_⟩
   have hK':W'.heap[Dn]?=some (.deferred (some [])):=hw'.at
   have hx':Ext w (W'.putObj Dn (.deferred none)):=(hw'.sub (List.Sublist.refl _) (R':=[Ext w]) aV |>.grow (row:=some Dn) (B:=w1.heap.size) hx1.size (grownBy_putObj' W' Dn (.deferred none)) (fun r e=>by cases e;exact⟨hD,_,hK',rfl⟩) (fun r o h1 h2 h3 h4=>absurd (lowX ee r h4) Mj)).at
   have q4:W'.cell? ⟨b4,0,none⟩=some (.int .i64 0):=hw'.c1 aA rfl
   have q5:W'.cell? ⟨b5,0,none⟩=some (.int .i64 ee):=hw'.c1 aA rfl
   refine eJ.Ee (.inl rfl) hK' (uB rfl rfl rfl rfl (oM q4 (show b4≠Dn by omega)) rfl rfl rfl (oM q5 (show b5≠Dn by omega))) ⟨rfl,hx'⟩
 ·repeat'(first|refine og ?_|(refine av.zM qw ?_;refine av.he rfl rfl (HE.alloc (t:=qw) [.int .i64 0] rfl rfl) (fun _=>bc) (fun _=>aV) ?_;intro b_ _)|(refine av.zM zY ?_;refine av.he rfl rfl (HE.alloc (t:=zY) [.pointer none] rfl rfl) (fun _=>bc) (fun _=>aV) ?_;intro b_ _)|(refine av.ep 117 ?_;refine av.he rfl rfl (HE.dX rfl rfl (fun w' hw'=>ly sp s.ps.length c2 g2 w' ((show Ext w w' from hw'.at).cell k1) hp hn2)) (fun _=>bc) (fun _=>aV) ?_;rintro⟨⟩ _)|(refine av.nw ?_;refine av.jf rfl (fQ.bn _ rfl rfl rfl rfl rfl rfl aA rfl) (fun _=>bc) (fun _=>aV) ?_;rintro⟨⟩ _)|refine aP.nil LX ?_|refine aP.any LX ?_|exact aN.fin rfl|refine aN.skip LX ?_|refine aN.go ?_ ?_)
  all_goals exact ah.cF (hrest (_,_)) bJ dM aV
set_option maxHeartbeats 4000000 in
theorem fK (D:Nat→Prop) (sp:Nat) (s:bP) (x:Value×Value) (v:Value) (l:List Int) (w:World) (hw:Ok (aS sp s x) [fun w=>af D w v l] w) (hp:0<s.ps.length) (h0:0≤s.at_) (hle:s.at_≤s.ts.length):
  Calls G.P 55 #[.pointer (some ⟨sp,0,none⟩),v] w (eF sp s x (.int .i64 (aE s l).2) (aE s l).1 w):=by
 obtain⟨v1,v2⟩:=x;obtain⟨⟨p1,c1,e1,hcap,hg1⟩,⟨p2,c2,e2,hg2⟩,hn1,hn2⟩:=vR sp s (v1,v2) hw (List.Sublist.refl _);dsimp only at e1 e2;subst e1;subst e2;obtain⟨g2,rfl⟩:=hg2 hp
 have hI:af D w v l:=hw.get (p:=fun w=>af D w v l) Mk
 obtain⟨q,d,rfl,hl⟩:=hI.slice
 refine ae (l:=[_,_]) Tryz.func55 rfl Tryz.ntmps55 rfl (Ok.dj hw) ?_
 unfold eF
 obtain⟨r,hr⟩:∃r,ew s l.reverse s.ts.length=r:=⟨_,rfl⟩
 obtain⟨n,e⟩:=r
 have hlf:∀w',Ok (aS sp s (.slice p1 s.ts.length c1,.slice (some ⟨g2,0,none⟩) s.ps.length c2)) [fun w=>af D w (.slice q l.length d) l] w'→Calls G.P 115 #[.pointer (some ⟨sp,0,none⟩),.slice q l.length d] w' fun ee w''=>ee=.returned (.tuple #[.int .i64 (n:Nat),.int .i64 e])∧Ext w' w'':=fun w' hw'=>by
  have:=s9 D sp s _ _ l w' hw' hp h0 hle
  rw[hr]at this;exact this
 have hwk:aE s l=if e=0 then({s with ts:=s.ts.take n},0)else(s,e):=by unfold aE;rw[hr]
 have hnl:e=0→n≤s.ts.length:=fun h=>by
  have:=iX l.reverse s.ts.length hle (by rw[hr];exact h)
  rw[hr]at this;exact this.2
 rw[hwk]
 generalize hS:Mb (aS sp s (.slice p1 s.ts.length c1,.slice (some ⟨g2,0,none⟩) s.ps.length c2))=S0;unfold aS;dsimp only
 repeat'(first|refine ar ?_|refine KZ ?_|(refine aa.ai (f:=115) ?_;refine aa.aq rfl rfl rfl (fun w' hw'=>hlf w' (hw'.sub (List.Sublist.refl _) aV)) ?_)|(refine aa.y_ (Yl.cO (i:=n) rfl rfl rfl rfl rfl rfl (Nat.le_trans (hnl hc_) hcap)) rfl ?_)|(refine a7 ?_ ?_<;>intro hc_))
 ·subst hc_
  rw[if_pos rfl]
  dsimp only
  refine ah.mw n aA (hnl rfl) ?_
  exact ah.aB rfl rfl fun w' hw'=>by
   have hn:=hnl rfl
   refine aM.iI (x:=(_,_)) trivial hS hw' (jv rfl rfl rfl Ma (by simp[aX,List.map_take]) rfl rfl rfl) ak
 ·rw[if_neg hc_]
  dsimp only
  exact ul
theorem pU:∀(l:List (Int×Bool)) (k:Nat),(bO l).take (k*2)=bO (l.take k)
 |[],k=>by simp[bO]
 |a::r,0=>by simp[bO]
 |a::r,k+1=>by
  have ih:=pU r k
  have e:(k+1)*2=k*2+2:=by omega
  show((mF a)++bO r).take ((k+1)*2)=mF a++bO (r.take k)
  rw[←ih,e]
  simp[mF]
theorem sH:∀(l:List (Int×Bool)) (k:Nat) (b:Bool),(bO l).set (k*2+1) (.bool b)=bO (l.set k ((ix l k).1,b))
 |[],k,b=>by simp[bO]
 |a::r,0,b=>by
  show((mF a)++bO r).set 1 (.bool b)=mF (a.1,b)++bO r
  rfl
 |a::r,k+1,b=>by
  have ih:=sH r k b
  have e:(k+1)*2+1=k*2+1+1+1:=by omega
  show((mF a)++bO r).set ((k+1)*2+1) (.bool b)=mF a++bO (r.set k ((ix (a::r) (k+1)).1,b))
  rw[show ix (a::r) (k+1)=ix r k from by simp[ix],←ih,e]
  rfl
theorem zq (l:List (Int×Bool)) (a:Int×Bool):bO (l++[a])=bO l++mF a:=by unfold bO;rw[List.flatMap_append];simp
set_option maxHeartbeats 4000000 in
theorem rK (sp:Nat) (s:bP) (x:Value×Value) (w:World) (hw:Ok (aS sp s x) [] w) (hp:0<s.ps.length) (hpl:s.ps.length≤1000000):
  Calls G.P 51 #[.pointer (some ⟨sp,0,none⟩)] w (eF sp s x (.tuple #[]) (aR s) w):=by
 obtain⟨v1,v2⟩:=x;obtain⟨⟨p1,c1,e1,hcap,hg1⟩,⟨p2,c2,e2,hg2⟩,hn1,hn2⟩:=vR sp s (v1,v2) hw (List.Sublist.refl _);dsimp only at e1 e2;subst e1;subst e2;obtain⟨g2,rfl⟩:=hg2 hp
 refine ae (l:=[_]) Tryz.func51 rfl Tryz.ntmps51 rfl (Ok.dj hw) ?_
 unfold eF
 generalize hS:Mb (aS sp s (.slice p1 s.ts.length c1,.slice (some ⟨g2,0,none⟩) s.ps.length c2))=S0;unfold aS;dsimp only
 repeat'(first|refine ar ?_|refine KZ ?_|fail)
 refine aZ.dB [0,1,2,3,4,5,6,7,8,9,10,11,12,13,14] 15 [.aT sp [.slice p1 s.ts.length c1,.slice (some ⟨g2,0,none⟩) s.ps.length c2,.bool (eN s)] iN,.own 0 fY 1 (.slice p1 s.ts.length c1) s.ts.length (aX s.ts)] [] L9 bc aV ?_
 refine pO ?_
 refine JP ?_
 intro b3 _
 refine J1 ?_
 intro v2 _
 refine bq.pure (φ:=∃p c,v2=.slice p (s.ps.length+1) c) (fun w' hw'=>?_) ?_
 ·obtain⟨p,c,e,_⟩:=ax (hw'.own (v:=v2));exact⟨p,c,e⟩
 rintro⟨p3,c3,rfl⟩
 refine pO ?_
 refine bq.iq (fQ.gg rfl rfl rfl rfl rfl aA nZ) rfl ?_
 rintro⟨⟩ _
 refine bQ ?_
 exact ah.n8 rfl fun w' hw'=>aM.iI (x:=(_,_)) trivial hS (hw'.cF (M':=[.aT sp [.slice p1 s.ts.length c1,.slice p3 (s.ps.length+1) c3,.bool (eN s)] iN,.own 0 fY 1 (.slice p1 s.ts.length c1) s.ts.length (aX s.ts),.own 0 iO 2 (.slice p3 (s.ps.length+1) c3) (s.ps.length+1) _]) dM (fun _ h=>h)) (jv rfl rfl rfl rfl rfl (by simp[aR]) (by simp[aR,zq];rfl) rfl) ak
set_option maxHeartbeats 4000000 in
theorem sO (D:Nat→Prop) (sp:Nat) (s:bP) (x:Value×Value) (v:Value) (l:List Int) (w:World) (hw:Ok (aS sp s x) [fun w=>af D w v l] w) (h2p:2≤s.ps.length) (h0:0≤s.at_) (hle:s.at_≤s.ts.length):
  Calls G.P 107 #[.pointer (some ⟨sp,0,none⟩),v] w (eF sp s x (.int .i64 (cw s l).2) (cw s l).1 w):=by
 have hp:0<s.ps.length:=by omega
 obtain⟨v1,v2⟩:=x;obtain⟨⟨p1,c1,e1,hcap,hg1⟩,⟨p2,c2,e2,hg2⟩,hn1,hn2⟩:=vR sp s (v1,v2) hw (List.Sublist.refl _);dsimp only at e1 e2;subst e1;subst e2;obtain⟨g2,rfl⟩:=hg2 hp
 have hcap2:s.ps.length≤c2:=by
  obtain⟨p',c',e,h,-⟩:=ax (show w.ownsRow 0 iO 2 (.slice (some ⟨g2,0,none⟩) s.ps.length c2) s.ps.length (bO s.ps)from(hw.m (.own 0 iO 2 (.slice (some ⟨g2,0,none⟩) s.ps.length c2) s.ps.length (bO s.ps)) (by simp[aS])).1)
  cases e;exact h
 have hI:af D w v l:=hw.get (p:=fun w=>af D w v l) Mk
 obtain⟨q,d,rfl,hl⟩:=hI.slice
 have a1:(bO s.ps)[(s.ps.length - 1)*2]?=some (.int .i64 s.at_):=(lq (l:=s.ps) (i:=s.ps.length - 1) Mj).1
 refine ae (l:=[_,_]) Tryz.func107 rfl Tryz.ntmps107 rfl (Ok.dj hw) ?_
 unfold eF
 obtain⟨r,hr⟩:∃r,ew s l.reverse s.ts.length=r:=⟨_,rfl⟩
 obtain⟨n,e⟩:=r
 have hlf:∀w',Ok (aS sp s (.slice p1 s.ts.length c1,.slice (some ⟨g2,0,none⟩) s.ps.length c2)) [fun w=>af D w (.slice q l.length d) l] w'→Calls G.P 115 #[.pointer (some ⟨sp,0,none⟩),.slice q l.length d] w' fun ee w''=>ee=.returned (.tuple #[.int .i64 (n:Nat),.int .i64 e])∧Ext w' w'':=fun w' hw'=>by
  have:=s9 D sp s _ _ l w' hw' hp h0 hle
  rw[hr]at this;exact this
 have hwk:cw s l=if e≠0 then(s,e)else if s.at_<n then(s,14)else({s with ts:=s.ts.take n,ps:=s.ps.take (s.ps.length - 1)},0):=by
  unfold cw;rw[hr];dsimp only;rw[if_neg (show¬s.ps.length=1 by omega)]
 have hnl:e=0→n≤s.ts.length:=fun h=>by
  have:=iX l.reverse s.ts.length hle (by rw[hr];exact h)
  rw[hr]at this;exact this.2
 rw[hwk]
 generalize hS:Mb (aS sp s (.slice p1 s.ts.length c1,.slice (some ⟨g2,0,none⟩) s.ps.length c2))=S0;unfold aS;dsimp only
 repeat'(first|refine ar ?_|refine KZ ?_|refine K1 ?_|(refine aa.ai (f:=115) ?_;refine aa.aq rfl rfl rfl (fun w' hw'=>hlf w' (hw'.sub (List.Sublist.refl _) aV)) ?_)|(refine aa.dk ?_;refine aa.y_ (Yl.iD rfl rfl rfl rfl a1 bG) rfl ?_)|(refine aa.y_ (Yl.cO (i:=n) rfl rfl rfl rfl rfl rfl (Nat.le_trans (hnl Mj) hcap)) rfl ?_)|(refine a7 ?_ ?_<;>intro hc_))
 ·rw[if_pos hc_]
  dsimp only
  exact ul
 ·rw[if_neg Md,if_pos Md]
  dsimp only
  exact ul
 ·have hn:=hnl Mj
  rw[if_neg Md,if_neg Md]
  dsimp only
  refine aZ.dB [0,1,2,3,4,5,6,7,8,9,10,11,12,13] 14 _ _ L9 (List.Sublist.refl _) (fun _ h=>h) ?_
  refine pO ?_
  refine bq.y_ (Yl.cO (i:=s.ps.length - 1) rfl rfl rfl rfl rfl Mj Mj) rfl ?_
  refine pO ?_
  refine bq.iq (fQ.gg rfl rfl rfl rfl rfl aA nZ) rfl ?_
  rintro⟨⟩ _
  refine bQ ?_
  refine ah.mw n aA hn ?_
  refine ah.mw (s.ps.length - 1) (aA (q:=.own 0 iO 2 _ _ _)) Mj ?_
  exact ah.aB rfl rfl fun w' hw'=>aM.iI (x:=(_,_)) trivial hS hw' (jv rfl rfl rfl Ma (by simp[aX,List.map_take]) Mk (pU _ _) rfl) ak
set_option maxHeartbeats 4000000 in
theorem wH (sp:Nat) (s:bP) (x:Value×Value) (w:World) (hw:Ok (aS sp s x) [] w) (hp:0<s.ps.length) (h0:0≤s.at_) (hle:s.at_≤s.ts.length):
  Calls G.P 61 #[.pointer (some ⟨sp,0,none⟩)] w (eF sp s x (.tuple #[]) (dq s) w):=by
 obtain⟨v1,v2⟩:=x;obtain⟨⟨p1,c1,e1,hcap,hg1⟩,⟨p2,c2,e2,hg2⟩,hn1,hn2⟩:=vR sp s (v1,v2) hw (List.Sublist.refl _);dsimp only at e1 e2;subst e1;subst e2;obtain⟨g2,rfl⟩:=hg2 hp
 have e0:(bO s.ps).set ((s.ps.length - 1)*2+1) (.bool true)=bO (s.ps.set (s.ps.length - 1) (s.at_,true)):=sH _ _ _
 have hsl:(s.ps.set (s.ps.length - 1) (s.at_,true)).length=s.ps.length:=List.length_set
 have a1:(bO (s.ps.set (s.ps.length - 1) (s.at_,true)))[(s.ps.length - 1)*2]?=some (.int .i64 s.at_):=by
  have:=(lq (l:=s.ps.set (s.ps.length - 1) (s.at_,true)) (i:=s.ps.length - 1) (by rw[hsl];omega)).1
  rw[this]
  congr 2
  rw[cD (by rw[hsl];omega)];simp
 refine ae (l:=[_]) Tryz.func61 rfl Tryz.ntmps61 rfl (Ok.dj hw) ?_
 unfold eF
 generalize hS:Mb (aS sp s (.slice p1 s.ts.length c1,.slice (some ⟨g2,0,none⟩) s.ps.length c2))=S0;unfold aS;dsimp only
 repeat'(first|refine ar ?_|refine KZ ?_|refine K1 ?_|fail)
 refine aa.jf (fQ.ES rfl rfl rfl rfl rfl rfl aA (by unfold bO;rw[jA mF (s:=2) (fun _=>rfl)];omega)) ?_
 rintro⟨⟩ _
 rw[e0]
 refine bQ ?_
 refine aZ.dB [0,1,2,3,4,5,6,7,8,9,10,11] 12 _ _ L9 (List.Sublist.refl _) (fun _ h=>h) ?_
 refine pO ?_
 refine bq.y_ (Yl.iD rfl rfl rfl rfl a1 bG) rfl ?_
 refine pO ?_
 refine bq.y_ (Yl.cO (i:=s.at_.toNat) rfl rfl rfl rfl rfl Mj Mj) rfl ?_
 refine pO ?_
 refine bq.iq (fQ.gg rfl rfl rfl rfl rfl aA nZ) rfl ?_
 rintro⟨⟩ _
 refine bQ ?_
 refine ah.mw s.at_.toNat aA Mj ?_
 exact ah.n8 rfl fun w' hw'=>aM.iI (x:=(_,_)) trivial hS hw' (jv rfl rfl rfl (by simp[dq];omega) (by simp[dq,aX,List.map_take]) (by simp[dq]) rfl rfl) ak
set_option maxHeartbeats 4000000 in
theorem nI (xs:List Int) (p:Option Addr) (c:Nat) (w:World) (hrd:xs.length=0∨∃bk o,p=some ⟨bk,o,none⟩∧∀j u,(aX xs)[j]?=some u→w.cell? ⟨bk,o+j,none⟩=some u) (hl:xs.length≤17592186044416):
  Calls G.P 50 #[.slice p xs.length c] w (aM [] w (fun u:Value=>u) (fun _=>True) (fun u=>[.own 0 fY 1 u xs.length (aX xs)])):=by
 refine ae (l:=[_]) Tryz.func50 rfl Tryz.ntmps50 rfl (Ok.start w) ?_
 repeat'(first|refine ar ?_|(refine a7 ?_ ?_<;>intro hc_))
 ·have hp:p=none:=by cases p with|none=>rfl|some a=>cases hc_
  subst hp
  have h0:xs.length=0:=by
   rcases hrd with h|⟨bk,o,e,-⟩
   ·exact h
   ·cases e
  have hx:xs=[]:=List.eq_nil_of_length_eq_zero h0
  subst hx
  exact ah.aB rfl rfl fun w' hw'=>aM.BI (x:=Value.slice none 0 0) trivial (hw'.ji 0 fY 1) (by exact List.Sublist.refl _) ak
 ·refine JM ?_
  intro b _
  refine aa.iS 1 aA rfl (Nat.zero_le _) ?_
  refine bQ ?_
  refine aa.he (HE.gA (aX xs) rfl rfl (fun _=>aA) (hrd.imp id fun⟨bk,o,e,h⟩=>⟨bk,o,e,fun w' hw' j u hj=>(show Ext w w' from hw'.at).cell (h j u hj)⟩) Me rfl rfl rfl Ml Ml Ml (eV _) (by show(0+xs.length)*8≤_;omega) Mj (fun _ _=>Nat.zero_le _)) rfl ?_
  intro u _
  simp only[Nat.zero_add,List.nil_append]
  refine bQ ?_
  exact ah.aB rfl rfl fun w' hw'=>aM.BI (x:=u) trivial hw' bc ak
theorem AA (sp:Nat) (s:bP) (x:Value×Value) (w:World) (hw:Ok (aS sp s x) [] w) (hp:0<s.ps.length) (hl:s.ts.length≤17592186044416):
  Calls G.P 28 #[.pointer (some ⟨sp,0,none⟩)] w (aM [] w (fun u:Value=>u) (fun _=>True) (fun u=>[.own 0 fY 1 u s.ts.length (aX s.ts)])):=by
 obtain⟨v1,v2⟩:=x;obtain⟨⟨p1,c1,e1,hcap,hg1⟩,⟨p2,c2,e2,hg2⟩,hn1,hn2⟩:=vR sp s (v1,v2) hw (List.Sublist.refl _);dsimp only at e1 e2;subst e1;subst e2;obtain⟨g2,rfl⟩:=hg2 hp
 have k0:w.cell? ⟨sp,0,none⟩=some (.slice p1 s.ts.length c1):=hw.c1 (T:=iN) (cs:=[.slice p1 s.ts.length c1,.slice (some ⟨g2,0,none⟩) s.ps.length c2,.bool (eN s)]) Up.head rfl
 have k1:w.cell? ⟨sp,1,none⟩=some (.slice (some ⟨g2,0,none⟩) s.ps.length c2):=hw.c1 (T:=iN) (cs:=[.slice p1 s.ts.length c1,.slice (some ⟨g2,0,none⟩) s.ps.length c2,.bool (eN s)]) Up.head rfl
 have o1:w.ownsRow 0 fY 1 (.slice p1 s.ts.length c1) s.ts.length (aX s.ts):=(hw.m (.own 0 fY 1 (.slice p1 s.ts.length c1) s.ts.length (aX s.ts)) (by simp[aS])).1
 have hrd:s.ts.length=0∨∃bk o,p1=some ⟨bk,o,none⟩∧∀j u,(aX s.ts)[j]?=some u→w.cell? ⟨bk,o+j,none⟩=some u:=by
  by_cases h0:s.ts.length=0
  ·exact .inl h0
  ·obtain⟨g,rfl⟩:=hg1 Mj
   exact .inr ⟨g,0,rfl,fun j u hj=>by rw[Nat.zero_add];exact dP o1 hj⟩
 refine ae (l:=[_]) Tryz.func28 rfl Tryz.ntmps28 rfl (Ok.start w) ?_
 repeat'(first|refine ar ?_|refine KV ?_|fail)
 refine aa.he (HE.sA (M0:=[]) rfl rfl (fun w' hw'=>nI s.ts p1 c1 w' (hrd.imp id fun⟨bk,o,e,h⟩=>⟨bk,o,e,fun j u hj=>(show Ext w w' from hw'.at).cell (h j u hj)⟩) hl)) rfl ?_
 intro u _
 refine bQ ?_
 exact ah.aB rfl rfl fun w' hw'=>aM.BI (x:=u) trivial hw' (List.Sublist.refl _) ak
theorem BG (sp:Nat) (s:bP) (x:Value×Value) (w:World) (hw:Ok (aS sp s x) [] w) (hp:0<s.ps.length):
  Calls G.P 34 #[.pointer (some ⟨sp,0,none⟩)] w fun e w'=>e=.returned (.int .i64 s.ts.length)∧Ext w w':=by
 obtain⟨v1,v2⟩:=x;obtain⟨⟨p1,c1,e1,hcap,hg1⟩,⟨p2,c2,e2,hg2⟩,hn1,hn2⟩:=vR sp s (v1,v2) hw (List.Sublist.refl _);dsimp only at e1 e2;subst e1;subst e2;obtain⟨g2,rfl⟩:=hg2 hp
 have k0:w.cell? ⟨sp,0,none⟩=some (.slice p1 s.ts.length c1):=hw.c1 (T:=iN) (cs:=[.slice p1 s.ts.length c1,.slice (some ⟨g2,0,none⟩) s.ps.length c2,.bool (eN s)]) Up.head rfl
 have k1:w.cell? ⟨sp,1,none⟩=some (.slice (some ⟨g2,0,none⟩) s.ps.length c2):=hw.c1 (T:=iN) (cs:=[.slice p1 s.ts.length c1,.slice (some ⟨g2,0,none⟩) s.ps.length c2,.bool (eN s)]) Up.head rfl
 refine ae (l:=[_]) Tryz.func34 rfl Tryz.ntmps34 rfl (Ok.start w) ?_
 repeat'(first|refine ar ?_|refine KV ?_|fail)
 all_goals exact dl
set_option maxHeartbeats 4000000 in
theorem Bz (w:World):Calls G.P 49 #[] w (aM [] w (fun y:Nat×Value×Value=>.pointer (some ⟨y.1,0,none⟩)) (fun _=>True) (fun y=>aS y.1 ⟨[],[(0,false)],0⟩ y.2)):=by
 refine ae (l:=[]) Tryz.func49 rfl Tryz.ntmps49 rfl (Ok.start w) ?_
 repeat'(first|refine ar ?_|(refine eH fun b_ _=>?_)|(refine aC fun b_=>?_)|fail)
 all_goals exact ah.aB rfl rfl fun w' hw'=>aM.BI (x:=(_,_,_)) trivial ((((hw'.iS (s:=2) (len:=1) (Up.tail Up.head) rfl LR).ji 0 fY 1)).front (Rm.tail Rm.head)) (by exact List.Sublist.refl _) ak
abbrev iz:Nat:=65
abbrev ym:Nat:=130
def a8.j8 {β:Type} (V:(Nat→Prop)→World→β→Prop) (hV:tp V) (D:Nat→Prop) (x:β):a8:=⟨D,fun w=>V D w x,fun h hc hd=>hV h hc hd⟩
def iu (D:Nat→Prop) (w:World) (L:List (aL×Value×Value)):Prop:=∀y∈L,dr y.1 D w y.2
theorem iu.fr:tp iu:=fun h hc hd y hy=>dr.fr y.1 (h y hy) hc hd
structure iY where
 sp:Nat
 tv:Value
 pv:Value
 bv:Value
 rv:Value
 fv:List (Value×Value)
 D:Nat→Prop
 L:List (aL×Value×Value)
def gN (f:mK) (x:Value×Value):List Value:=[.int .i64 f.kind,x.1,x.2,.bool f.other,.bool f.kf]
def dL:List mK→List (Value×Value)→List Value
 |f::r,x::s=>gN f x++dL r s
 |_,_=>[]
abbrev mK.fn (f:mK):aL:=⟨f.par,f.res⟩
structure iY.Good (v:iY) (c:di):Prop where
 len:v.fv.length=c.fs.length
 fr:∀i,i<c.fs.length→((ix c.fs i).fn,ix v.fv i)∈v.L
 rs:(⟨[],c.results⟩,.slice none 0 0,v.rv)∈v.L
def aQ (cp:Nat) (c:di) (v:iY):List a8:=.aT cp [.pointer (some ⟨v.sp,0,none⟩),v.bv,v.rv,.bool c.live,.int .i64 c.broken] iz::(aS v.sp c.ao (v.tv,v.pv)++[.own 0 ym 5 v.bv c.fs.length (dL c.fs v.fv),.j8 iu iu.fr v.D v.L])
structure vh (cp:Nat) (c:di) (v:iY) (w:World):Prop where
 b:gO w cp [.pointer (some ⟨v.sp,0,none⟩),v.bv,v.rv,.bool c.live,.int .i64 c.broken] iz
 o:w.ownsRow 0 ym 5 v.bv c.fs.length (dL c.fs v.fv)
 l:iu v.D w v.L
theorem Ok.zS {cp:Nat} {c:di} {v:iY} {M:List a8} {R:List (World→Prop)} {w:World} (h:Ok M R w) (hM:(aQ cp c v).Sublist M):vh cp c v w:=
 ⟨(h.m (.aT cp _ iz) (hM.subset (by simp[aQ]))).1,(h.m (.own 0 ym 5 v.bv c.fs.length (dL c.fs v.fv)) (hM.subset (by simp[aQ]))).1,(h.m (.j8 iu iu.fr v.D v.L) (hM.subset (by simp[aQ]))).1⟩
theorem kX:∀(fs:List mK) (fv:List (Value×Value)) (i j:Nat),fv.length=fs.length→i<fs.length→j<5→(dL fs fv)[i*5+j]?=(gN (ix fs i) (ix fv i))[j]?
 |[],_,i,j,_,h,_=>by simp at h
 |f::r,[],i,j,h,_,_=>by simp at h
 |f::r,x::s,0,j,_,_,hj=>by
  show(gN f x++dL r s)[0*5+j]?=_
  rw[Nat.zero_mul,Nat.zero_add,List.getElem?_append_left (by simp[gN];omega)]
  rfl
 |f::r,x::s,i+1,j,h,hi,hj=>by
  have ih:=kX r s i j LY (by simpa using hi) hj
  show(gN f x++dL r s)[(i+1)*5+j]?=_
  rw[List.getElem?_append_right (by simp[gN];omega),show(i+1)*5+j - (gN f x).length=i*5+j from by simp[gN];omega,ih]
  simp[ix]
theorem DU:∀(fs:List mK) (fv:List (Value×Value)) (f:mK) (x:Value×Value),fv.length=fs.length→dL (fs++[f]) (fv++[x])=dL fs fv++gN f x
 |[],[],f,x,_=>by simp[dL]
 |[],y::s,_,_,h=>by simp at h
 |g::r,[],_,_,h=>by simp at h
 |g::r,y::s,f,x,h=>by
  show gN g y++dL (r++[f]) (s++[x])=gN g y++dL r s++gN f x
  rw[DU r s f x LY,List.append_assoc]
theorem rF:∀(fs:List mK) (fv:List (Value×Value)) (k:Nat),fv.length=fs.length→(dL fs fv).take (k*5)=dL (fs.take k) (fv.take k)
 |[],[],k,_=>by simp[dL]
 |[],y::s,_,h=>by simp at h
 |g::r,[],_,h=>by simp at h
 |g::r,y::s,0,h=>by simp[dL]
 |g::r,y::s,k+1,h=>by
  have ih:=rF r s k LY
  show(gN g y++dL r s).take ((k+1)*5)=gN g y++dL (r.take k) (s.take k)
  rw[←ih,show(k+1)*5=(gN g y).length+k*5 from by simp[gN];omega,List.take_length_add_append]
theorem uH (cp:Nat) (a:Addr) (w:World) (h:w.cell? ⟨cp,0,none⟩=some (.pointer (some a))):Calls G.P 64 #[.pointer (some ⟨cp,0,none⟩)] w fun e w'=>e=.returned (.bool true)∧Ext w w':=by
 refine ae (l:=[_]) Tryz.func64 rfl Tryz.ntmps64 rfl (Ok.start w) ?_
 repeat'(first|refine ar ?_|(refine aa.aK ?_;refine aa.y_ (Yl.Cm Tryz.underlying56 rfl rfl) rfl ?_)|(refine aa.aK ?_;refine aa.yg LV (Yl.Cm Tryz.underlying62 rfl rfl) rfl ?_)|fail)
 all_goals exact dl
theorem gl (cp:Nat) (a:Addr) (e0:Int) (w:World) (h:w.cell? ⟨cp,0,none⟩=some (.pointer (some a))) (h4:w.cell? ⟨cp,4,none⟩=some (.int .i64 e0)):Calls G.P 54 #[.pointer (some ⟨cp,0,none⟩)] w fun e w'=>e=.returned (.int .i64 e0)∧Ext w w':=by
 refine ae (l:=[_]) Tryz.func54 rfl Tryz.ntmps54 rfl (Ok.start w) ?_
 repeat'(first|refine ar ?_|(refine aa.ai (f:=64) ?_;refine aa.aq rfl rfl rfl (fun w' hw'=>uH cp a w' ((show Ext w w' from hw'.at).cell h)) ?_)|fail)
 all_goals exact dl
theorem fi (cp:Nat) (a:Addr) (w:World) (h:w.cell? ⟨cp,0,none⟩=some (.pointer (some a))):Calls G.P 23 #[.pointer (some ⟨cp,0,none⟩)] w fun e w'=>e=.returned (.pointer (some a))∧Ext w w':=by
 refine ae (l:=[_]) Tryz.func23 rfl Tryz.ntmps23 rfl (Ok.start w) ?_
 repeat'(first|refine ar ?_|(refine aa.ai (f:=64) ?_;refine aa.aq rfl rfl rfl (fun w' hw'=>uH cp a w' ((show Ext w w' from hw'.at).cell h)) ?_)|fail)
 all_goals exact dl
theorem AG (cp:Nat) (c:di) (v:iY) (w:World) (h:vh cp c v w) (hb:c.broken=0):Calls G.P 29 #[.pointer (some ⟨cp,0,none⟩)] w fun e w'=>e=.returned (.bool c.live)∧Ext w w':=by
 have k0:=h.b.cell (j:=0) rfl
 have k3:=h.b.cell (j:=3) rfl
 have k4:=h.b.cell (j:=4) rfl
 refine ae (l:=[_]) Tryz.func29 rfl Tryz.ntmps29 rfl (Ok.start w) ?_
 repeat'(first|refine ar ?_|refine KU ?_|fail)
 all_goals first|omega|exact ah.aB rfl rfl fun w' hw'=>⟨by rfl,hw'.at⟩
theorem Gh (cp:Nat) (c:di) (v:iY) (w:World) (h:vh cp c v w) (hb:c.broken=0):Calls G.P 31 #[.pointer (some ⟨cp,0,none⟩)] w fun e w'=>e=.returned (.int .i64 c.fs.length)∧Ext w w':=by
 have k0:=h.b.cell (j:=0) rfl
 have k1:=h.b.cell (j:=1) rfl
 have k4:=h.b.cell (j:=4) rfl
 obtain⟨p,cc,e,-⟩:=ax h.o
 rw[e]at k1
 refine ae (l:=[_]) Tryz.func31 rfl Tryz.ntmps31 rfl (Ok.start w) ?_
 repeat'(first|refine ar ?_|refine KU ?_|fail)
 all_goals first|omega|exact ah.aB rfl rfl fun w' hw'=>⟨by rfl,hw'.at⟩
end Go.Proofs.YtgbgnipidakdhaaGreatDoor
