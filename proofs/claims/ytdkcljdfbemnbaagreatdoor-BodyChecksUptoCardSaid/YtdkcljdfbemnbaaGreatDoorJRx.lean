/- How many types remain on the stack when the given ones are popped. -/
import Derived.Test.YtdkcljdfbemnbaaGreatDoorJSw
import Derived.Test.YtdkcljdfbemnbaaGreatDoorJTz
import Derived.Test.YtdkcljdfbemnbaaGreatDoorJSk
import Derived.Laws.CopyOwn
namespace Go.Proofs.YtdkcljdfbemnbaaGreatDoor
open Go.RowKit _root_.Go.Proofs.Tryz
set_option maxHeartbeats 32000000
open List renaming Sublist→Pp,cons_append→Pj,getElem?_eq_getElem→Pq,getElem?_eq_some_iff→PL,getElem_take→Qf,length_append→Pt,length_take→Ps,map_take→P5,mem_cons→Pz,mem_cons_self→PN,nil_append→Pi,not_mem_nil→PY,pairwise_cons→PV
open Nat renaming le_refl→Pr,le_trans→Py,lt_or_ge→PA,mul_le_mul_right→P4,zero_add→Pm,zero_le→Po
set_option maxRecDepth 100000
abbrev C5:Nat:=105
abbrev Cp:Nat:=216
abbrev C4:Nat:=36
abbrev sX:Nat:=3
variable (cp:Nat) (c:dv) (a:Addr) {β:Type} (D:Nat→Prop) (sp:Nat) (s:ck) (l:List Int) (x:Value×Value) {n:Nat} {E:Env} {F:Nat→Prop} {w w':World} {M:List bu} {R:List (World→Prop)} {v:Value}
theorem xG {fn:Func} {w:World} {a T b T':Nat} {ti ti':TI} {v u:Value} {ad bd:Addr} (hr:fn.results=#[.cell a T,.cell b T']) (ha:lk E a=some (.pointer (some ad))) (hT:G.ty T=some ti) (hag:ti.agg=false) (hc:w.cell? ad=some v)
  (hb:lk E b=some (.pointer (some bd))) (hT':G.ty T'=some ti') (hag':ti'.agg=false) (hc':w.cell? bd=some u):∀ac,Ag n ac E→(results fn ac.tmps).run G.P w=.ok (.tuple #[v,u]) w:=fun ac hac=>by
 have h1:=(G.iR T ti hT).agg w
 rw[hag]at h1
 have h2:=(G.iR T' ti' hT').agg w
 rw[hag']at h2
 have g1:ac.tmps[a]?.getD undef=.pointer (some ad):=by have:=(hac.eq a _ ha).2;simpa using this
 have g2:ac.tmps[b]?.getD undef=.pointer (some bd):=by have:=(hac.eq b _ hb).2;simpa using this
 simp[results,hr,g1,g2,asAddr,loadVar,h1,hc,h2,hc']
theorem qA {W:World} {D:Nat} {o:Obj} {p:Addr} {v:Value} (h:W.cell? p=some v) (hne:p.block≠D):(W.putObj D o).cell? p=some v:=by
 rw[World.cell?_of_block (w:=W) (World.putObj_heap_other hne)];exact h
theorem Gw {l:List Int} {pre:List (Int×Int)} {x:Int×Int} (h:pre++[x]<+:bwd l):pre.length<l.length∧l.reverse.drop pre.length=x.2::l.reverse.drop (pre.length+1):=by
 obtain⟨r,hr⟩:=h
 have hl:pre.length<l.length:=by rw[←qx,←hr];simp
 refine⟨hl,?_⟩
 have h1:(bwd l)[pre.length]?=some x:=by rw[←hr];simp
 have h2:(bwd l)[pre.length]?=some (((l.length - 1 - pre.length:Nat):Int),ix l (l.length - 1 - pre.length)):=by
  rw[Pq (by rw[qx];exact hl)]
  congr 1
  simp[bwd,List.getElem_reverse]
 rw[h1]at h2
 cases h2
 rw[List.drop_eq_getElem_cons (by simpa using hl)]
 congr 1
 rw[List.getElem_reverse,cz Pc]
theorem vr (v:Value) (l:List Int) (w:World) (hw:Ok (aX sp s x) [fun w=>ai D w v l] w) (hp:0<s.ps.length) (_h0:0≤s.at_) (hle:s.at_≤s.ts.length):
  Calls G.P 130 #[.pointer (some ⟨sp,0,none⟩),v] w fun e w'=>e=.returned (.tuple #[.int .i64 ((eU s l.reverse s.ts.length).1:Nat),.int .i64 (eU s l.reverse s.ts.length).2])∧Ext w w':=by
 obtain⟨v1,v2⟩:=x
 obtain⟨⟨p1,c1,e1,hcap,hg1⟩,⟨p2,c2,e2,hg2⟩,hn1,hn2⟩:=yS sp s (v1,v2) hw (Pp.refl _)
 dsimp only at e1 e2
 subst e1;subst e2
 obtain⟨g2,rfl⟩:=hg2 hp
 have hI:ai D w v l:=hw.get (p:=fun w=>ai D w v l) Pd
 obtain⟨q,d,rfl,hl⟩:=hI.slice
 have k0:w.cell? ⟨sp,0,none⟩=some (.slice p1 s.ts.length c1):=hw.c1 (T:=jH) (cs:=[.slice p1 s.ts.length c1,.slice (some ⟨g2,0,none⟩) s.ps.length c2,.bool (dB s)]) Up.head rfl
 have k1:w.cell? ⟨sp,1,none⟩=some (.slice (some ⟨g2,0,none⟩) s.ps.length c2):=hw.c1 (T:=jH) (cs:=[.slice p1 s.ts.length c1,.slice (some ⟨g2,0,none⟩) s.ps.length c2,.bool (dB s)]) Up.head rfl
 have o1:w.ownsRow 0 fT 1 (.slice p1 s.ts.length c1) s.ts.length (aZ s.ts):=(hw.m (.own 0 fT 1 (.slice p1 s.ts.length c1) s.ts.length (aZ s.ts)) (by simp[aX])).1
 have o2:w.ownsRow 0 jG 2 (.slice (some ⟨g2,0,none⟩) s.ps.length c2) s.ps.length (cg s.ps):=(hw.m (.own 0 jG 2 (.slice (some ⟨g2,0,none⟩) s.ps.length c2) s.ps.length (cg s.ps)) (by simp[aX])).1
 have a1:w.cell? ⟨g2,(s.ps.length - 1)*2,none⟩=some (.int .i64 s.at_):=dO o2 (mM (l:=s.ps) (i:=s.ps.length - 1) Pc).1
 have a2:w.cell? ⟨g2,(s.ps.length - 1)*2+1,none⟩=some (.bool s.loose):=dO o2 (mM (l:=s.ps) (i:=s.ps.length - 1) Pc).2
 refine HV (l:=[.pointer (some ⟨sp,0,none⟩),.slice q l.length d]) func130 rfl ntmps130 rfl (Ok.start w) ?_
 refine Gh ?_
 refine bI.he (HE.box [.pointer (some ⟨sp,0,none⟩)] rfl rfl) rfl rfl ?_
 intro b2 _
 refine Gh ?_
 refine bI.he (HE.alloc [.int .i64 0] rfl rfl) rfl rfl ?_
 intro b4 _
 refine Gh ?_
 refine bI.he (HE.alloc [.int .i64 0] rfl rfl) rfl rfl ?_
 intro b5 _
 refine Gh ?_
 refine jq.Lf ?_
 refine bh.cF [.aV b5 [.int .i64 0] C4,.aV b4 [.int .i64 0] sX,.aV b2 [.pointer (some ⟨sp,0,none⟩)] C5] [Ext w] bw aU ?_
 refine aN.zM (α:=Nat×Nat) (fun y=>[(1,.slice q l.length d),(2,.pointer (some ⟨b2,0,none⟩)),(4,.pointer (some ⟨b4,0,none⟩)),(5,.pointer (some ⟨b5,0,none⟩)),(6,.pointer (some ⟨y.1,0,none⟩)),(7,.pointer (some ⟨y.2,0,none⟩))]) (fun y=>[.aV y.1 [.int .i64 s.ts.length] sX,.aV y.2 [.pointer (some ⟨g2,(s.ps.length - 1)*2,none⟩)] Cp,.aV b5 [.int .i64 0] C4,.aV b4 [.int .i64 0] sX,.aV b2 [.pointer (some ⟨sp,0,none⟩)] C5]) (fun _=>[Ext w]) ?_ fun hrest=>?_
 ·rintro⟨b6,b7⟩
  dsimp only
  refine ah.Jn ?_
  refine Gh ?_
  refine bI.he (HE.call (β:=Nat) (tf:=fun b=>.func (.func 183) #[] #[.pointer (some ⟨b,0,none⟩)]) (φ:=fun _=>True) (Mf:=fun b=>.aV b [.slice q l.length d] 49::[.aV b6 [.int .i64 s.ts.length] sX,.aV b7 [.pointer (some ⟨g2,(s.ps.length - 1)*2,none⟩)] Cp,.aV b5 [.int .i64 0] C4,.aV b4 [.int .i64 0] sX,.aV b2 [.pointer (some ⟨sp,0,none⟩)] C5]) (Rf:=fun _=>[Ext w]) rfl rfl (fun w' hw'=>(sR q l.length d w').mono fun e w'' ⟨e1,hn⟩=>⟨w'.heap.size,e1,trivial,hw'.push hn.ext hn.aV (tp hn)⟩)) rfl rfl ?_
  intro b9 _
  refine Gh ?_
  refine⟨fun w1 hw1=>?_⟩
  have hx1:Ext w w1:=hw1.at
  have f9:b9<w1.heap.size:=(hw1.m (.aV b9 _ _) bO).2 b9 rfl
  have f6:b6<w1.heap.size:=(hw1.m (.aV b6 _ _) bO).2 b6 rfl
  have f7:b7<w1.heap.size:=(hw1.m (.aV b7 _ _) bO).2 b7 rfl
  have f5:b5<w1.heap.size:=(hw1.m (.aV b5 _ _) bO).2 b5 rfl
  have f4:b4<w1.heap.size:=(hw1.m (.aV b4 _ _) bO).2 b4 rfl
  have f2:b2<w1.heap.size:=(hw1.m (.aV b2 _ _) bO).2 b2 rfl
  have hRB:RB b9 q d l w1:=⟨hw1.c1 (cs:=[.slice q l.length d]) aH rfl,fun i hi=>by
   obtain⟨b,o,e,-,hc⟩:=hI.at hi
   exact⟨b,o,e,hx1.cell (hc i hi)⟩⟩
  have lowG:∀(x6 x5 x4:Int) (r:Nat),Mb [.aV b6 [.int .i64 x6] sX,.aV b7 [.pointer (some ⟨g2,(s.ps.length - 1)*2,none⟩)] Cp,.aV b5 [.int .i64 x5] C4,.aV b4 [.int .i64 x4] sX,.aV b2 [.pointer (some ⟨sp,0,none⟩)] C5] r→r<w1.heap.size:=fun x6 x5 x4 r ⟨q',hq,hk⟩=>by
   simp only[Pz,PY,or_false]at hq
   rcases hq with rfl|rfl|rfl|rfl|rfl<;>(have hk':r=_:=hk;omega)
  have lowM:∀(nn:Nat) (r:Nat),Mb [.aV b6 [.int .i64 ((nn:Nat):Int)] sX,.aV b7 [.pointer (some ⟨g2,(s.ps.length - 1)*2,none⟩)] Cp,.aV b5 [.int .i64 0] C4,.aV b4 [.int .i64 0] sX,.aV b2 [.pointer (some ⟨sp,0,none⟩)] C5] r→r<w1.heap.size:=fun nn r ⟨q',hq,hk⟩=>by
   simp only[Pz,PY,or_false]at hq
   rcases hq with rfl|rfl|rfl|rfl|rfl<;>(have hk':r=_:=hk;omega)
  have lowX:∀(ee:Int) (r:Nat),Mb [.aV b7 [.pointer (some ⟨g2,(s.ps.length - 1)*2,none⟩)] Cp,.aV b5 [.int .i64 ee] C4,.aV b4 [.int .i64 0] sX,.aV b2 [.pointer (some ⟨sp,0,none⟩)] C5] r→r<w1.heap.size:=fun ee r ⟨q',hq,hk⟩=>by
   simp only[Pz,PY,or_false]at hq
   rcases hq with rfl|rfl|rfl|rfl<;>(have hk':r=_:=hk;omega)
  have hqb:∀a,0<l.length→q=some a→a.block<w.heap.size:=fun a h e=>by
   obtain⟨b,o,e',-,hc⟩:=hI.at (i:=0) h
   rw[e]at e';cases e'
   exact fw (hc 0 h)
  have hne:b9≠b6∧b9≠b7∧b9≠b5∧b9≠b4∧b9≠b2:=by
   have hd:=(PV.1 hw1.d).1
   exact⟨hd (.aV b6 _ _) bO b9 rfl,hd (.aV b7 _ _) bO b9 rfl,hd (.aV b5 _ _) bO b9 rfl,hd (.aV b4 _ _) bO b9 rfl,hd (.aV b2 _ _) bO b9 rfl⟩
  have keepM:∀(nn:Nat) (W:World),Ok [.aV b6 [.int .i64 ((nn:Nat):Int)] sX,.aV b7 [.pointer (some ⟨g2,(s.ps.length - 1)*2,none⟩)] Cp,.aV b5 [.int .i64 0] C4,.aV b4 [.int .i64 0] sX,.aV b2 [.pointer (some ⟨sp,0,none⟩)] C5] [Ext w] W→∀k,KB b9 q l.length k→¬Mb [.aV b6 [.int .i64 ((nn:Nat):Int)] sX,.aV b7 [.pointer (some ⟨g2,(s.ps.length - 1)*2,none⟩)] Cp,.aV b5 [.int .i64 0] C4,.aV b4 [.int .i64 0] sX,.aV b2 [.pointer (some ⟨sp,0,none⟩)] C5] k:=fun nn W hok k hk hm=>by
   rcases hk with rfl|⟨h,a,e,rfl⟩
   ·obtain⟨q',hq,hk⟩:=hm
    simp only[Pz,PY,or_false]at hq
    obtain⟨n1,n2,n3,n4,n5⟩:=hne
    rcases hq with rfl|rfl|rfl|rfl|rfl
    ·exact n1 hk
    ·exact n2 hk
    ·exact n3 hk
    ·exact n4 hk
    ·exact n5 hk
   ·exact hok.origin (S:=fun _=>False) Pd _ hm (hqb a h e)
  refine kx.Ii (encs:=HT) (Kp:=KD (KB b9 q l.length)) (full:=bwd l) rfl rfl (Gx b9 q d l w1 hRB Pc) (fun h k=>h.trans k) (fun W l' r r' hW hl' _=>KD.put ?_) (fun _=>rfl) rfl
   (fun pre W=>∃nn:Nat,Ok [.aV b6 [.int .i64 ((nn:Nat):Int)] sX,.aV b7 [.pointer (some ⟨g2,(s.ps.length - 1)*2,none⟩)] Cp,.aV b5 [.int .i64 0] C4,.aV b4 [.int .i64 0] sX,.aV b2 [.pointer (some ⟨sp,0,none⟩)] C5] [Ext w] W∧s.at_≤nn∧nn≤s.ts.length∧eU s (l.reverse.drop pre.length) nn=eU s l.reverse s.ts.length)
   (fun c pre W=>c=.ret∧∃ee:Int,Ok [.aV b7 [.pointer (some ⟨g2,(s.ps.length - 1)*2,none⟩)] Cp,.aV b5 [.int .i64 ee] C4,.aV b4 [.int .i64 0] sX,.aV b2 [.pointer (some ⟨sp,0,none⟩)] C5] [Ext w] W∧eU s l.reverse s.ts.length=(0,ee)) ?_ ?_ ⟨s.ts.length,hw1.sub bw (fun _ h=>h),hle,Pr _,rfl⟩
   (fun x=>[(9,.int .i64 x.2),(1,.slice q l.length d),(2,.pointer (some ⟨b2,0,none⟩)),(4,.pointer (some ⟨b4,0,none⟩)),(5,.pointer (some ⟨b5,0,none⟩)),(6,.pointer (some ⟨b6,0,none⟩)),(7,.pointer (some ⟨b7,0,none⟩))]) ?_ ?_ ?_ ?_
  ·intro hk
   have hlt:l'<w1.heap.size:=by
    rcases hk with rfl|⟨h,a,e,rfl⟩
    ·exact f9
    ·exact Nat.lt_of_lt_of_le (hqb a h e) hx1.size
   omega
  ·rintro pre A A' row ⟨nn,h,h1,h2,h3⟩ hg hr
   exact⟨nn,h.grow hx1.size hg hr fun r o h1 h2 h3 h4=>absurd (lowM nn r h4) Pc,h1,h2,h3⟩
  ·rintro c pre A A' row ⟨e,ee,h,h3⟩ hg hr
   exact⟨e,ee,h.grow hx1.size hg hr fun r o h1 h2 h3 h4=>absurd (lowX ee r h4) Pc,h3⟩
  ·intro l' x W2 K hK
   refine AT ?_
   exact fh.HF (fun a ha=>hK a (ha.sub bH))
  ·rintro l' pre x W2 ⟨nn,hok,h1,h2,h3⟩ hN
   obtain⟨hpl,hdr⟩:=Gw hN
   rw[hdr,eU]at h3
   obtain⟨S0,hS0⟩:∃S0,S0=Mb [.aV b6 [.int .i64 ((nn:Nat):Int)] sX,.aV b7 [.pointer (some ⟨g2,(s.ps.length - 1)*2,none⟩)] Cp,.aV b5 [.int .i64 0] C4,.aV b4 [.int .i64 0] sX,.aV b2 [.pointer (some ⟨sp,0,none⟩)] C5]:=⟨_,rfl⟩
   have hok':=hok.dk
   rw[←hS0]at hok'
   have fin:∀{W':World},bX S0 W2 W'→zd #[20,21] w1.heap.size W2 W'∧KD (KB b9 q l.length) W2 W':=fun{W'} hc=>by
    have hk0:=keepM nn W2 hok
    rw[←hS0]at hk0
    refine⟨⟨hc.size,fun k o hk ho _=>?_⟩,hc.size,fun k hlt hk=>hc.block k hlt (hk0 k hk)⟩
    rw[hc.block k (Array.getElem?_eq_some_iff.1 ho).1 (fun hs=>by rw[hS0]at hs;have:=lowM nn k hs;omega)];exact ho
   refine jq.at hok' ?_
   by_cases he:(nn:Int)=s.at_
   ·rw[if_pos he]at h3
    obtain⟨lo,hlo⟩:∃b,s.loose=b:=⟨_,rfl⟩
    rw[hlo]at a2 h3
    cases lo with
    |true=>
     rw[if_pos rfl]at h3
     refine Gg ?_
     refine⟨fun W' hw'=>⟨fun a ha=>?_⟩⟩
     obtain⟨k1,k2⟩:=fin hw'.at
     exact⟨k1,k2,nn,hw'.sub bw aU,h1,h2,by rw[←h3];simp⟩
    |false=>
     rw[if_neg Pd]at h3
     refine Gg ?_
     refine bI.jQ (gj.bn [.int .i64 0] rfl rfl rfl rfl rfl rfl aH rfl) rfl ?_
     rintro⟨⟩ _
     refine Gg ?_
     refine bI.jQ (gj.bn [.int .i64 13] rfl rfl rfl rfl rfl rfl aH rfl) rfl ?_
     rintro⟨⟩ _
     refine Gg ?_
     refine⟨fun W' hw'=>⟨fun a ha=>?_⟩⟩
     obtain⟨k1,k2⟩:=fin hw'.at
     exact⟨k1,k2,rfl,13,hw'.sub bw aU,h3.symm⟩
   ·rw[if_neg he]at h3
    obtain⟨g1,rfl⟩:=hg1 Pc
    have b1:=dO o1 (oR (l:=s.ts) (i:=nn - 1) Pc)
    have e1:(nn:Int) - 1=((nn - 1:Nat):Int):=by omega
    by_cases hM:ix s.ts (nn - 1)≠x.2∧ix s.ts (nn - 1)≠0∧x.2≠0
    ·rw[if_pos hM]at h3
     obtain⟨m1,m2,m3⟩:=hM
     refine Gg ?_
     refine bI.jQ (gj.bn [.int .i64 ((nn:Int) - 1)] rfl rfl rfl rfl rfl rfl aH rfl) rfl ?_
     rintro⟨⟩ _
     rw[e1]
     refine Gg ?_
     refine bI.jQ (gj.bn [.int .i64 0] rfl rfl rfl rfl rfl rfl aH rfl) rfl ?_
     rintro⟨⟩ _
     refine Gg ?_
     refine bI.jQ (gj.bn [.int .i64 12] rfl rfl rfl rfl rfl rfl aH rfl) rfl ?_
     rintro⟨⟩ _
     refine Gg ?_
     refine⟨fun W' hw'=>⟨fun a ha=>?_⟩⟩
     obtain⟨k1,k2⟩:=fin hw'.at
     exact⟨k1,k2,rfl,12,hw'.sub bw aU,h3.symm⟩
    ·rw[if_neg hM]at h3
     rcases(show(ix s.ts (nn - 1)=x.2)∨(ix s.ts (nn - 1)≠x.2∧ix s.ts (nn - 1)=0)∨(ix s.ts (nn - 1)≠x.2∧ix s.ts (nn - 1)≠0∧x.2=0)from by omega)with m1|⟨m1,m2⟩|⟨m1,m2,m3⟩
     all_goals
      refine Gg ?_
      refine bI.jQ (gj.bn [.int .i64 ((nn:Int) - 1)] rfl rfl rfl rfl rfl rfl aH rfl) rfl ?_
      rintro⟨⟩ _
      rw[e1]
      refine Gg ?_
      refine⟨fun W' hw'=>⟨fun a ha=>?_⟩⟩
      obtain⟨k1,k2⟩:=fin hw'.at
      exact⟨k1,k2,nn - 1,hw'.sub bw aU,by omega,by omega,by rw[←h3];simp⟩
  ·rintro Dn W2 hD ⟨nn,hok,h1,h2,h3⟩ hK
   rw[qx,show l.length=l.reverse.length from by simp,List.drop_length,eU]at h3
   rw[←h3]
   have hok2:Ok [.aV b6 [.int .i64 ((nn:Nat):Int)] sX,.aV b7 [.pointer (some ⟨g2,(s.ps.length - 1)*2,none⟩)] Cp,.aV b5 [.int .i64 0] C4,.aV b4 [.int .i64 0] sX,.aV b2 [.pointer (some ⟨sp,0,none⟩)] C5] [fun W=>W.heap[Dn]?=some (.deferred (some [])),Ext w] W2:=hok.add fun w' hc=>by
    rw[hc.block Dn (Array.getElem?_eq_some_iff.1 hK).1 (fun hs=>by have:=lowM nn Dn hs;omega)];exact hK
   refine gB.at hok2 ?_
   refine Gh ?_
   refine bI.jQ (gj.bn [.int .i64 nn] rfl rfl rfl rfl rfl rfl aH rfl) rfl ?_
   rintro⟨⟩ _
   refine Gh ?_
   refine bI.jQ (gj.bn [.int .i64 0] rfl rfl rfl rfl rfl rfl aH rfl) rfl ?_
   rintro⟨⟩ _
   refine Gh ?_
   refine⟨fun W' hw'=>?_⟩
   have hK':W'.heap[Dn]?=some (.deferred (some [])):=hw'.at
   have hx':Ext w (W'.putObj Dn (.deferred none)):=(hw'.sub (Pp.refl _) (R':=[Ext w]) aU |>.grow (row:=some Dn) (B:=w1.heap.size) hx1.size (grownBy_putObj' W' Dn (.deferred none)) (fun r e=>by cases e;exact⟨hD,_,hK',rfl⟩) (fun r o h1 h2 h3 h4=>absurd (lowG _ _ _ r h4) Pc)).at
   have q4:W'.cell? ⟨b4,0,none⟩=some (.int .i64 nn):=hw'.c1 aH rfl
   have q5:W'.cell? ⟨b5,0,none⟩=some (.int .i64 0):=hw'.c1 aH rfl
   refine fh.G7 (.inl rfl) hK' (xG rfl rfl rfl rfl (qA q4 (show b4≠Dn by omega)) rfl rfl rfl (qA q5 (show b5≠Dn by omega))) ⟨rfl,hx'⟩
  ·rintro Dn c pre W2 hD hpre ⟨rfl,ee,hok,h3⟩ hK
   rw[h3]
   have hok2:Ok [.aV b7 [.pointer (some ⟨g2,(s.ps.length - 1)*2,none⟩)] Cp,.aV b5 [.int .i64 ee] C4,.aV b4 [.int .i64 0] sX,.aV b2 [.pointer (some ⟨sp,0,none⟩)] C5] [fun W=>W.heap[Dn]?=some (.deferred (some [])),Ext w] W2:=hok.add fun w' hc=>by
    rw[hc.block Dn (Array.getElem?_eq_some_iff.1 hK).1 (fun hs=>by have:=lowX ee Dn hs;omega)];exact hK
   refine jq.at hok2 ?_
   refine Gh ?_
   refine⟨fun W' hw'=>?_⟩
   have hK':W'.heap[Dn]?=some (.deferred (some [])):=hw'.at
   have hx':Ext w (W'.putObj Dn (.deferred none)):=(hw'.sub (Pp.refl _) (R':=[Ext w]) aU |>.grow (row:=some Dn) (B:=w1.heap.size) hx1.size (grownBy_putObj' W' Dn (.deferred none)) (fun r e=>by cases e;exact⟨hD,_,hK',rfl⟩) (fun r o h1 h2 h3 h4=>absurd (lowX ee r h4) Pc)).at
   have q4:W'.cell? ⟨b4,0,none⟩=some (.int .i64 0):=hw'.c1 aH rfl
   have q5:W'.cell? ⟨b5,0,none⟩=some (.int .i64 ee):=hw'.c1 aH rfl
   refine fh.G7 (.inl rfl) hK' (xG rfl rfl rfl rfl (qA q4 (show b4≠Dn by omega)) rfl rfl rfl (qA q5 (show b5≠Dn by omega))) ⟨rfl,hx'⟩
 ·repeat'(first|refine pG ?_|(refine ax.yb sX ?_;refine ax.he rfl rfl (HE.alloc (t:=sX) [.int .i64 0] rfl rfl) (fun _=>bw) (fun _=>aU) ?_;intro b_ _)|(refine ax.yb Cp ?_;refine ax.he rfl rfl (HE.alloc (t:=Cp) [.pointer none] rfl rfl) (fun _=>bw) (fun _=>aU) ?_;intro b_ _)|(refine ax.dz 131 ?_;refine ax.he rfl rfl (HE.eK rfl rfl (fun w' hw'=>mU sp s.ps.length c2 g2 w' ((show Ext w w' from hw'.at).cell k1) hp hn2)) (fun _=>bw) (fun _=>aU) ?_;rintro⟨⟩ _)|(refine ax.nf ?_;refine ax.jQ rfl (gj.bn _ rfl rfl rfl rfl rfl rfl aH rfl) (fun _=>bw) (fun _=>aU) ?_;rintro⟨⟩ _)|refine aN.nil O3 ?_|refine aN.any O3 ?_|exact aB.fin rfl|refine aB.skip O3 ?_|refine aB.go ?_ ?_)
  all_goals exact ah.dc (hrest (_,_)) bH dU aU
theorem gy (v:Value) (l:List Int) (w:World) (hw:Ok (aX sp s x) [fun w=>ai D w v l] w) (hp:0<s.ps.length) (h0:0≤s.at_) (hle:s.at_≤s.ts.length):
  Calls G.P 82 #[.pointer (some ⟨sp,0,none⟩),v] w (fe sp s x (.int .i64 (aK s l).2) (aK s l).1 w):=by
 obtain⟨v1,v2⟩:=x;obtain⟨⟨p1,c1,e1,hcap,hg1⟩,⟨p2,c2,e2,hg2⟩,hn1,hn2⟩:=yS sp s (v1,v2) hw (Pp.refl _);dsimp only at e1 e2;subst e1;subst e2;obtain⟨g2,rfl⟩:=hg2 hp
 have hI:ai D w v l:=hw.get (p:=fun w=>ai D w v l) Pd
 obtain⟨q,d,rfl,hl⟩:=hI.slice
 refine ae (l:=[_,_]) func82 rfl ntmps82 rfl (Ok.dk hw) ?_
 unfold fe
 obtain⟨r,hr⟩:∃r,eU s l.reverse s.ts.length=r:=⟨_,rfl⟩
 obtain⟨n,e⟩:=r
 have hlf:∀w',Ok (aX sp s (.slice p1 s.ts.length c1,.slice (some ⟨g2,0,none⟩) s.ps.length c2)) [fun w=>ai D w (.slice q l.length d) l] w'→Calls G.P 130 #[.pointer (some ⟨sp,0,none⟩),.slice q l.length d] w' fun ee w''=>ee=.returned (.tuple #[.int .i64 (n:Nat),.int .i64 e])∧Ext w' w'':=fun w' hw'=>by
  have:=vr D sp s _ _ l w' hw' hp h0 hle
  rw[hr]at this;exact this
 have hwk:aK s l=if e=0 then({s with ts:=s.ts.take n},0)else(s,e):=by unfold aK;rw[hr]
 have hnl:e=0→n≤s.ts.length:=fun h=>by
  have:=jM l.reverse s.ts.length hle (by rw[hr];exact h)
  rw[hr]at this;exact this.2
 rw[hwk]
 generalize hS:Mb (aX sp s (.slice p1 s.ts.length c1,.slice (some ⟨g2,0,none⟩) s.ps.length c2))=S0;unfold aX;dsimp only
 repeat'(first|refine ar ?_|refine N3 ?_|(refine aa.aj (f:=130) ?_;refine aa.au rfl rfl rfl (fun w' hw'=>hlf w' (hw'.sub (Pp.refl _) aU)) ?_)|(refine aa.y_ (Yl.cZ (i:=n) rfl rfl rfl rfl rfl rfl (Py (hnl hc_) hcap)) rfl ?_)|(refine bC ?_ ?_<;>intro hc_))
 ·subst hc_
  rw[if_pos rfl]
  dsimp only
  refine ah.nh n aH (hnl rfl) ?_
  exact ah.aF rfl rfl fun w' hw'=>by
   have hn:=hnl rfl
   refine aC.jm (x:=(_,_)) trivial hS hw' (km rfl rfl rfl O8 (by simp[aZ,P5]) rfl rfl rfl) ak
 ·rw[if_neg hc_]
  dsimp only
  exact EQ
theorem sa:∀(l:List (Int×Bool)) (k:Nat),(cg l).take (k*2)=cg (l.take k)
 |[],k=>by simp[cg]
 |a::r,0=>by simp[cg]
 |a::r,k+1=>by
  have ih:=sa r k
  have e:(k+1)*2=k*2+2:=by omega
  show((nI a)++cg r).take ((k+1)*2)=nI a++cg (r.take k)
  rw[←ih,e]
  simp[nI]
theorem tX:∀(l:List (Int×Bool)) (k:Nat) (b:Bool),(cg l).set (k*2+1) (.bool b)=cg (l.set k ((ix l k).1,b))
 |[],k,b=>by simp[cg]
 |a::r,0,b=>by
  show((nI a)++cg r).set 1 (.bool b)=nI (a.1,b)++cg r
  rfl
 |a::r,k+1,b=>by
  have ih:=tX r k b
  have e:(k+1)*2+1=k*2+1+1+1:=by omega
  show((nI a)++cg r).set ((k+1)*2+1) (.bool b)=nI a++cg (r.set k ((ix (a::r) (k+1)).1,b))
  rw[show ix (a::r) (k+1)=ix r k from by simp[ix],←ih,e]
  rfl
theorem Bz (l:List (Int×Bool)) (a:Int×Bool):cg (l++[a])=cg l++nI a:=by unfold cg;rw[List.flatMap_append];simp
theorem vp (w:World) (hw:Ok (aX sp s x) [] w) (hp:0<s.ps.length) (_hpl:s.ps.length≤1000000):
  Calls G.P 47 #[.pointer (some ⟨sp,0,none⟩)] w (fe sp s x (.tuple #[]) (aW s) w):=by
 obtain⟨v1,v2⟩:=x;obtain⟨⟨p1,c1,e1,hcap,hg1⟩,⟨p2,c2,e2,hg2⟩,hn1,hn2⟩:=yS sp s (v1,v2) hw (Pp.refl _);dsimp only at e1 e2;subst e1;subst e2;obtain⟨g2,rfl⟩:=hg2 hp
 refine ae (l:=[_]) func47 rfl ntmps47 rfl (Ok.dk hw) ?_
 unfold fe
 generalize hS:Mb (aX sp s (.slice p1 s.ts.length c1,.slice (some ⟨g2,0,none⟩) s.ps.length c2))=S0;unfold aX;dsimp only
 repeat'(first|refine ar ?_|refine N3 ?_|fail)
 refine bh.dP [0,1,2,3,4,5,6,7,8,9,10,11,12,13,14] 15 [.aV sp [.slice p1 s.ts.length c1,.slice (some ⟨g2,0,none⟩) s.ps.length c2,.bool (dB s)] jH,.own 0 fT 1 (.slice p1 s.ts.length c1) s.ts.length (aZ s.ts)] [] O5 bw aU ?_
 refine mX ?_
 refine Ni ?_
 intro b3 _
 refine Nj ?_
 intro v2 _
 refine bF.pure (φ:=∃p c,v2=.slice p (s.ps.length+1) c) (fun w' hw'=>?_) ?_
 ·obtain⟨p,c,e,_⟩:=aw (hw'.own (v:=v2));exact⟨p,c,e⟩
 rintro⟨p3,c3,rfl⟩
 refine mX ?_
 refine bF.iM (gj.gz rfl rfl rfl rfl rfl aH oZ) rfl ?_
 rintro⟨⟩ _
 refine cq ?_
 exact ah.nY rfl fun w' hw'=>aC.jm (x:=(_,_)) trivial hS (hw'.dc (M':=[.aV sp [.slice p1 s.ts.length c1,.slice p3 (s.ps.length+1) c3,.bool (dB s)] jH,.own 0 fT 1 (.slice p1 s.ts.length c1) s.ts.length (aZ s.ts),.own 0 jG 2 (.slice p3 (s.ps.length+1) c3) (s.ps.length+1) _]) dU (fun _ h=>h)) (km rfl rfl rfl rfl rfl (by simp[aW]) (by simp[aW,Bz];rfl) rfl) ak
theorem vq (v:Value) (l:List Int) (w:World) (hw:Ok (aX sp s x) [fun w=>ai D w v l] w) (_h2p:2≤s.ps.length) (h0:0≤s.at_) (hle:s.at_≤s.ts.length):
  Calls G.P 85 #[.pointer (some ⟨sp,0,none⟩),v] w (fe sp s x (.int .i64 (cP s l).2) (cP s l).1 w):=by
 have hp:0<s.ps.length:=by omega
 obtain⟨v1,v2⟩:=x;obtain⟨⟨p1,c1,e1,hcap,hg1⟩,⟨p2,c2,e2,hg2⟩,hn1,hn2⟩:=yS sp s (v1,v2) hw (Pp.refl _);dsimp only at e1 e2;subst e1;subst e2;obtain⟨g2,rfl⟩:=hg2 hp
 have hcap2:s.ps.length≤c2:=by
  obtain⟨p',c',e,h,-⟩:=aw (show w.ownsRow 0 jG 2 (.slice (some ⟨g2,0,none⟩) s.ps.length c2) s.ps.length (cg s.ps)from(hw.m (.own 0 jG 2 (.slice (some ⟨g2,0,none⟩) s.ps.length c2) s.ps.length (cg s.ps)) (by simp[aX])).1)
  cases e;exact h
 have hI:ai D w v l:=hw.get (p:=fun w=>ai D w v l) Pd
 obtain⟨q,d,rfl,hl⟩:=hI.slice
 have a1:(cg s.ps)[(s.ps.length - 1)*2]?=some (.int .i64 s.at_):=(mM (l:=s.ps) (i:=s.ps.length - 1) Pc).1
 refine ae (l:=[_,_]) func85 rfl ntmps85 rfl (Ok.dk hw) ?_
 unfold fe
 obtain⟨r,hr⟩:∃r,eU s l.reverse s.ts.length=r:=⟨_,rfl⟩
 obtain⟨n,e⟩:=r
 have hlf:∀w',Ok (aX sp s (.slice p1 s.ts.length c1,.slice (some ⟨g2,0,none⟩) s.ps.length c2)) [fun w=>ai D w (.slice q l.length d) l] w'→Calls G.P 130 #[.pointer (some ⟨sp,0,none⟩),.slice q l.length d] w' fun ee w''=>ee=.returned (.tuple #[.int .i64 (n:Nat),.int .i64 e])∧Ext w' w'':=fun w' hw'=>by
  have:=vr D sp s _ _ l w' hw' hp h0 hle
  rw[hr]at this;exact this
 have hwk:cP s l=if e≠0 then(s,e)else if s.at_<n then(s,14)else({s with ts:=s.ts.take n,ps:=s.ps.take (s.ps.length - 1)},0):=by
  unfold cP;rw[hr];dsimp only;rw[if_neg (show¬s.ps.length=1 by omega)]
 have hnl:e=0→n≤s.ts.length:=fun h=>by
  have:=jM l.reverse s.ts.length hle (by rw[hr];exact h)
  rw[hr]at this;exact this.2
 rw[hwk]
 generalize hS:Mb (aX sp s (.slice p1 s.ts.length c1,.slice (some ⟨g2,0,none⟩) s.ps.length c2))=S0;unfold aX;dsimp only
 repeat'(first|refine ar ?_|refine N3 ?_|refine N5 ?_|(refine aa.aj (f:=130) ?_;refine aa.au rfl rfl rfl (fun w' hw'=>hlf w' (hw'.sub (Pp.refl _) aU)) ?_)|(refine aa.dn ?_;refine aa.y_ (Yl.jw rfl rfl rfl rfl a1 bO) rfl ?_)|(refine aa.y_ (Yl.cZ (i:=n) rfl rfl rfl rfl rfl rfl (Py (hnl Pc) hcap)) rfl ?_)|(refine bC ?_ ?_<;>intro hc_))
 ·rw[if_pos hc_]
  dsimp only
  exact EQ
 ·rw[if_neg O7,if_pos O7]
  dsimp only
  exact EQ
 ·have hn:=hnl Pc
  rw[if_neg O7,if_neg O7]
  dsimp only
  refine bh.dP [0,1,2,3,4,5,6,7,8,9,10,11,12,13] 14 _ _ O5 (Pp.refl _) (fun _ h=>h) ?_
  refine mX ?_
  refine bF.y_ (Yl.cZ (i:=s.ps.length - 1) rfl rfl rfl rfl rfl Pc Pc) rfl ?_
  refine mX ?_
  refine bF.iM (gj.gz rfl rfl rfl rfl rfl aH oZ) rfl ?_
  rintro⟨⟩ _
  refine cq ?_
  refine ah.nh n aH hn ?_
  refine ah.nh (s.ps.length - 1) (aH (q:=.own 0 jG 2 _ _ _)) Pc ?_
  exact ah.aF rfl rfl fun w' hw'=>aC.jm (x:=(_,_)) trivial hS hw' (km rfl rfl rfl O8 (by simp[aZ,P5]) Pd (sa _ _) rfl) ak
theorem AM (w:World) (hw:Ok (aX sp s x) [] w) (hp:0<s.ps.length) (_h0:0≤s.at_) (_hle:s.at_≤s.ts.length):
  Calls G.P 89 #[.pointer (some ⟨sp,0,none⟩)] w (fe sp s x (.tuple #[]) (dG s) w):=by
 obtain⟨v1,v2⟩:=x;obtain⟨⟨p1,c1,e1,hcap,hg1⟩,⟨p2,c2,e2,hg2⟩,hn1,hn2⟩:=yS sp s (v1,v2) hw (Pp.refl _);dsimp only at e1 e2;subst e1;subst e2;obtain⟨g2,rfl⟩:=hg2 hp
 have e0:(cg s.ps).set ((s.ps.length - 1)*2+1) (.bool true)=cg (s.ps.set (s.ps.length - 1) (s.at_,true)):=tX _ _ _
 have hsl:(s.ps.set (s.ps.length - 1) (s.at_,true)).length=s.ps.length:=List.length_set
 have a1:(cg (s.ps.set (s.ps.length - 1) (s.at_,true)))[(s.ps.length - 1)*2]?=some (.int .i64 s.at_):=by
  have:=(mM (l:=s.ps.set (s.ps.length - 1) (s.at_,true)) (i:=s.ps.length - 1) (by rw[hsl];omega)).1
  rw[this]
  congr 2
  rw[cz (by rw[hsl];omega)];simp
 refine ae (l:=[_]) func89 rfl ntmps89 rfl (Ok.dk hw) ?_
 unfold fe
 generalize hS:Mb (aX sp s (.slice p1 s.ts.length c1,.slice (some ⟨g2,0,none⟩) s.ps.length c2))=S0;unfold aX;dsimp only
 repeat'(first|refine ar ?_|refine N3 ?_|refine N5 ?_|fail)
 refine aa.jQ (gj.HC rfl rfl rfl rfl rfl rfl aH (by unfold cg;rw[kq nI (s:=2) (fun _=>rfl)];omega)) ?_
 rintro⟨⟩ _
 rw[e0]
 refine cq ?_
 refine bh.dP [0,1,2,3,4,5,6,7,8,9,10,11] 12 _ _ O5 (Pp.refl _) (fun _ h=>h) ?_
 refine mX ?_
 refine bF.y_ (Yl.jw rfl rfl rfl rfl a1 bO) rfl ?_
 refine mX ?_
 refine bF.y_ (Yl.cZ (i:=s.at_.toNat) rfl rfl rfl rfl rfl Pc Pc) rfl ?_
 refine mX ?_
 refine bF.iM (gj.gz rfl rfl rfl rfl rfl aH oZ) rfl ?_
 rintro⟨⟩ _
 refine cq ?_
 refine ah.nh s.at_.toNat aH Pc ?_
 exact ah.nY rfl fun w' hw'=>aC.jm (x:=(_,_)) trivial hS hw' (km rfl rfl rfl (by simp[dG];omega) (by simp[dG,aZ,P5]) (by simp[dG]) rfl rfl) ak
theorem pz (xs:List Int) (p:Option Addr) (c:Nat) (w:World) (hrd:xs.length=0∨∃bk o,p=some ⟨bk,o,none⟩∧∀j u,(aZ xs)[j]?=some u→w.cell? ⟨bk,o+j,none⟩=some u) (_hl:xs.length≤17592186044416):
  Calls G.P 42 #[.slice p xs.length c] w (aC [] w (fun u:Value=>u) (fun _=>True) (fun u=>[.own 0 fT 1 u xs.length (aZ xs)])):=by
 refine ae (l:=[_]) func42 rfl ntmps42 rfl (Ok.start w) ?_
 repeat'(first|refine ar ?_|(refine bC ?_ ?_<;>intro hc_))
 ·have hp:p=none:=by cases p with|none=>rfl|some a=>cases hc_
  subst hp
  have h0:xs.length=0:=by
   rcases hrd with h|⟨bk,o,e,-⟩
   ·exact h
   ·cases e
  have hx:xs=[]:=List.eq_nil_of_length_eq_zero h0
  subst hx
  exact ah.aF rfl rfl fun w' hw'=>aC.tP (x:=Value.slice none 0 0) trivial (hw'.iN 0 fT 1) (by exact Pp.refl _) ak
 ·refine MJ ?_
  intro b _
  refine aa.jP 1 aH rfl (Po _) ?_
  refine cq ?_
  refine aa.he (HE.gP (aZ xs) rfl rfl (fun _=>aH) (hrd.imp id fun⟨bk,o,e,h⟩=>⟨bk,o,e,fun w' hw' j u hj=>(show Ext w w' from hw'.at).cell (h j u hj)⟩) O9 rfl rfl rfl Pe Pe Pe (fj _) (by show(0+xs.length)*8≤_;omega) Pc (fun _ _=>Po _)) rfl ?_
  intro u _
  simp only[Pm,Pi]
  refine cq ?_
  exact ah.aF rfl rfl fun w' hw'=>aC.tP (x:=u) trivial hw' bw ak
theorem Eh (w:World) (hw:Ok (aX sp s x) [] w) (hp:0<s.ps.length) (hl:s.ts.length≤17592186044416):
  Calls G.P 27 #[.pointer (some ⟨sp,0,none⟩)] w (aC [] w (fun u:Value=>u) (fun _=>True) (fun u=>[.own 0 fT 1 u s.ts.length (aZ s.ts)])):=by
 obtain⟨v1,v2⟩:=x;obtain⟨⟨p1,c1,e1,hcap,hg1⟩,⟨p2,c2,e2,hg2⟩,hn1,hn2⟩:=yS sp s (v1,v2) hw (Pp.refl _);dsimp only at e1 e2;subst e1;subst e2;obtain⟨g2,rfl⟩:=hg2 hp
 have k0:w.cell? ⟨sp,0,none⟩=some (.slice p1 s.ts.length c1):=hw.c1 (T:=jH) (cs:=[.slice p1 s.ts.length c1,.slice (some ⟨g2,0,none⟩) s.ps.length c2,.bool (dB s)]) Up.head rfl
 have k1:w.cell? ⟨sp,1,none⟩=some (.slice (some ⟨g2,0,none⟩) s.ps.length c2):=hw.c1 (T:=jH) (cs:=[.slice p1 s.ts.length c1,.slice (some ⟨g2,0,none⟩) s.ps.length c2,.bool (dB s)]) Up.head rfl
 have o1:w.ownsRow 0 fT 1 (.slice p1 s.ts.length c1) s.ts.length (aZ s.ts):=(hw.m (.own 0 fT 1 (.slice p1 s.ts.length c1) s.ts.length (aZ s.ts)) (by simp[aX])).1
 have hrd:s.ts.length=0∨∃bk o,p1=some ⟨bk,o,none⟩∧∀j u,(aZ s.ts)[j]?=some u→w.cell? ⟨bk,o+j,none⟩=some u:=by
  by_cases h0:s.ts.length=0
  ·exact .inl h0
  ·obtain⟨g,rfl⟩:=hg1 Pc
   exact .inr ⟨g,0,rfl,fun j u hj=>by rw[Pm];exact dO o1 hj⟩
 refine ae (l:=[_]) func27 rfl ntmps27 rfl (Ok.start w) ?_
 repeat'(first|refine ar ?_|refine NX ?_|fail)
 refine aa.he (HE.tu (M0:=[]) rfl rfl (fun w' hw'=>pz s.ts p1 c1 w' (hrd.imp id fun⟨bk,o,e,h⟩=>⟨bk,o,e,fun j u hj=>(show Ext w w' from hw'.at).cell (h j u hj)⟩) hl)) rfl ?_
 intro u _
 refine cq ?_
 exact ah.aF rfl rfl fun w' hw'=>aC.tP (x:=u) trivial hw' (Pp.refl _) ak
theorem Ej (w:World):Calls G.P 46 #[] w (aC [] w (fun y:Nat×Value×Value=>.pointer (some ⟨y.1,0,none⟩)) (fun _=>True) (fun y=>aX y.1 ⟨[],[(0,false)],0⟩ y.2)):=by
 refine ae (l:=[]) func46 rfl ntmps46 rfl (Ok.start w) ?_
 repeat'(first|refine ar ?_|(refine fB fun b_ _=>?_)|(refine aE fun b_=>?_)|fail)
 all_goals exact ah.aF rfl rfl fun w' hw'=>aC.tP (x:=(_,_,_)) trivial ((((hw'.jP (s:=2) (len:=1) (Up.tail Up.head) rfl OY).iN 0 fT 1)).front (Rm.tail Rm.head)) (by exact Pp.refl _) ak
abbrev jd:Nat:=128
abbrev su:Nat:=139
def bu.kr {β:Type} (V:(Nat→Prop)→World→β→Prop) (hV:vE V) (D:Nat→Prop) (x:β):bu:=⟨D,fun w=>V D w x,fun h hc hd=>hV h hc hd⟩
def iY (D:Nat→Prop) (w:World) (L:List (aO×Value×Value)):Prop:=∀y∈L,dH y.1 D w y.2
theorem iY.fr:vE iY:=fun h hc hd y hy=>dH.fr y.1 (h y hy) hc hd
structure jI where
 sp:Nat
 tv:Value
 pv:Value
 bv:Value
 rv:Value
 fv:List (Value×Value)
 D:Nat→Prop
 L:List (aO×Value×Value)
def iB (f:nS) (x:Value×Value):List Value:=[.int .i64 f.kind,x.1,x.2,.bool f.other,.bool f.lq]
def er:List nS→List (Value×Value)→List Value
 |f::r,x::s=>iB f x++er r s
 |_,_=>[]
abbrev nS.fn (f:nS):aO:=⟨f.par,f.res⟩
structure jI.Good (v:jI) (c:dv):Prop where
 len:v.fv.length=c.fs.length
 fr:∀i,i<c.fs.length→((ix c.fs i).fn,ix v.fv i)∈v.L
 rs:(⟨[],c.results⟩,.slice none 0 0,v.rv)∈v.L
def aT (cp:Nat) (c:dv) (v:jI):List bu:=.aV cp [.pointer (some ⟨v.sp,0,none⟩),v.bv,v.rv,.bool c.live,.int .i64 c.broken] jd::(aX v.sp c.ao (v.tv,v.pv)++[.own 0 su 5 v.bv c.fs.length (er c.fs v.fv),.kr iY iY.fr v.D v.L])
structure wS (cp:Nat) (c:dv) (v:jI) (w:World):Prop where
 b:gO w cp [.pointer (some ⟨v.sp,0,none⟩),v.bv,v.rv,.bool c.live,.int .i64 c.broken] jd
 o:w.ownsRow 0 su 5 v.bv c.fs.length (er c.fs v.fv)
 l:iY v.D w v.L
theorem Ok.Cv {cp:Nat} {c:dv} {v:jI} {M:List bu} {R:List (World→Prop)} {w:World} (h:Ok M R w) (hM:(aT cp c v).Sublist M):wS cp c v w:=
 ⟨(h.m (.aV cp _ jd) (hM.subset (by simp[aT]))).1,(h.m (.own 0 su 5 v.bv c.fs.length (er c.fs v.fv)) (hM.subset (by simp[aT]))).1,(h.m (.kr iY iY.fr v.D v.L) (hM.subset (by simp[aT]))).1⟩
theorem mF:∀(fs:List nS) (fv:List (Value×Value)) (i j:Nat),fv.length=fs.length→i<fs.length→j<5→(er fs fv)[i*5+j]?=(iB (ix fs i) (ix fv i))[j]?
 |[],_,i,j,_,h,_=>by simp at h
 |f::r,[],i,j,h,_,_=>by simp at h
 |f::r,x::s,0,j,_,_,hj=>by
  show(iB f x++er r s)[0*5+j]?=_
  rw[Nat.zero_mul,Pm,List.getElem?_append_left (by simp[iB];omega)]
  rfl
 |f::r,x::s,i+1,j,h,hi,hj=>by
  have ih:=mF r s i j O4 (by simpa using hi) hj
  show(iB f x++er r s)[(i+1)*5+j]?=_
  rw[List.getElem?_append_right (by simp[iB];omega),show(i+1)*5+j - (iB f x).length=i*5+j from by simp[iB];omega,ih]
  simp[ix]
theorem xi:∀(fs:List nS) (fv:List (Value×Value)) (f:nS) (x:Value×Value),fv.length=fs.length→er (fs++[f]) (fv++[x])=er fs fv++iB f x
 |[],[],f,x,_=>by simp[er]
 |[],y::s,_,_,h=>by simp at h
 |g::r,[],_,_,h=>by simp at h
 |g::r,y::s,f,x,h=>by
  show iB g y++er (r++[f]) (s++[x])=iB g y++er r s++iB f x
  rw[xi r s f x O4,List.append_assoc]
theorem tB:∀(fs:List nS) (fv:List (Value×Value)) (k:Nat),fv.length=fs.length→(er fs fv).take (k*5)=er (fs.take k) (fv.take k)
 |[],[],k,_=>by simp[er]
 |[],y::s,_,h=>by simp at h
 |g::r,[],_,h=>by simp at h
 |g::r,y::s,0,h=>by simp[er]
 |g::r,y::s,k+1,h=>by
  have ih:=tB r s k O4
  show(iB g y++er r s).take ((k+1)*5)=iB g y++er (r.take k) (s.take k)
  rw[←ih,show(k+1)*5=(iB g y).length+k*5 from by simp[iB];omega,List.take_length_add_append]
theorem xc (w:World) (h:w.cell? ⟨cp,0,none⟩=some (.pointer (some a))):Calls G.P 40 #[.pointer (some ⟨cp,0,none⟩)] w fun e w'=>e=.returned (.bool true)∧Ext w w':=by
 have:=h;clear this
 refine ae (l:=[_]) func40 rfl ntmps40 rfl (Ok.start w) ?_
 repeat'(first|refine ar ?_|(refine aa.aG ?_;refine aa.y_ (Yl.Fv underlying74 rfl rfl) rfl ?_)|(refine aa.aG ?_;refine aa.yg O2 (Yl.Fv underlying105 rfl rfl) rfl ?_)|fail)
 all_goals exact rd
theorem kQ (e0:Int) (w:World) (h:w.cell? ⟨cp,0,none⟩=some (.pointer (some a))) (_h4:w.cell? ⟨cp,4,none⟩=some (.int .i64 e0)):Calls G.P 39 #[.pointer (some ⟨cp,0,none⟩)] w fun e w'=>e=.returned (.int .i64 e0)∧Ext w w':=by
 refine ae (l:=[_]) func39 rfl ntmps39 rfl (Ok.start w) ?_
 repeat'(first|refine ar ?_|(refine aa.aj (f:=40) ?_;refine aa.au rfl rfl rfl (fun w' hw'=>xc cp a w' ((show Ext w w' from hw'.at).cell h)) ?_)|fail)
 all_goals exact rd
theorem eB (w:World) (h:w.cell? ⟨cp,0,none⟩=some (.pointer (some a))):Calls G.P 26 #[.pointer (some ⟨cp,0,none⟩)] w fun e w'=>e=.returned (.pointer (some a))∧Ext w w':=by
 refine ae (l:=[_]) func26 rfl ntmps26 rfl (Ok.start w) ?_
 repeat'(first|refine ar ?_|(refine aa.aj (f:=40) ?_;refine aa.au rfl rfl rfl (fun w' hw'=>xc cp a w' ((show Ext w w' from hw'.at).cell h)) ?_)|fail)
 all_goals exact rd
theorem CL {g g':Prop} (h:g') (hw:eI g'→g:=by(intro hk_;(first|(refine aa.aj (f:=39) ?_;refine aa.au rfl rfl rfl (fun w' hw'=>kQ cp ⟨v.sp,0,none⟩ c.broken w' ((show Ext w w' from hw'.at).cell k0) ((show Ext w w' from hw'.at).cell k4)) ?_));exact hk_.out)):g:=hw ⟨h⟩
theorem Di (v:jI) (w:World) (h:wS cp c v w) (_hb:c.broken=0):Calls G.P 25 #[.pointer (some ⟨cp,0,none⟩)] w fun e w'=>e=.returned (.bool c.live)∧Ext w w':=by
 have k0:=h.b.cell (j:=0) rfl
 have k3:=h.b.cell (j:=3) rfl
 have k4:=h.b.cell (j:=4) rfl
 refine ae (l:=[_]) func25 rfl ntmps25 rfl (Ok.start w) ?_
 repeat'(first|refine ar ?_|refine CL ?_|fail)
 all_goals first|omega|exact ah.aF rfl rfl fun w' hw'=>⟨by rfl,hw'.at⟩
inductive oJ:List bu→List bu→List bu→Prop
 |nil {M:List bu}:oJ [] M M
 |cons {q:bu} {M M1 M0 Mr:List bu} (hr:Rm q M M1) (h:oJ M0 M1 Mr):oJ (q::M0) M Mr
theorem oJ.perm {M0 M Mr:List bu} (h:oJ M0 M Mr):M.Perm (M0++Mr):=by
 induction h with
 |nil=>exact List.Perm.refl _
 |cons hr _ ih=>exact hr.perm.trans (ih.cons _)
theorem dS {M0 M Mr:List bu} (h:oJ M0 M Mr:=by(repeat(first|exact oJ.nil|(apply oJ.cons;·(repeat(first|with_reducible exact Rm.head|apply Rm.tail)))))):oJ M0 M Mr:=h
section
variable {n:Nat} {E:Env} {M M0 Mr:List bu} {R:List (World→Prop)} {β:Type} {tf:β→Value} {φ:β→Prop} {M1:β→List bu} {f:Nat} {args:List Operand} {tys:Array TypeId} {vs:List Value}
theorem HE.bJ (hr:oJ M0 M Mr) (hf:G.fb[f]?=some true) (ha:kI E args=some vs)
  (hc:∀w,Ok M R w→Calls G.P f vs.toArray w (aC M0 w tf φ M1)):HE n (.call ⟨.value (.func f),args.toArray,tys⟩) E M R φ tf (fun x=>M1 x++Mr) (fun _=>R):=
 HE.call tf hf ha fun w hw=>(hc w hw).mono fun _e _w' ⟨x,e1,h1,h2,h3,h4⟩=>⟨x,e1,h1,(hw.perm hr.perm).frame h2 h3 h4⟩
end
theorem tG {D:Nat→Prop} {w:World} {p:Option Addr} {n c:Nat} {xs:List Int} (h:ai D w (.slice p n c) xs):xs.length=0∨∃bk o,p=some ⟨bk,o,none⟩∧∀j u,(aZ xs)[j]?=some u→w.cell? ⟨bk,o+j,none⟩=some u:=by
 obtain⟨p',c',e,hl,h⟩:=h
 cases e
 rcases h with h|⟨b,o,rfl,hF,h⟩
 ·exact .inl (by rw[h];rfl)
 ·refine .inr ⟨b,o,rfl,fun j u hj=>?_⟩
  have hj':j<xs.length:=by have:=(PL.1 hj).1;simpa[aZ]using this
  rw[h j hj',←hj]
  unfold aZ
  rw[List.getElem?_map,iy hj'];rfl
theorem ew {D:Nat→Prop} (xs:List Int) (v:Value) (w:World) (h:ai D w v xs):
  Calls G.P 42 #[v] w (aC [] w (fun u:Value=>u) (fun _=>True) (fun u=>[.own 0 fT 1 u xs.length (aZ xs)])):=by
 obtain⟨p,c,rfl,hl⟩:=h.slice
 exact pz xs p c w (tG h) hl
def gV {β:Type} (w:World) (tf:β→Value) (M1:β→List bu):Ending→World→Prop:=aC [] w tf (fun _=>True) M1
theorem lR (v:jI) (w:World) (h:wS cp c v w) (hg:v.Good c) (_hb:c.broken=0):Calls G.P 90 #[.pointer (some ⟨cp,0,none⟩)] w (gV w (fun u:Value=>u) (fun u=>[.own 0 fT 1 u c.results.length (aZ c.results)])):=by
 have k0:=h.b.cell (j:=0) rfl
 have k2:=h.b.cell (j:=2) rfl
 have k4:=h.b.cell (j:=4) rfl
 have hI:=(h.l _ hg.rs).2
 dsimp only at hI
 unfold gV
 refine ae (l:=[_]) func90 rfl ntmps90 rfl (Ok.start w) ?_
 repeat'(first|refine ar ?_|refine CL ?_|fail)
 all_goals first|omega|skip
 refine aa.he (HE.tu (M0:=[]) rfl rfl (fun w' hw'=>ew c.results v.rv w' (hI.aP (show Ext w w' from hw'.at) (fun _ _ _ h=>h)))) rfl ?_
 intro u _
 refine cq ?_
 exact ah.aF rfl rfl fun w' hw'=>aC.tP (x:=u) trivial hw' (Pp.refl _) ak
theorem pQ (v:jI) (n:Int) (w:World) (h:wS cp c v w) (hg:v.Good c) (hb:c.broken=0):Calls G.P 91 #[.pointer (some ⟨cp,0,none⟩),.int .i64 n] w (gV w (fun u:Value=>.tuple #[u,.int .i64 (cT c n).2]) (fun u=>[.own 0 fT 1 u (cT c n).1.length (aZ (cT c n).1)])):=by
 have:=hb;clear this
 have k0:=h.b.cell (j:=0) rfl
 have k1:=h.b.cell (j:=1) rfl
 have k4:=h.b.cell (j:=4) rfl
 obtain⟨p,cc,e,hcp,hmx,hgg⟩:=aw h.o
 unfold maxLen at hmx
 have ho:=h.o
 rw[e]at k1 ho
 unfold gV cT
 rw[if_neg Pc]
 by_cases hr:n<0∨c.fs.length≤n
 ·rw[if_pos hr]
  refine ae (l:=[_,_]) func91 rfl ntmps91 rfl (Ok.start w) ?_
  repeat'(first|refine ar ?_|refine CL ?_|(refine bC ?_ ?_<;>intro hc_))
  all_goals first|omega|exact ah.iq rfl rfl rfl fun w' hw'=>aC.tP (x:=Value.slice none 0 0) trivial (hw'.iN 0 fT 1) (Pp.refl _) ak
 ·rw[if_neg hr]
  dsimp only
  obtain⟨k,rfl⟩:=Int.eq_ofNat_of_zero_le (show 0≤n by omega)
  obtain⟨g,rfl,-⟩:=hgg Pc
  have hi:c.fs.length - 1 - k<c.fs.length:=by omega
  rw[Int.toNat_natCast]
  obtain⟨i,hie⟩:∃i,i=c.fs.length - 1 - k:=⟨_,rfl⟩
  rw[←hie]at hi ⊢
  have hfr:=h.l _ (hg.fr i hi)
  have hc5:∀j,j<5→w.cell? ⟨g,0+i*5+j,none⟩=(iB (ix c.fs i) (ix v.fv i))[j]?:=fun j hj=>by
   have h5:=mF c.fs v.fv i j hg.len hi hj
   have hlt:j<(iB (ix c.fs i) (ix v.fv i)).length:=hj
   rw[Pq hlt]at h5 ⊢
   rw[Pm]
   exact dO ho h5
  generalize ix c.fs i=f at*
  generalize ix v.fv i=x at*
  obtain⟨x1,x2⟩:=x
  obtain⟨q1,q2⟩:=hfr
  dsimp only[nS.fn]at q1 q2
  obtain⟨u1,d1,rfl,-⟩:=q1.slice
  obtain⟨u2,d2,rfl,-⟩:=q2.slice
  dsimp only[iB]at hc5
  refine ae (l:=[_,_]) func91 rfl ntmps91 rfl (Ok.start w) ?_
  repeat'(first|refine ar ?_|refine CL ?_|(refine bC ?_ ?_<;>intro hc_))
  refine bh.cF [] [Ext w] bw aU ?_
  repeat'(first|refine pG ?_|(refine aN.qy 12 rfl (Yl.idx (i:=i) rfl rfl rfl rfl rfl Pc Pc) ?_)|(refine aN.qy 13 rfl (Yl.ji rfl rfl rfl ak Pe Pe hc5) ?_)|(refine ax.yb su ?_;refine ax.he rfl rfl (HE.alloc (t:=su) [.int .i64 0,.slice none 0 0,.slice none 0 0,.bool false,.bool false] rfl rfl) (fun _=>bw) (fun _=>aU) ?_;intro b_ _)|(refine ax.nf ?_;refine ax.jQ rfl (gj.bn _ rfl rfl rfl rfl rfl rfl aH rfl) (fun _=>bw) (fun _=>aU) ?_;rintro⟨⟩ _)|refine aN.nil O3 ?_|refine aN.any O3 ?_|exact aB.fin rfl|refine aB.skip O3 ?_|refine aB.go ?_ ?_)
  have hq1:=q1
  have hq2:=q2
  repeat'(first|refine ar ?_|(refine bC ?_ ?_<;>intro hc_))
  ·rw[if_pos hc_]
   refine aa.he (HE.tu (M0:=[]) rfl rfl (fun w' hw'=>ew f.par _ w' (q1.aP (show Ext w w' from hw'.at) (fun _ _ _ h=>h)))) rfl ?_
   intro u _
   dsimp only[Pj,Pi]
   refine cq ?_
   exact ah.iq rfl rfl rfl fun w' hw'=>aC.tP (x:=u) trivial hw' bw ak
  ·rw[if_neg hc_]
   refine aa.he (HE.tu (M0:=[]) rfl rfl (fun w' hw'=>ew f.res _ w' (q2.aP (show Ext w w' from hw'.at) (fun _ _ _ h=>h)))) rfl ?_
   intro u _
   dsimp only[Pj,Pi]
   refine cq ?_
   exact ah.iq rfl rfl rfl fun w' hw'=>aC.tP (x:=u) trivial hw' bw ak
theorem aC.qF {M0 M:List bu} {R:List (World→Prop)} {w w':World} {S0:Nat→Prop} {tf:β→Value} {φ:β→Prop} {M1:β→List bu} (x:β) (hφ:φ x) (hS:Mb M0=S0) (h:Ok M R w') (hM:ko (M1 x) M) (hR:bX S0 w∈R):aC M0 w tf φ M1 (.returned (tf x)) w':=by
 obtain⟨M2,hp⟩:=hM.perm
 exact aC.jm x hφ hS (h.perm hp) (List.sublist_append_left _ _) hR
theorem Ok.merge {q1 q2 q:bu} {M:List bu} {R:List (World→Prop)} {w:World} (h:Ok (q1::q2::M) R w) (hF:∀k,q.F k→q1.F k∨q2.F k) (hP:q1.P w→q2.P w→q.P w):Ok (q::M) R w:=by
 have h1:=h.m q1 Pd
 have h2:=h.m q2 Pd
 have hd:=h.d
 rw[PV,PV]at hd
 refine h.step (bX.refl _ w) (fun x hx=>?_) (PV.2 ⟨fun x hx k hk hk'=>?_,hd.2.2⟩) (fun k ⟨x,hx,hk⟩ _=>?_)
 ·rcases Pz.1 hx with rfl|hx
  ·exact⟨hP h1.1 h2.1,fun k hk=>(hF k hk).elim (h1.2 k) (h2.2 k)⟩
  ·exact h.m x (by simp[hx])
 ·rcases hF k hk with h|h
  ·exact hd.1 x (by simp[hx]) k h hk'
  ·exact hd.2.1 x hx k h hk'
 ·rcases Pz.1 hx with rfl|hx
  ·rcases hF k hk with h|h
   ·exact⟨q1,by simp,h⟩
   ·exact⟨q2,by simp,h⟩
  ·exact⟨x,by simp[hx],hk⟩
def sU (M0:List bu) (cp:Nat) (r:Value) (c':dv) (w:World):Ending→World→Prop:=aC M0 w (fun _:jI=>r) (fun v'=>v'.Good c') (aT cp c')
theorem jI.Good.mono {v v':jI} {c c':dv} (h:v.Good c) (hfs:c'.fs=c.fs) (hrs:c'.results=c.results) (hfv:v'.fv=v.fv) (hrv:v'.rv=v.rv) (hL:∀y,y∈v.L→y∈v'.L):v'.Good c':=
 ⟨by rw[hfs,hfv];exact h.len,fun i hi=>by rw[hfs]at hi ⊢;rw[hfv];exact hL _ (h.fr i hi),by rw[hrs,hrv];exact hL _ h.rs⟩
theorem zX {g g':Prop} (h:g') (hw:eI g'→g:=by(intro hk_;(first|refine N1 ?_);exact hk_.out)):g:=hw ⟨h⟩
theorem oM (v:jI) (w:World) (hw:Ok (aT cp c v) [] w) (hg:v.Good c) (_hb:c.broken=0) (hwf:c.Wf):Calls G.P 53 #[.pointer (some ⟨cp,0,none⟩)] w (sU (aT cp c v) cp (.tuple #[]) (iE c) w):=by
 obtain⟨sp,tv,pv,bv,rv,fv,D,L⟩:=v
 have hrd:=hw.Cv (Pp.refl _)
 obtain⟨p,cc,e,hcp,hmx,-⟩:=aw hrd.o
 dsimp only at e
 subst e
 have hat:=hwf.ao.at_
 have hps:=hwf.ao.some
 refine ae (l:=[_]) func53 rfl ntmps53 rfl (Ok.dk hw) ?_
 unfold sU
 generalize hS:Mb (aT cp c ⟨sp,tv,pv,.slice p c.fs.length cc,rv,fv,D,L⟩)=S0
 dsimp only[aT,aX,Pj,Pi]
 by_cases h0:c.fs.length=0
 ·have e:iE c=c:=if_pos (.inr h0)
  rw[e]
  repeat'(first|refine ar ?_|refine zX ?_|fail)
  all_goals first|omega|exact ah.FX rfl fun w' hw'=>aC.qF (x:=⟨sp,tv,pv,.slice p c.fs.length cc,rv,fv,D,L⟩) hg hS hw' OH ak
 ·have e:iE c={c with ao:=dG c.ao,live:=false}:=if_neg (by rintro(h|h)<;>omega)
  rw[e]
  repeat'(first|refine ar ?_|refine zX ?_|fail)
  all_goals first|omega|skip
  refine aa.he (HE.bJ (M0:=[.aV sp [tv,pv,.bool (dB c.ao)] jH,.own 0 fT 1 tv c.ao.ts.length (aZ c.ao.ts),.own 0 jG 2 pv c.ao.ps.length (cg c.ao.ps)]) dS rfl rfl (fun w' hw'=>AM sp c.ao (tv,pv) w' (hw'.dc dU (fun p h=>by cases h)) hps hat.1 hat.2)) rfl ?_
  rintro⟨tv2,pv2⟩ _
  dsimp only[aT,aX,Pj,Pi]
  repeat'(first|refine ar ?_|fail)
  exact ah.nY rfl fun w' hw'=>aC.qF (x:=⟨sp,tv2,pv2,.slice p c.fs.length cc,rv,fv,D,L⟩) (hg.mono rfl rfl rfl rfl (fun _ h=>h)) hS hw' OH ak
theorem jt (a b r l e0:Value) (e:Int) (w:World) (hw:Ok [.aV cp [a,b,r,l,e0] jd] [] w):Calls G.P 83 #[.pointer (some ⟨cp,0,none⟩),.int .i64 e] w (aC [.aV cp [a,b,r,l,e0] jd] w (fun _:Unit=>.int .i64 e) (fun _=>True) (fun _=>[.aV cp [a,b,r,l,.int .i64 e] jd])):=by
 refine ae (l:=[_,_]) func83 rfl ntmps83 rfl (Ok.dk hw) ?_
 repeat'(first|refine ar ?_|fail)
 exact ah.aF rfl rfl fun w' hw'=>aC.qF (x:=()) trivial rfl hw' dU ak
theorem wM {P:Program} (w:World) (dT sT ty elem:TypeId) (g dLen dCap s:Nat) (a:Addr) (sLen sCap:Nat) (cur:Array Value) (t:TypeId) (cs:List Value)
  (hu:P.underlying dT=some (.slice elem)) (hs:∀w,(sizeOf elem).run P w=.ok s w) (hg:w.heap[g]?=some (.cells cur t (0,0))) (hle:dLen≤sLen) (hn:cs.length=dLen*s)
  (hsrc:∀j v,cs[j]?=some v→w.cell? (a.add j)=some v) (hfit:cs.length≤cur.size) (h1:∀v∈cs,v.oneCell'=true):
  (Builtin.copy_ #[dT,sT] ty #[.slice (some ⟨g,0,none⟩) dLen dCap,.slice (some a) sLen sCap]).run P w=.ok (goInt dLen) (w.setRow g (cs++cur.toList.drop cs.length).toArray):=by
 have hl:=run_loadCells_list (P:=P) w a cs hsrc
 have hst:=run_storeCells_at P g 0 t cs 0 cur w hg (by simpa using hfit) h1
 have hmin:Nat.min sLen dLen=dLen:=Nat.min_eq_right hle
 have hmul:dLen*s=cs.length:=hn.symm
 simp[Builtin.copy_,run_underlying hu,Builtin.lenOf,Builtin.firstCells,hs,hmin,hmul,hl,hst]
section
variable {n:Nat} {E:Env} {M M' M'':List bu} {R:List (World→Prop)} {t:TypeId} {x y:Operand}
theorem HE.Ku {ti te:TI} {e len B s:Nat} (ht:G.ty t=some ti) (he:ti.elem=some e) (hte:G.ty e=some te) (hs:te.size=s) (hx:ev E x=some (.int .i64 (len:Int))) (hbt:Nat.ble te.bytes 1000=true) (hml:len≤100000000000) (hB:∀w,Ok M R w→B≤w.heap.size):
  HE n (.makeSlice t x x) E M R (fun _:Nat=>True) (fun g=>.slice (some ⟨g,0,none⟩) len len) (fun g=>.own B e s (.slice (some ⟨g,0,none⟩) len len) len (madeCells te.zero.cells (len*te.size)).toList::M) (fun _=>R):=
 ⟨fun w hw=>(bU.make ht he hte hx (by have:=Nat.mul_le_mul (Nat.le_of_ble_eq_true hbt) hml;omega) OY (hB w hw)).mono fun v w' ⟨h1,h2,h3,h4⟩=>by
  subst h1 hs
  refine⟨w.heap.size,trivial,rfl,hw.push h3 h2 (fun k hk=>?_)⟩
  have hk':some w.heap.size=some k:=hk
  cases hk';exact⟨Nat.le_refl _,h4⟩⟩
theorem HE.IQ {ti te:TI} {B B2 T T2 s m cd sLen cS g gS e:Nat} {zs ys:List Value} (hx:ev E x=some (.slice (some ⟨g,0,none⟩) m cd)) (hy:ev E y=some (.slice (some ⟨gS,0,none⟩) sLen cS)) (hM:Up (.own B T s (.slice (some ⟨g,0,none⟩) m cd) m zs) (.own B T s (.slice (some ⟨g,0,none⟩) m cd) m (ys.take (m*s))) M M')
  (hb:Up (.own B2 T2 s (.slice (some ⟨gS,0,none⟩) sLen cS) sLen ys) (.own B2 T2 s (.slice (some ⟨gS,0,none⟩) sLen cS) sLen ys) M M'') (hle:m≤sLen) (ht:G.ty t=some ti) (he:ti.elem=some e) (hte:G.ty e=some te) (hs:te.size=s) (h1:∀u∈ys,u.oneCell'=true):
  HE n (.call ⟨.builtin .copy,#[x,y],#[t,t]⟩) E M R (fun _:Unit=>True) (fun _=>.int .i64 m) (fun _=>M') (fun _=>R):=
 ⟨fun w hw=>by
  subst hs
  have hou:=(hw.m _ hM.mem)
  have hos:w.ownsRow B2 T2 te.size (.slice (some ⟨gS,0,none⟩) sLen cS) sLen ys:=(hw.m _ hb.mem).1
  obtain⟨⟨hl,ho⟩,hlt⟩:=hou
  rcases ho with⟨e1,_⟩|⟨g',cap,cur,e1,hg,hh,hn,hc,hsz,htk⟩
  ·cases e1
  cases e1
  have hly:(ys.take (m*te.size)).length=m*te.size:=by
   rw[Ps,hos.1];have:=P4 te.size hle;omega
  have hfit:(ys.take (m*te.size)).length≤cur.size:=by rw[hly,hsz];exact P4 _ hn
  have hsrc:∀j v,(ys.take (m*te.size))[j]?=some v→w.cell? ((⟨gS,0,none⟩:Addr).add j)=some v:=fun j v hj=>by
   have hj':ys[j]?=some v:=by
    have hlt:=(PL.1 hj).1
    rw[hly]at hlt
    rw[List.getElem?_take]at hj
    rw[if_pos hlt]at hj;exact hj
   have:=dO hos hj'
   have e:(⟨gS,0,none⟩:Addr).add j=⟨gS,j,none⟩:=by
    unfold Addr.add;split
    ·rename_i h0;rw[h0]
    ·simp
   rw[e];exact this
  have hrun:=fun ty=>wM (P:=G.P) w t t ty e g m cd te.size ⟨gS,0,none⟩ sLen cS cur T (ys.take (m*te.size)) ((G.iR t ti ht).elem e he) ((G.iR e te hte).size) hh hle hly hsrc hfit (fun u hu=>h1 u (List.mem_of_mem_take hu))
  refine bU.of (v:=.int .i64 m) (w':=w.setRow g (ys.take (m*te.size)++cur.toList.drop (ys.take (m*te.size)).length).toArray) (fun ac hac d ty pos aft gd=>?_) ⟨(),trivial,rfl,hw.qd hM (w':=w.setRow g _) ⟨rfl,rfl,rfl,by simp[World.setRow],fun k hk hne=>setRow_other _ _ _ _ (fun e=>hne (by subst e;rfl))⟩ ⟨hly,.inr ⟨g,cd,_,rfl,hg,setRow_heap w g cur _ T _ hh,hn,hc,?_,?_⟩⟩ (fun k hk=>⟨?_,fun _=>hk⟩)⟩
  ·simp[execOp,resolve,invoke,builtin,hac.eval hx,hac.eval hy,hrun,goInt]
  ·have:=hfit
   simp only[List.size_toArray,Pt,List.length_drop,Array.length_toList]
   omega
  ·show(ys.take (m*te.size)++_).take (m*te.size)=_
   rw[List.take_append_of_le_length Pc,List.take_take,Nat.min_self]
  ·have:=hlt k hk
   simpa[World.setRow]using this⟩
end
theorem dH.gx {f:aO} {D:Nat→Prop} {w:World} {x:Value×Value} (h:dH f D w x):∃p c p' c',x=(.slice p f.params.length c,.slice p' f.results.length c'):=by
 obtain⟨p,c,e,_⟩:=h.1.slice
 obtain⟨p2,c2,e2,_⟩:=h.2.slice
 exact⟨p,c,p2,c2,by rw[←e,←e2]⟩
theorem Eo:∀u∈aZ l,u.oneCell'=true:=fj l
theorem xj:∀(fs:List nS) (fv:List (Value×Value)),(∀x∈fv,x.1.oneCell'=true∧x.2.oneCell'=true)→∀u∈er fs fv,u.oneCell'=true
 |[],[],_,u,h=>by simp[er]at h
 |[],y::s,_,u,h=>by simp[er]at h
 |f::r,[],_,u,h=>by simp[er]at h
 |f::r,x::s,hv,u,h=>by
  have ih:=xj r s (fun y hy=>hv y (by simp[hy]))
  have h':u∈iB f x++er r s:=h
  rcases List.mem_append.1 h' with h|h
  ·have hx:=hv x Pd
   simp only[iB,Pz,PY,or_false]at h
   rcases h with rfl|rfl|rfl|rfl|rfl
   ·rfl
   ·exact hx.1
   ·exact hx.2
   ·rfl
   ·rfl
  ·exact ih u h
theorem jI.Good.one {v:jI} {c:dv} {w:World} (h:v.Good c) (hl:iY v.D w v.L):∀x∈v.fv,x.1.oneCell'=true∧x.2.oneCell'=true:=fun x hx=>by
 obtain⟨i,hi,e⟩:=List.mem_iff_getElem.1 hx
 have hi':i<c.fs.length:=by rw[←h.len];exact hi
 have hf:=hl _ (h.fr i hi')
 rw[cz hi,e]at hf
 obtain⟨p,c1,p',c1',e1⟩:=hf.gx
 dsimp only at e1
 rw[e1];exact⟨rfl,rfl⟩
theorem na (v:jI) (f:nS) (x:Value×Value) (w:World) (hw:Ok (aT cp c v) [] w) (hg:v.Good c) (hin:(f.fn,x)∈v.L) (hps:0<c.ao.ps.length) (hpl:c.ao.ps.length≤1000000) (_hfl:c.fs.length≤1000000) (hts:(c.ao.ts.length+f.par.length)*8≤140737488355328):
  Calls G.P 84 #[.pointer (some ⟨cp,0,none⟩),.agg (iB f x).toArray] w (sU (aT cp c v) cp (.tuple #[]) (gW c c.ao c.fs f) w):=by
 obtain⟨sp,tv,pv,bv,rv,fv,D,L⟩:=v
 have hrd:wS cp c ⟨sp,tv,pv,bv,rv,fv,D,L⟩ w:=hw.Cv (Pp.refl _)
 obtain⟨p,cc,e,hcp,hmx,-⟩:=aw hrd.o
 dsimp only at e hin
 subst e
 obtain⟨p1,c1,p2,c2,hx⟩:=dH.gx (hrd.l _ hin)
 dsimp only at hx
 subst hx
 refine ae (l:=[.pointer (some ⟨cp,0,none⟩),.agg (iB f _).toArray]) func84 rfl ntmps84 rfl (Ok.dk hw) ?_
 unfold sU
 generalize hS:Mb (aT cp c ⟨sp,tv,pv,.slice p c.fs.length cc,rv,fv,D,L⟩)=S0
 dsimp only[aT,aX,Pj,Pi]
 repeat'(first|refine ar ?_|fail)
 refine aa.box (iB f (.slice p1 f.par.length c1,.slice p2 f.res.length c2)) rfl rfl rfl fun b3=>?_
 dsimp only[iB]
 repeat'(first|refine ar ?_|fail)
 refine aa.he (HE.bJ (M0:=[.aV sp [tv,pv,.bool (dB c.ao)] jH,.own 0 fT 1 tv c.ao.ts.length (aZ c.ao.ts),.own 0 jG 2 pv c.ao.ps.length (cg c.ao.ps)]) dS rfl rfl (fun w' hw'=>vp sp c.ao (tv,pv) w' (hw'.dc dU (fun p h=>by cases h)) hps hpl)) rfl ?_
 rintro⟨tv2,pv2⟩ _
 dsimp only[aT,aX,Pj,Pi]
 repeat'(first|refine ar ?_|fail)
 refine bh.dP [0,1,2,3,4,5,6] 7 _ _ O5 (Pp.refl _) (fun _ h=>h) ?_
 refine mX ?_
 refine bF.JA (HE.bJ (M0:=[.aV sp [tv2,pv2,.bool (dB (aW c.ao))] jH,.own 0 fT 1 tv2 (aW c.ao).ts.length (aZ (aW c.ao).ts),.own 0 jG 2 pv2 (aW c.ao).ps.length (cg (aW c.ao).ps)]) dS rfl rfl (fun w' hw'=>gX D sp (aW c.ao) (tv2,pv2) _ f.par w' ((hw'.freeze (q:=.kr iY iY.fr D L) (p:=fun w=>ai D w (.slice p1 f.par.length c1) f.par) jK (fun _ h=>(h _ hin).1)).dc dU aU) (by simp[aW]) hts)) rfl ?_
 rintro⟨tv3,pv3⟩ _
 dsimp only[aT,aX,Pj,Pi]
 repeat'(first|refine ar ?_|fail)
 refine bh.dP [0,1,2,3,4,5,6,7,8,9] 10 [.aV b3 [.int .i64 f.kind,.slice p1 f.par.length c1,.slice p2 f.res.length c2,.bool f.other,.bool f.lq] su,.aV cp [.pointer (some ⟨sp,0,none⟩),.slice p c.fs.length cc,rv,.bool c.live,.int .i64 c.broken] jd] [] O5 bw aU ?_
 refine mX ?_
 refine Ni ?_
 intro b5 _
 refine Nj ?_
 intro bv2 _
 refine bF.pure (φ:=∃p c',bv2=.slice p (c.fs.length+1) c') (fun w' hw'=>?_) ?_
 ·obtain⟨p,c,e,_⟩:=aw (hw'.own (v:=bv2));exact⟨p,c,e⟩
 rintro⟨p3,c3,rfl⟩
 refine mX ?_
 refine bF.iM (gj.gz rfl rfl rfl rfl rfl aH oZ) rfl ?_
 rintro⟨⟩ _
 repeat'(first|refine ar ?_|fail)
 refine ah.nY rfl fun w' hw'=>?_
 refine aC.qF (x:=(⟨sp,tv3,pv3,.slice p3 (c.fs.length+1) c3,rv,fv++[(.slice p1 f.par.length c1,.slice p2 f.res.length c2)],D,L⟩:jI)) ⟨?_,fun i hi=>?_,hg.rs⟩ hS hw' (by unfold gW;dsimp only[aT,aX,Pj,Pi];rw[xi _ _ _ _ hg.len,Pt];dsimp only[iB,List.length_cons,List.length_nil];exact dU) ak
 ·show(fv++[_]).length=(c.fs++[f]).length
  have:=hg.len
  simp at this ⊢;exact this
 ·have hlen:=hg.len
  dsimp only at hlen
  have hi':i<(c.fs++[f]).length:=hi
  show((ix (c.fs++[f]) i).fn,ix (fv++[_]) i)∈L
  by_cases hlt:i<c.fs.length
  ·rw[iF hlt,iF (show i<fv.length by omega)];exact hg.fr i hlt
  ·have:i=c.fs.length:=by rw[Pt,List.length_singleton]at hi';omega
   subst this
   rw[gJ (Pr _),gJ (show fv.length≤c.fs.length by omega),hlen,Nat.sub_self]
   exact hin
theorem Yl.H9 {t:TypeId} {x:Operand} {ti:TI} {B T s s' m g cap o:Nat} {xs cs:List Value} (ht:G.ty t=some ti) (ha:ti.agg=true) (hx:ev E x=some (.pointer (some ⟨g,o,none⟩))) (hs:ti.size=s') (hl:cs.length=s') (hc:∀j,j<s'→xs[o+j]?=cs[j]?) (hM:bu.own B T s (.slice (some ⟨g,0,none⟩) m cap) m xs∈M):Yl G n (.load t x) E (Ok M R) (.agg cs.toArray):=
 Yl.rY ht ha hs hx hl fun w hw j hj=>by
  have h1:=hc j hj
  obtain⟨u,hu⟩:∃u,cs[j]?=some u:=⟨_,Pq (show j<cs.length by omega)⟩
  rw[hu]at h1 ⊢
  exact dO (hw.m _ hM).1 h1
theorem zy (v:jI) (w:World) (hw:Ok (aT cp c v) [] w) (hg:v.Good c) (h0:0<c.fs.length) (_hfl:c.fs.length≤1000000):
  Calls G.P 86 #[.pointer (some ⟨cp,0,none⟩)] w (aC (aT cp c v) w (fun _:Value=>.agg (iB c.top (ix v.fv (c.fs.length - 1))).toArray) (fun _=>True) (fun bv'=>aT cp {c with fs:=c.fs.take (c.fs.length - 1)} {v with bv:=bv',fv:=v.fv.take (c.fs.length - 1)})):=by
 obtain⟨sp,tv,pv,bv,rv,fv,D,L⟩:=v
 have hrd:wS cp c ⟨sp,tv,pv,bv,rv,fv,D,L⟩ w:=hw.Cv (Pp.refl _)
 obtain⟨p,cc,e,hcp,hmx,hgg⟩:=aw hrd.o
 dsimp only at e
 subst e
 obtain⟨g,rfl,-⟩:=hgg h0
 have hone:=xj c.fs fv (hg.one hrd.l)
 obtain⟨q1,d1,q2,d2,hx⟩:=(hrd.l _ (hg.fr (c.fs.length - 1) Pc)).gx
 have hc5:∀j,j<5→(er c.fs fv)[0+(c.fs.length - 1)*5+j]?=(iB (ix c.fs (c.fs.length - 1)) (ix fv (c.fs.length - 1)))[j]?:=fun j hj=>by rw[Pm];exact mF c.fs fv (c.fs.length - 1) j hg.len Pc hj
 dsimp only at hx hc5 ⊢
 rw[hx]at hc5 ⊢
 rw[show c.top=ix c.fs (c.fs.length - 1)from rfl]
 generalize ix c.fs (c.fs.length - 1)=f at*
 dsimp only[iB]at hc5 ⊢
 have e1:(c.fs.length:Int) - 1=((c.fs.length - 1:Nat):Int):=by omega
 refine ae (l:=[_]) func86 rfl ntmps86 rfl (Ok.dk hw) ?_
 generalize hS:Mb (aT cp c ⟨sp,tv,pv,.slice (some ⟨g,0,none⟩) c.fs.length cc,rv,fv,D,L⟩)=S0
 dsimp only[aT,aX,Pj,Pi]
 repeat'(first|refine ar ?_|(refine aa.ed (t:=su) ?_;refine aa.alloc (t:=su) [.int .i64 0,.slice none 0 0,.slice none 0 0,.bool false,.bool false] rfl rfl rfl fun b_=>?_)|fail)
 rw[e1]
 repeat'(first|refine ar ?_|(refine aa.eM ?_;refine aa.y_ (Yl.idx (i:=c.fs.length - 1) rfl rfl rfl rfl rfl Pc Pc) rfl ?_)|(refine aa.dn ?_;refine aa.y_ (Yl.H9 rfl rfl rfl Pe Pe hc5 bO) rfl ?_)|(refine aa.ed (t:=su) ?_;refine aa.alloc (t:=su) [.int .i64 0,.slice none 0 0,.slice none 0 0,.bool false,.bool false] rfl rfl rfl fun b_=>?_)|fail)
 refine aa.he (HE.Ku (s:=5) (len:=c.fs.length - 1) rfl rfl rfl Pe rfl Pe Pc (fun _ _=>Po _)) rfl ?_
 intro g3 _
 repeat'(first|refine ar ?_|fail)
 refine aa.he (HE.IQ rfl rfl aH aH Pc rfl rfl rfl Pe hone) rfl ?_
 rintro⟨⟩ _
 rw[tB _ _ _ hg.len]
 repeat'(first|refine ar ?_|fail)
 exact ah.bB (.inl rfl) rfl rfl rfl rfl rfl aH rfl fun w' hw'=>aC.qF (x:=Value.slice (some ⟨g3,0,none⟩) (c.fs.length - 1) (c.fs.length - 1)) trivial hS hw' (by dsimp only[aT,aX,Pj,Pi];rw[Ps,Nat.min_eq_left Pc];exact dU) ak
abbrev Is:Nat:=61
theorem eH {w:World} {B T:Nat} {v:Value} {xs:List Int} (h:w.ownsRow B T 1 v xs.length (aZ xs)) (hl:xs.length≤17592186044416):ai (fun k=>v.ownBlock=some k) w v xs:=by
 obtain⟨p,c,rfl,hn,hc,hg⟩:=aw h
 refine⟨p,c,rfl,hl,?_⟩
 by_cases h0:xs.length=0
 ·exact wl
 ·obtain⟨g,rfl,-⟩:=hg Pc
  exact .inr ⟨g,0,rfl,rfl,fun i hi=>dO h (oR hi)⟩
theorem Ok.swap {q q':bu} {M M':List bu} {R:List (World→Prop)} {w:World} (h:Ok M R w) (hM:Up q q' M M') (hF:∀k,q'.F k→q.F k) (hP:q.P w→q'.P w):Ok M' R w:=
 h.qd hM (bX.refl _ w) (hP (h.m _ hM.mem).1) fun k hk=>⟨(h.m _ hM.mem).2 k (hF k hk),fun _=>hF k hk⟩
theorem aC.J7 {w w':World} {tf:β→Value} {φ:β→Prop} {M1:β→List bu} (x:β) (hφ:φ x) (h:Ok M R w') (hM:ko (M1 x) M) (hR:Ext w∈R):aC [] w tf φ M1 (.returned (tf x)) w':=by
 obtain⟨M2,hp⟩:=hM.perm
 exact aC.tP x hφ (h.perm hp) (List.sublist_append_left _ _) hR
theorem EX (D0:Nat→Prop) (results:List Int) (v:Value) (w:World) (hI:ai D0 w v results):Calls G.P 31 #[v] w (aC [] w (fun y:Nat×jI=>.pointer (some ⟨y.1,0,none⟩)) (fun y=>y.2.Good (jR results)) (fun y=>aT y.1 (jR results) y.2)):=by
 obtain⟨p,cc,rfl,hl⟩:=hI.slice
 refine ae (l:=[_]) func31 rfl ntmps31 rfl (Ok.start w) ?_
 repeat'(first|refine ar ?_|fail)
 refine aa.he (HE.bJ (M0:=[]) oJ.nil rfl rfl (fun w' hw'=>Ej w')) rfl ?_
 rintro⟨sp,tv,pv⟩ _
 dsimp only[aX,Pj,Pi]
 repeat'(first|refine ar ?_|fail)
 refine aa.he (HE.bJ (M0:=[]) oJ.nil rfl rfl (fun w' hw'=>ew results _ w' (hI.aP (show Ext w w' from hw'.at) (fun _ _ _ h=>h)))) rfl ?_
 intro u _
 dsimp only[Pj,Pi]
 refine aa.pure (φ:=∃p c,u=.slice p results.length c) (fun w' hw'=>?_) ?_
 ·obtain⟨p,c,e,_⟩:=aw (hw'.own (v:=u));exact⟨p,c,e⟩
 rintro⟨p3,c3,rfl⟩
 repeat'(first|refine ar ?_|fail)
 refine aa.box [.pointer (some ⟨sp,0,none⟩),.slice none 0 0,.slice p3 results.length c3,.bool true,.int .i64 0] rfl rfl rfl fun cp=>?_
 repeat'(first|refine ar ?_|fail)
 refine aa.he (HE.bJ (M0:=[.aV sp [tv,pv,.bool (dB ⟨[],[(0,false)],0⟩)] jH,.own 0 fT 1 tv (([]:List Int).length) (aZ []),.own 0 jG 2 pv ([((0:Int),false)].length) (cg [(0,false)])]) dS rfl rfl (fun w' hw'=>vp sp ⟨[],[(0,false)],0⟩ (tv,pv) w' (hw'.dc dU (fun p h=>by cases h)) Pb Pb)) rfl ?_
 rintro⟨tv2,pv2⟩ _
 dsimp only[aX,Pj,Pi]
 repeat'(first|refine ar ?_|fail)
 refine MJ ?_
 intro b6 _
 repeat'(first|refine ar ?_|fail)
 refine ah.aF rfl rfl fun w' hw'=>?_
 have h1:=hw'.swap (q:=.own 0 fT 1 (.slice p3 results.length c3) results.length (aZ results)) (q':=.kr iY iY.fr (fun k=>(Value.slice p3 results.length c3).ownBlock=some k) [(⟨[],results⟩,.slice none 0 0,.slice p3 results.length c3)]) aH (fun k h=>h) (fun h y hy=>by
  rw[List.mem_singleton]at hy;subst hy
  exact⟨ai.cI _ _,eH h hl⟩)
 have h2:=h1.jP (s:=5) (len:=1) aH rfl OY
 refine aC.J7 (x:=(cp,(⟨sp,tv2,pv2,.slice (some ⟨b6,0,none⟩) 1 1,.slice p3 results.length c3,[(.slice none 0 0,.slice p3 results.length c3)],_,[(⟨[],results⟩,.slice none 0 0,.slice p3 results.length c3)]⟩:jI))) ⟨rfl,fun i hi=>?_,PN⟩ h2 (by
  show ko [.aV cp [.pointer (some ⟨sp,0,none⟩),.slice (some ⟨b6,0,none⟩) 1 1,.slice p3 results.length c3,.bool true,.int .i64 0] jd,.aV sp [tv2,pv2,.bool (dB (aW ⟨[],[(0,false)],0⟩))] jH,.own 0 fT 1 tv2 (aW ⟨[],[(0,false)],0⟩).ts.length (aZ (aW ⟨[],[(0,false)],0⟩).ts),.own 0 jG 2 pv2 (aW ⟨[],[(0,false)],0⟩).ps.length (cg (aW ⟨[],[(0,false)],0⟩).ps),.own 0 su 5 (.slice (some ⟨b6,0,none⟩) 1 1) 1 [.int .i64 0,.slice none 0 0,.slice p3 results.length c3,.bool false,.bool true],.kr iY iY.fr _ _] _
  exact dU) ak
 have:i=0:=by simp[jR]at hi;exact hi
 subst this
 exact PN
def aJ (M0:List bu) (cp:Nat) (r:dv×Int) (w:World):Ending→World→Prop:=aC M0 w (fun _:jI=>.int .i64 r.2) (fun v'=>r.2=0→v'.Good r.1) (fun v'=>if r.2=0 then aT cp r.1 v' else[])
theorem aJ.err {M0 M:List bu} {cp:Nat} {r:dv×Int} {w w':World} {S0:Nat→Prop} {R:List (World→Prop)} (e:Int) (hr:r.2=e) (he:e≠0) (hS:Mb M0=S0) (h:Ok M R w') (hR:bX S0 w∈R):aJ M0 cp r w (.returned (.int .i64 e)) w':=by
 subst hr
 exact aC.qF (x:=(⟨0,undef,undef,undef,undef,[],fun _=>False,[]⟩:jI)) (fun h=>absurd h he) hS h (by rw[if_neg he];exact ko.nil) hR
theorem aJ.ok {M0 M:List bu} {cp:Nat} {r:dv×Int} {w w':World} {S0:Nat→Prop} {R:List (World→Prop)} (v':jI) (hr:r.2=0) (hg:v'.Good r.1) (hS:Mb M0=S0) (h:Ok M R w') (hM:ko (aT cp r.1 v') M) (hR:bX S0 w∈R):aJ M0 cp r w (.returned (.int .i64 0)) w':=by
 have:=aC.qF (M0:=M0) (tf:=fun _:jI=>.int .i64 r.2) (φ:=fun v'=>r.2=0→v'.Good r.1) (M1:=fun v'=>if r.2=0 then aT cp r.1 v' else[]) v' (fun _=>hg) hS h (by rw[if_pos hr];exact hM) hR
 unfold aJ
 rw[hr]at this ⊢
 exact this
theorem ko.app (M:List bu):∀M':List bu,ko M (M++M'):=by
 induction M with
 |nil=>exact fun M'=>ko.nil
 |cons q M ih=>exact fun M'=>ko.cons Rm.head (ih M')
theorem iY.cons {D D0:Nat→Prop} {w:World} {L:List (aO×Value×Value)} {f:aO} {x:Value×Value} (h1:iY D w L) (h2:dH f D0 w x):iY (fun k=>D k∨D0 k) w ((f,x)::L):=fun y hy=>by
 rcases Pz.1 hy with rfl|hy
 ·exact dH.mono h2 (fun k h=>.inr h)
 ·exact dH.mono (h1 y hy) (fun k h=>.inl h)
theorem dD:(aK s l).1.ts.length≤s.ts.length:=by
 unfold aK;dsimp only;split
 ·rw[Ps];omega
 ·exact Pr _
theorem dJ {w:World} {b T:Nat} {a:Int} (h:gO w b [.int .i64 a] T):ai (fun k=>k=b) w (.slice (some ⟨b,0,none⟩) 1 1) [a]:=
 ⟨_,1,rfl,by simp,.inr ⟨b,0,rfl,rfl,fun i hi=>by
  have:i=0:=by simp at hi;exact hi
  subst this
  exact h.cell rfl⟩⟩
theorem bh.ng {Q:Exit→Act→World→Prop} {n:Nat} {cd:Code} {E:Env} {q1 q2 q:bu} {M M1 M2:List bu} {R:List (World→Prop)} (h1:Rm q1 M M1) (h2:Rm q2 M1 M2) (hF:∀k,q.F k→q1.F k∨q2.F k) (hP:∀w,q1.P w→q2.P w→q.P w) (h:bh Q n cd E (q::M2) R):bh Q n cd E M R:=
 ⟨fun w hw=>h.h w (((hw.front h1).front (Rm.tail h2)).merge (fun k hk=>(hF k hk).symm) (fun a b=>hP w b a))⟩
theorem E5 (_hb:c.broken=0):my c=if c.fs.length=0∨c.top.kind≠4∨c.top.other=true then(c,16)else if(cP c.ao c.top.res).2≠0 then({c with broken:=(cP c.ao c.top.res).2},(cP c.ao c.top.res).2)else(gW c (cP c.ao c.top.res).1 (c.fs.take (c.fs.length - 1)) {c.top with other:=true},0):=by
 unfold my;rw[if_neg Pc]
theorem mS:(cP s l).1.ts.length≤s.ts.length:=by
 unfold cP;dsimp only;split
 ·exact Pr _
 ·split
  ·exact Pr _
  ·dsimp only;rw[Ps];omega
theorem vj (h:2≤s.ps.length) (h0:(cP s l).2=0):0<(cP s l).1.ps.length∧(cP s l).1.ps.length≤s.ps.length:=by
 have:=h;clear this
 rw[vk h0,if_neg Pc,Ps];omega
theorem jI.Good.pop {v:jI} {c:dv} (h:v.Good c) (s:ck) (tv pv bv:Value) (k:Nat):(jI.mk v.sp tv pv bv v.rv (v.fv.take k) v.D v.L).Good {c with ao:=s,fs:=c.fs.take k}:=by
 have hl:=h.len
 refine⟨by dsimp only;rw[Ps,Ps,hl],fun i hi=>?_,h.rs⟩
 dsimp only at hi ⊢
 have hi2:i<k∧i<c.fs.length:=by rw[Ps]at hi;omega
 rw[cz hi,cz OT,Qf,Qf,←cz hi2.2,←cz (show i<v.fv.length by omega)]
 exact h.fr i hi2.2
theorem Dh (v:jI) (w:World) (hw:Ok (aT cp c v) [] w) (hg:v.Good c) (hb:c.broken=0) (hwf:c.Wf) (_hfl:c.fs.length≤1000) (_hts:(c.ao.ts.length+c.top.par.length)*8≤140737488355328):
  Calls G.P 51 #[.pointer (some ⟨cp,0,none⟩)] w (aJ (aT cp c v) cp (my c) w):=by
 obtain⟨sp,tv,pv,bv,rv,fv,D,L⟩:=v
 have hrd:=hw.Cv (Pp.refl _)
 obtain⟨p,cc,e,hcp,hmx,hgg⟩:=aw hrd.o
 dsimp only at e
 subst e
 unfold maxLen at hmx
 have hat:=hwf.ao.at_
 have hps:=hwf.ao.some
 have hmany:=hwf.many
 rw[E5 c hb]
 refine ae (l:=[_]) func51 rfl ntmps51 rfl (Ok.dk hw) ?_
 by_cases h0:c.fs.length=0
 ·rw[if_pos (.inl h0)]
  generalize hS:Mb (aT cp c ⟨sp,tv,pv,.slice p c.fs.length cc,rv,fv,D,L⟩)=S0
  dsimp only[aT,aX,Pj,Pi]
  repeat'(first|refine ar ?_|refine zX ?_|(refine bC ?_ ?_<;>intro hc_))
  all_goals exact wn
 ·obtain⟨g,rfl,-⟩:=hgg Pc
  have hi:c.fs.length - 1<c.fs.length:=by omega
  have hin:((ix c.fs (c.fs.length - 1)).fn,ix fv (c.fs.length - 1))∈L:=hg.fr _ hi
  obtain⟨q1,d1,q2,d2,hx⟩:=(hrd.l _ hin).gx
  have hc5:∀j,j<5→(er c.fs fv)[0+(c.fs.length - 1)*5+j]?=(iB (ix c.fs (c.fs.length - 1)) (ix fv (c.fs.length - 1)))[j]?:=fun j hj=>by rw[Pm];exact mF c.fs fv (c.fs.length - 1) j hg.len hi hj
  dsimp only at hx hin
  rw[hx]at hc5 hin
  have htop:c.top=ix c.fs (c.fs.length - 1):=rfl
  rw[←htop]at hc5 hin hx
  have hpe:(ix fv (c.fs.length - 1))=(.slice q1 c.top.par.length d1,.slice q2 c.top.res.length d2):=hx
  generalize hf:c.top=f at*
  dsimp only[iB]at hc5
  obtain⟨o5,hoff⟩:∃o5,0+(c.fs.length - 1)*5=o5:=⟨_,rfl⟩
  rw[hoff]at hc5
  have f0:(er c.fs fv)[o5]?=some (.int .i64 f.kind):=hc5 0 Pc
  have f2:(er c.fs fv)[o5+1+1]?=some (.slice q2 f.res.length d2):=hc5 2 Pc
  have f3:(er c.fs fv)[o5+3]?=some (.bool f.other):=hc5 3 Pc
  generalize hS:Mb (aT cp c ⟨sp,tv,pv,.slice (some ⟨g,0,none⟩) c.fs.length cc,rv,fv,D,L⟩)=S0
  dsimp only[aT,aX,Pj,Pi]
  by_cases hk:f.kind≠4∨f.other=true
  ·rw[if_pos (.inr hk)]
   repeat'(first|refine ar ?_|refine zX ?_|(refine aa.eM ?_;refine aa.yg OL (Yl.idx (i:=c.fs.length - 1) rfl rfl rfl rfl rfl Pc Pc) rfl ?_;rw[hoff])|(refine aa.dn ?_;refine aa.yg OL (Yl.jw rfl rfl rfl rfl f0 bO) rfl ?_)|(refine aa.dn ?_;refine aa.yg OL (Yl.jw rfl rfl rfl rfl f3 bO) rfl ?_)|(refine bC ?_ ?_<;>intro hc_))
   all_goals first|omega|skip
   all_goals first|(exfalso;simp_all;done)|skip
   all_goals exact ah.aF rfl rfl fun w' hw'=>aJ.err 16 rfl Pb hS hw' ak
  ·rw[if_neg (by rintro(h|h);exact h0 h;exact hk h)]
   have hk4:f.kind=4:=by omega
   have hot:f.other=false:=by cases hb2:f.other<;>simp_all
   obtain⟨r,hr⟩:∃r,cP c.ao f.res=r:=⟨_,rfl⟩
   obtain⟨s2,e2⟩:=r
   have hs2p:=vj c.ao f.res Pc
   have hs2t:=mS c.ao f.res
   rw[hr]at hs2p hs2t ⊢
   dsimp only at hs2p hs2t ⊢
   repeat'(first|refine ar ?_|refine zX ?_|(refine aa.eM ?_;refine aa.yg OL (Yl.idx (i:=c.fs.length - 1) rfl rfl rfl rfl rfl Pc Pc) rfl ?_;rw[hoff])|(refine aa.dn ?_;refine aa.yg OL (Yl.jw rfl rfl rfl rfl f0 bO) rfl ?_)|(refine aa.dn ?_;refine aa.yg OL (Yl.jw rfl rfl rfl rfl f3 bO) rfl ?_)|(refine bC ?_ ?_<;>intro hc_))
   all_goals first|omega|skip
   refine MY ?_
   repeat'(first|refine pG ?_|(refine aN.qy 10 rfl (Yl.idx (i:=c.fs.length - 1) rfl rfl rfl rfl rfl Pc Pc) ?_;rw[hoff])|refine aN.qy 13 rfl (Yl.jw rfl rfl rfl rfl f2 bO) ?_|(refine ax.dz 85 ?_;refine ax.he rfl rfl (HE.bJ (M0:=[.aV sp [tv,pv,.bool (dB c.ao)] jH,.own 0 fT 1 tv c.ao.ts.length (aZ c.ao.ts),.own 0 jG 2 pv c.ao.ps.length (cg c.ao.ps)]) dS rfl rfl (fun w' hw'=>by have:=vq D sp c.ao (tv,pv) (.slice q2 f.res.length d2) f.res w' ((hw'.nc (q:=.kr iY iY.fr D L) (p:=fun w=>ai D w (.slice q2 f.res.length d2) f.res) jK (fun w' h _=>(h _ hin).2)).dc dU aU) Pc hat.1 hat.2;rw[hr]at this;exact this)) (fun _=>by dsimp only[aX,Pj,Pi];exact bw) (fun _=>aU) ?_;rintro⟨tvb,pvb⟩ _;dsimp only[aX,Pj,Pi])|refine aN.nil O3 ?_|refine aN.any O3 ?_|exact aB.fin rfl|refine aB.skip O3 ?_|refine aB.go ?_ ?_)
   by_cases he2:e2=0
   ·subst he2
    obtain⟨hs2p,hs2q⟩:=hs2p rfl
    rw[if_neg Pb]
    repeat'(first|refine ar ?_|(refine bC ?_ ?_<;>intro hc_))
    refine aa.he (HE.bJ (M0:=[.aV cp [.pointer (some ⟨sp,0,none⟩),.slice (some ⟨g,0,none⟩) c.fs.length cc,rv,.bool c.live,.int .i64 c.broken] jd,.aV sp [tvb,pvb,.bool (dB s2)] jH,.own 0 fT 1 tvb s2.ts.length (aZ s2.ts),.own 0 jG 2 pvb s2.ps.length (cg s2.ps),.own 0 su 5 (.slice (some ⟨g,0,none⟩) c.fs.length cc) c.fs.length (er c.fs fv),.kr iY iY.fr D L]) dS rfl rfl (fun w' hw'=>zy cp {c with ao:=s2} ⟨sp,tvb,pvb,.slice (some ⟨g,0,none⟩) c.fs.length cc,rv,fv,D,L⟩ w' (hw'.dc dU (fun p h=>by cases h)) (hg.mono rfl rfl rfl rfl (fun _ h=>h)) O0 O0)) rfl ?_
    intro bv2 _
    dsimp only[aT,aX,Pj,Pi]
    rw[show dv.top {c with ao:=s2}=f from hf,hpe]
    dsimp only[iB]
    rw[hk4,hot]
    repeat'(first|refine ar ?_|(refine aa.ed (t:=su) ?_;refine aa.alloc (t:=su) [.int .i64 0,.slice none 0 0,.slice none 0 0,.bool false,.bool false] rfl rfl rfl fun b_=>?_)|(refine bC ?_ ?_<;>intro hc_))
    refine aa.he (HE.bJ (M0:=[.aV cp [.pointer (some ⟨sp,0,none⟩),bv2,rv,.bool c.live,.int .i64 c.broken] jd,.aV sp [tvb,pvb,.bool (dB s2)] jH,.own 0 fT 1 tvb s2.ts.length (aZ s2.ts),.own 0 jG 2 pvb s2.ps.length (cg s2.ps),.own 0 su 5 bv2 (c.fs.take (c.fs.length - 1)).length (er (c.fs.take (c.fs.length - 1)) (fv.take (c.fs.length - 1))),.kr iY iY.fr D L]) dS rfl rfl (fun w' hw'=>by
     have:=na cp {c with ao:=s2,fs:=c.fs.take (c.fs.length - 1)} ⟨sp,tvb,pvb,bv2,rv,fv.take (c.fs.length - 1),D,L⟩ {f with other:=true} (.slice q1 f.par.length d1,.slice q2 f.res.length d2) w' (hw'.dc dU (fun p h=>by cases h)) (hg.pop s2 _ _ _ _) hin O0 O0 (by dsimp only;rw[Ps];omega) O0
     dsimp only[iB]at this
     rw[hk4]at this
     exact this)) rfl ?_
    intro y hy
    repeat'(first|refine ar ?_|(refine bC ?_ ?_<;>intro hc_))
    exact Eq
   ·rw[if_pos he2]
    repeat'(first|refine ar ?_|(refine bC ?_ ?_<;>intro hc_))
    refine MZ ?_
    rintro⟨⟩ _
    dsimp only[Pj,Pi]
    repeat'(first|refine ar ?_|(refine bC ?_ ?_<;>intro hc_))
    exact wt
abbrev nR:Nat:=116
theorem dy {ops:Array Oper} {Q:Exit→Act→World→Prop} {n:Nat} {rest:List Oper} {E:Env} {M:List bu} {R:List (World→Prop)} {d:Nat} {ty:TypeId} {pos:String} {aft:Array Edge} (h:∀b:Nat,aa ops Q n rest ((d,.pointer (some ⟨b,0,none⟩))::E) (.aV b [.slice none 0 0,.slice none 0 0,.slice none 0 0,.int .i64 0] nR::M) R) (hd:Nat.blt d n=true:=by rfl):aa ops Q n (⟨some d,.alloc nR,ty,pos,aft,none⟩::rest) E M R:=aa.alloc (t:=nR) [.slice none 0 0,.slice none 0 0,.slice none 0 0,.int .i64 0] rfl rfl hd h
abbrev jo:(Nat→Prop)→World→Value→List Bool→Prop:=gN 1 17592186044416 kM
theorem jo.aP {F S:Nat→Prop} {w w':World} {v:Value} {xs:List Bool} (h:jo F w v xs) (hc:bX S w w') (hd:∀k,k<w.heap.size→F k→¬S k):jo F w' v xs:=gN.aP kM.fr kM.ce h hc hd
theorem jo.mono {F H:Nat→Prop} {w:World} {v:Value} {xs:List Bool} (h:jo F w v xs) (hd:∀k,k<w.heap.size→F k→H k):jo H w v xs:=gN.mono kM.mo kM.ce h hd
structure jV where
 l:Value
 m:Value
 o:Value
def ck.marks (s:ck):List Int:=s.ps.map Prod.fst
def ck.eY (s:ck):List Bool:=s.ps.map Prod.snd
def GA:Value→Prop
 |.slice _ n c=>n≤c
 |_=>False
def bz (s:ck) (D:Nat→Prop) (w:World) (y:jV):Prop:=ai D w y.l s.ts∧ai D w y.m s.marks∧jo D w y.o s.eY∧GA y.l∧GA y.m∧GA y.o
theorem bz.fr:vE (bz s):=fun h hc hd=>⟨h.1.aP hc hd,h.2.1.aP hc hd,jo.aP h.2.2.1 hc hd,h.2.2.2⟩
theorem bz.mono {s:ck} {D H:Nat→Prop} {w:World} {y:jV} (h:bz s D w y) (hd:∀k,D k→H k):bz s H w y:=⟨h.1.mono fun k _=>hd k,h.2.1.mono fun k _=>hd k,jo.mono h.2.2.1 fun k _=>hd k,h.2.2.2⟩
def gw (s:ck) (y:jV):List Value:=[y.l,y.m,y.o,.int .i64 s.bQ]
theorem bz.gx {s:ck} {D:Nat→Prop} {w:World} {y:jV} (h:bz s D w y):∃p1 c1 p2 c2 p3 c3,y=⟨.slice p1 s.ts.length c1,.slice p2 s.ps.length c2,.slice p3 s.ps.length c3⟩∧s.ts.length≤c1∧s.ps.length≤c2∧s.ps.length≤c3:=by
 obtain⟨l,m,o⟩:=y
 obtain⟨p1,c1,e1,-⟩:=h.1.slice
 obtain⟨p2,c2,e2,-⟩:=h.2.1.slice
 obtain⟨p3,c3,e3,-⟩:=gN.slice h.2.2.1
 obtain⟨k1,k2,k3⟩:=h.2.2.2
 dsimp only at e1 e2 e3 k1 k2 k3
 subst e1 e2 e3
 simp only[ck.marks,ck.eY,List.length_map]at k2 k3
 exact⟨p1,c1,p2,c2,p3,c3,by simp[ck.marks,ck.eY],k1,k2,k3⟩
theorem ck.CD (h:0<s.ps.length):ix s.marks (s.ps.length - 1)=s.at_∧ix s.eY (s.ps.length - 1)=s.loose:=by
 have:=h;clear this
 unfold ck.marks ck.eY ck.at_ ck.loose
 exact⟨rm Pc,rm Pc⟩
theorem pX (y:jV) (w:World) (h:bz s D w y) (hp:0<s.ps.length):Calls G.P 150 #[.agg (gw s y).toArray] w fun e w'=>e=.returned (.int .i64 s.at_)∧Ext w w':=by
 obtain⟨p1,c1,p2,c2,p3,c3,rfl,k1,k2,k3⟩:=h.gx
 obtain⟨h1,h2,h3,-⟩:=h
 have hml:s.marks.length=s.ps.length:=by simp[ck.marks]
 dsimp only at h2
 rw[←hml]at h2
 obtain⟨b,o,rfl,-,hc⟩:=h2.at (i:=s.ps.length - 1) Pc
 have hcj:=hc (s.ps.length - 1) Pc
 rw[(s.CD hp).1]at hcj
 have hb:=(h2.slice).choose_spec.choose_spec.2
 rw[hml]at hb
 refine ae (l:=[_]) func150 rfl ntmps150 rfl (Ok.start w) ?_
 repeat'(first|refine ar ?_|(refine aE fun b_=>?_)|(refine aa.eM ?_;refine aa.y_ (Yl.gn (i:=s.ps.length - 1) rfl rfl rfl rfl rfl Pc Pc) rfl ?_)|fail)
 all_goals exact rd
theorem Ai (y:jV) (w:World) (h:bz s D w y) (hp:0<s.ps.length):Calls G.P 151 #[.agg (gw s y).toArray] w fun e w'=>e=.returned (.bool s.loose)∧Ext w w':=by
 obtain⟨p1,c1,p2,c2,p3,c3,rfl,k1,k2,k3⟩:=h.gx
 obtain⟨h1,h2,h3,-⟩:=h
 have hml:s.eY.length=s.ps.length:=by simp[ck.eY]
 dsimp only at h3
 rw[←hml]at h3
 obtain⟨b,o,rfl,-,hc⟩:=gN.at h3 (i:=s.ps.length - 1) Pc
 have hcj:w.cell? ⟨b,o+(s.ps.length - 1)*1,none⟩=some (.bool (ix s.eY (s.ps.length - 1))):=hc (s.ps.length - 1) Pc
 rw[(s.CD hp).2,Nat.mul_one]at hcj
 have hb:=(gN.slice h3).choose_spec.choose_spec.2
 rw[hml]at hb
 refine ae (l:=[_]) func151 rfl ntmps151 rfl (Ok.start w) ?_
 repeat'(first|refine ar ?_|(refine aE fun b_=>?_)|(refine aa.eM ?_;refine aa.y_ (Yl.gn (i:=s.ps.length - 1) rfl rfl rfl rfl rfl Pc Pc) rfl ?_)|fail)
 all_goals exact rd
theorem n9 {B T n:Nat} {v:Value} {cs:List Value} (xs:List Int) (hw:Ok M R w') (hR:Ext w∈R) (hm:bu.own B T 1 v n cs∈M) (hn:n=xs.length) (hcs:cs=aZ xs) (hl:xs.length≤17592186044416):ai (fun k=>F k∨w.heap.size≤k) w' v xs:=by
 subst hn hcs
 have ho:w'.ownsRow B T 1 v xs.length (aZ xs):=(hw.m _ hm).1
 refine(eH ho hl).mono fun k _ hk=>.inr ?_
 rcases PA k w.heap.size with h|h
 ·exact(hw.origin (S:=fun _=>False) hR k ⟨_,hm,hk⟩ h).elim
 ·exact h
theorem ai.kc {xs:List Int} (h:ai F w v xs) (hw:Ok M R w') (hR:Ext w∈R):ai (fun k=>F k∨w.heap.size≤k) w' v xs:=
 (h.aP (show Ext w w' from hw.get hR) (fun _ _ _ h=>h)).mono fun _ _ h=>.inl h
theorem jo.kc {xs:List Bool} (h:jo F w v xs) (hw:Ok M R w') (hR:Ext w∈R):jo (fun k=>F k∨w.heap.size≤k) w' v xs:=
 (jo.aP h (show Ext w w' from hw.get hR) (fun _ _ _ h=>h)).mono fun _ _ h=>.inl h
theorem ai.take {w:World} {p:Option Addr} {n c:Nat} {xs:List Int} (h:ai F w (.slice p n c) xs) (k:Nat) (_hk:k≤xs.length):ai F w (.slice p k c) (xs.take k):=by
 obtain⟨p',c',e,hl,h⟩:=h
 cases e
 have ht:(xs.take k).length=k:=by rw[Ps];omega
 refine⟨p,c,by rw[ht],by omega,?_⟩
 rcases h with h|⟨b,o,rfl,hF,h⟩
 ·exact .inl (by rw[h];simp)
 ·refine .inr ⟨b,o,rfl,hF,fun i hi=>?_⟩
  rw[ht]at hi
  rw[cz Pc,Qf,←cz Pc]
  exact h i Pc
def IC (s:ck) (F:Nat→Prop) (w:World):Ending→World→Prop:=bD (bz s) (fun y=>.agg (gw s y).toArray) F w
section
variable {n:Nat} {E:Env} {C:World→Prop} {x y:Operand} {t t2:TypeId}
theorem Yl.I7 {p q:Int} (hx:ev E x=some (.int .i64 p)) (hy:ev E y=some (.int .i64 q)):Yl G n (.call ⟨.builtin .max,#[x,y],#[t,t2]⟩) E C (.int .i64 (if q>p then q else p)):=
 ⟨fun w _ a ha d ty pos aft gd=>by
  simp[execOp,resolve,invoke,builtin,ha.eval hx,ha.eval hy,run_max_int2]⟩
end
theorem CE (a b:Nat):(if((b:Nat):Int)>((a:Nat):Int)then((b:Nat):Int)else((a:Nat):Int))=((max a b:Nat):Int):=by
 rcases PA a b with h|h
 ·rw[if_pos Pc,Nat.max_eq_right Pc]
 ·rw[if_neg Pc,Nat.max_eq_left h]
theorem HE.yl {op:Op} {E:Env} {M:List bu} {R:List (World→Prop)} {v:Value} (hy:Yl G n op E (Ok M R) v):HE n op E M R (fun _:Unit=>True) (fun _=>v) (fun _=>M) (fun _=>R):=
 ⟨fun w hw=>⟨fun a ha d ty pos aft gd=>by rw[hy.h w hw a ha d ty pos aft gd];exact⟨(),trivial,rfl,hw⟩⟩⟩
theorem kf (F:Nat→Prop) (s:ck) (y:jV) (v:Value) (xs:List Int) (w:World) (h:bz s F w y) (hI:ai F w v xs) (_hb:s.ts.length+xs.length≤17592186044416):Calls G.P 113 #[.agg (gw s y).toArray,v] w (IC (aS s xs) F w):=by
 obtain⟨p1,c1,p2,c2,p3,c3,rfl,k1,k2,k3⟩:=h.gx
 obtain⟨h1,h2,h3,-⟩:=h
 obtain⟨q,d,rfl,hl⟩:=hI.slice
 dsimp only at h1 h2 h3
 refine ae (l:=[_,_]) func113 rfl ntmps113 rfl (Ok.start w) ?_
 dsimp only[gw]
 repeat'(first|refine ar ?_|(refine aE fun b_=>?_)|(refine dy fun b_=>?_)|fail)
 refine aa.iN 0 fT 1 ?_
 refine aa.he (HE.gP (aZ s.ts) rfl rfl (fun _=>aH) (jL h1 ak) O9 rfl rfl rfl Pe Pe Pe (fj _) (by show(0+s.ts.length)*8≤_;omega) Pc (fun _ _=>Po _)) rfl ?_
 intro v1 _
 simp only[Pm,Pi]
 refine aa.pure (φ:=∃p c,v1=.slice p s.ts.length c) (fun w' hw'=>?_) ?_
 ·obtain⟨p,c,e,_⟩:=aw (hw'.own (v:=v1));exact⟨p,c,e⟩
 rintro⟨p4,c4,rfl⟩
 repeat'(first|refine ar ?_|fail)
 refine aa.he (HE.gP (aZ xs) rfl rfl (fun _=>aH) (jL hI ak) O9 rfl rfl rfl Pe Pe Pe (fj _) (by show(s.ts.length+xs.length)*8≤_;omega) Pc (fun _ _=>Po _)) rfl ?_
 intro v2 _
 refine aa.pure (φ:=∃p c,v2=.slice p (s.ts.length+xs.length) c∧s.ts.length+xs.length≤c) (fun w' hw'=>?_) ?_
 ·obtain⟨p,c,e,h,_⟩:=aw (hw'.own (v:=v2));exact⟨p,c,e,h⟩
 rintro⟨p5,c5,rfl,k5⟩
 repeat'(first|refine ar ?_|fail)
 refine aa.he (HE.yl (Yl.I7 rfl rfl)) rfl ?_
 rintro⟨⟩ _
 repeat'(first|refine ar ?_|fail)
 refine ah.bB (.inl rfl) rfl rfl rfl rfl rfl aH rfl fun w' hw'=>⟨⟨(⟨.slice p5 (s.ts.length+xs.length) c5,.slice p2 s.ps.length c2,.slice p3 s.ps.length c3⟩:jV),?_,n9 (s.ts++xs) hw' ak bO Pd O9 O8,h2.kc hw' ak,jo.kc h3 hw' ak,k5,k2,k3⟩,hw'.at⟩
 dsimp only[gw,aS]
 rw[CE]
theorem Fin.uS {fn:Func} {R:Ending→World→Prop} {w:World} {n a T b s t u Tb:Nat} {ti:TI} {E:Env} {cs:List Value} {v y:Value} {e:Exit} (he:e=.ret∨e=.normal) (hr:fn.results=#[.cell a T,.tmp t,.tmp u]) (ha:lk E a=some (.pointer (some ⟨b,0,none⟩))) (hT:G.ty T=some ti) (hag:ti.agg=true) (hsz:ti.size=s) (hb:gO w b cs Tb) (hl:cs.length=s) (hv:lk E t=some v) (hy:lk E u=some y) (hR:R (.returned (.tuple #[.agg cs.toArray,v,y])) w):Fin (bodyPost G.P fn R) n e E w:=
 Fin.qG he (fun ac hac=>by
  have h3:=rI hT hag hsz hb hl
  have g1:ac.tmps[a]?.getD undef=.pointer (some ⟨b,0,none⟩):=by have:=(hac.eq a _ ha).2;simpa using this
  have g2:ac.tmps[t]?.getD undef=v:=by have:=(hac.eq t _ hv).2;simpa using this
  have g3:ac.tmps[u]?.getD undef=y:=by have:=(hac.eq u _ hy).2;simpa using this
  simp[results,hr,g1,g2,g3,asAddr,h3]) hR
theorem ah.uS {fn:Func} {Rp:Ending→World→Prop} {n:Nat} {E:Env} {M M':List bu} {R:List (World→Prop)} {v y:Value} {e:Exit} {a T Tb b s t u:Nat} {ti:TI} {cs:List Value} (he:e=.ret∨e=.normal) (hr:fn.results=#[.cell a T,.tmp t,.tmp u]) (ha:lk E a=some (.pointer (some ⟨b,0,none⟩))) (hT:G.ty T=some ti) (hag:ti.agg=true) (hsz:ti.size=s) (hM:Up (.aV b cs Tb) (.aV b cs Tb) M M') (hl:cs.length=s) (hv:lk E t=some v) (hy:lk E u=some y) (hR:∀w,Ok M R w→Rp (.returned (.tuple #[.agg cs.toArray,v,y])) w):ah (bodyPost G.P fn Rp) n e E M R:=
 ⟨fun w hw=>Fin.uS he hr ha hT hag hsz (hw.m _ hM.mem).1 hl hv hy (hR w hw)⟩
theorem kJ (F:Nat→Prop) (s:ck) (y:jV) (w:World) (h:bz s F w y) (hp:0<s.ps.length) (_h0:0≤s.at_):Calls G.P 121 #[.agg (gw s y).toArray] w (bD (bz (aY s).1) (fun y=>.tuple #[.agg (gw (aY s).1 y).toArray,.int .i64 (aY s).2.1,.int .i64 (aY s).2.2]) F w):=by
 have hh:=h
 obtain⟨p1,c1,p2,c2,p3,c3,rfl,k1,k2,k3⟩:=h.gx
 obtain⟨h1,h2,h3,-⟩:=h
 dsimp only at h1 h2 h3
 obtain⟨_,_,_,hl1⟩:=h1.slice
 have hmk:∀w',Ext w w'→Calls G.P 150 #[.agg #[.slice p1 s.ts.length c1,.slice p2 s.ps.length c2,.slice p3 s.ps.length c3,.int .i64 s.bQ]] w' fun e w2=>e=.returned (.int .i64 s.at_)∧Ext w' w2:=fun w' hx=>pX F s ⟨.slice p1 s.ts.length c1,.slice p2 s.ps.length c2,.slice p3 s.ps.length c3⟩ w' (bz.fr s hh hx (fun _ _ _ h=>h)) hp
 have hlo:∀w',Ext w w'→Calls G.P 151 #[.agg #[.slice p1 s.ts.length c1,.slice p2 s.ps.length c2,.slice p3 s.ps.length c3,.int .i64 s.bQ]] w' fun e w2=>e=.returned (.bool s.loose)∧Ext w' w2:=fun w' hx=>Ai F s ⟨.slice p1 s.ts.length c1,.slice p2 s.ps.length c2,.slice p3 s.ps.length c3⟩ w' (bz.fr s hh hx (fun _ _ _ h=>h)) hp
 by_cases hlt:s.at_<s.ts.length
 ·rw[show aY s=({s with ts:=s.ts.take (s.ts.length - 1)},ix s.ts (s.ts.length - 1),0)from if_pos hlt]
  obtain⟨b,o,rfl,-,hc⟩:=h1.at (i:=s.ts.length - 1) Pc
  have hcj:=hc (s.ts.length - 1) Pc
  have hcc:=(h1.slice)
  refine ae (l:=[_]) func121 rfl ntmps121 rfl (Ok.start w) ?_
  dsimp only[gw]
  repeat'(first|refine ar ?_|(refine aE fun b_=>?_)|(refine dy fun b_=>?_)|refine Og ?_|(refine aa.eM ?_;refine aa.y_ (Yl.gn (i:=s.ts.length - 1) rfl rfl rfl rfl rfl Pc Pc) rfl ?_)|(refine aa.y_ (Yl.cZ (i:=s.ts.length - 1) rfl rfl rfl rfl rfl Pc Pc) rfl ?_)|fail)
  all_goals exact ah.uS (.inl rfl) rfl rfl rfl rfl rfl aH rfl rfl rfl fun w' hw'=>⟨⟨(⟨.slice (some ⟨b,o,none⟩) (s.ts.length - 1) c1,.slice p2 s.ps.length c2,.slice p3 s.ps.length c3⟩:jV),rfl,(h1.take (s.ts.length - 1) Pc).kc hw' ak,h2.kc hw' ak,jo.kc h3 hw' ak,(by show s.ts.length - 1≤c1;omega),k2,k3⟩,hw'.at⟩
 ·have e:aY s=if s.loose=true then(s,0,0)else(s,0,13):=if_neg hlt
  rw[e]
  obtain⟨lo,hl⟩:∃b,s.loose=b:=⟨_,rfl⟩
  rw[hl]at hlo ⊢
  cases lo with
  |true=>
   rw[if_pos rfl]
   refine ae (l:=[_]) func121 rfl ntmps121 rfl (Ok.start w) ?_
   dsimp only[gw]
   repeat'(first|refine ar ?_|(refine aE fun b_=>?_)|(refine dy fun b_=>?_)|refine Og ?_|(refine aa.aj (f:=151) ?_;refine aa.au rfl rfl rfl (fun w' hw'=>hlo w' hw'.at) ?_)|fail)
   all_goals first|omega|skip
   refine MN ?_
   exact Fd
  |false=>
   rw[if_neg Pb]
   refine ae (l:=[_]) func121 rfl ntmps121 rfl (Ok.start w) ?_
   dsimp only[gw]
   repeat'(first|refine ar ?_|(refine aE fun b_=>?_)|(refine dy fun b_=>?_)|refine Og ?_|(refine aa.aj (f:=151) ?_;refine aa.au rfl rfl rfl (fun w' hw'=>hlo w' hw'.at) ?_)|fail)
   all_goals first|omega|skip
   refine MN ?_
   exact Fd
end Go.Proofs.YtdkcljdfbemnbaaGreatDoor
