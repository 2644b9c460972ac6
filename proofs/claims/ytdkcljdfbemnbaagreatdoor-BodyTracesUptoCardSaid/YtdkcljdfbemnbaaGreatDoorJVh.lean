import Derived.Test.YtdkcljdfbemnbaaGreatDoorJWn
import Derived.Test.YtdkcljdfbemnbaaGreatDoorJEn
namespace Go.Proofs.YtdkcljdfbemnbaaGreatDoor
open Go.RowKit _root_.Go.Proofs.Tryz
set_option maxHeartbeats 32000000
open List renaming cons_append→Pq,getElem?_eq_some_iff→PR,getElem?_map→PQ,length_append→Py,length_map→PV,length_take→Pz,map_append→P1,map_take→Qe,mem_append→PI,mem_singleton→PO,nil_append→Pp,take_length→PA
open Nat renaming blt→Pt,le_refl→Px,lt_or_ge→PG,zero_add→Ps,zero_le→Pu
set_option maxRecDepth 100000
def qC (l:List Bool):List Value:=l.map Value.bool
abbrev Kr:Nat:=4
abbrev JO:Nat:=3
variable (p1:Option Addr) (D:Nat→Prop) {s:ck} {ops:Array Oper} {z:Nat} {l:List Oper} {Q:Exit→Act→World→Prop} {Mc:List bu} {Rc:List (World→Prop)} {F:Nat→Prop} {w:World} {p:Option Addr} {n c:Nat} {xs:List Bool} {M:List bu} {R:List (World→Prop)}
theorem G4 {B T:Nat} {v:Value} {xs:List Bool} (h:w.ownsRow B T 1 v xs.length (qC xs)) (hl:xs.length≤17592186044416):jn (fun k=>v.ownBlock=some k) w v xs:=by
 obtain⟨p,c,rfl,hn,hc,hg⟩:=aw h
 refine⟨p,c,rfl,hl,?_⟩
 by_cases h0:xs.length=0
 ·exact t7
 ·obtain⟨g,rfl,-⟩:=hg Pi
  refine .inr ⟨g,0,rfl,rfl,fun i hi=>?_⟩
  show w.cell? ⟨g,0+i*1,none⟩=some (.bool (ix xs i))
  rw[Nat.mul_one,Ps]
  exact dP h (by unfold qC;rw[PQ,iz hi];rfl)
theorem xX {w w':World} {M:List bu} {R:List (World→Prop)} {B T n:Nat} {v:Value} {cs:List Value} (xs:List Bool) (hw:Ok M R w') (hR:Ext w∈R) (hm:bu.own B T 1 v n cs∈M) (hn:n=xs.length) (hcs:cs=qC xs) (hl:xs.length≤17592186044416):jn (fun k=>F k∨w.heap.size≤k) w' v xs:=by
 subst hn hcs
 have ho:w'.ownsRow B T 1 v xs.length (qC xs):=(hw.m _ hm).1
 refine jn.mono (G4 ho hl) fun k _ hk=>.inr ?_
 rcases PG k w.heap.size with h|h
 ·exact(hw.origin (S:=fun _=>False) hR k ⟨_,hm,hk⟩ h).elim
 ·exact h
theorem ET (h:jn F w (.slice p n c) xs) (hR:Ext w∈R):xs.length=0∨∃bk o,p=some ⟨bk,o,none⟩∧∀w',Ok M R w'→∀j u,(qC xs)[j]?=some u→w'.cell? ⟨bk,o+j,none⟩=some u:=by
 obtain⟨p',c',e,hl,h⟩:=h
 cases e
 rcases h with h|⟨b,o,rfl,hF,h⟩
 ·exact .inl (by rw[h];rfl)
 ·refine .inr ⟨b,o,rfl,fun w' hw' j u hj=>?_⟩
  have hj':j<xs.length:=by have:=(PR.1 hj).1;simpa[qC]using this
  have h1:w.cell? ⟨b,o+j*1,none⟩=some (.bool (ix xs j)):=h j hj'
  rw[Nat.mul_one]at h1
  refine(show Ext w w' from hw'.at hR).cell ?_
  rw[h1,←hj];unfold qC;rw[PQ,iz hj'];rfl
theorem jn.take (h:jn F w (.slice p n c) xs) (k:Nat) (_hk:k≤xs.length):jn F w (.slice p k c) (xs.take k):=by
 obtain⟨p',c',e,hl,h⟩:=h
 cases e
 have ht:(xs.take k).length=k:=by rw[Pz];omega
 refine⟨p,c,by rw[ht],by omega,?_⟩
 rcases h with h|⟨b,o,rfl,hF,h⟩
 ·exact .inl (by rw[h];simp)
 ·refine .inr ⟨b,o,rfl,hF,fun i hi=>?_⟩
  rw[ht]at hi
  rw[cz Pi,List.getElem_take,←cz Pi]
  exact h i Pi
theorem Cv (xs:List Bool):∀u∈qC xs,u.oneCell'=true:=by
 intro u hu;obtain⟨a,_,rfl⟩:=List.mem_map.1 hu;rfl
theorem rN {xs ys:List Int} {j:Nat} (hx:j<xs.length) (hy:j<ys.length) (h:xs.take j=ys.take j):xs.take (j+1)=ys.take (j+1)↔ix xs j=ix ys j:=by
 rw[bN hx,bN hy,h]
 constructor
 ·intro h;simpa using h
 ·intro h;rw[h]
theorem qe (F F':Nat→Prop) (xs ys:List Int) (v u:Value) (w:World) (h:ai F w v xs) (h':ai F' w u ys):Calls G.P 16 #[v,u] w fun e w'=>e=.returned (.bool (decide (xs=ys)))∧Ext w w':=by
 obtain⟨p,c,rfl,hl⟩:=h.slice
 obtain⟨q,d,rfl,hl'⟩:=h'.slice
 refine ae (l:=[_,_]) func16 rfl ntmps16 rfl (Ok.start w) ?_
 by_cases hlen:xs.length=ys.length
 ·repeat'(first|refine ar ?_|fail)
  refine Mm ?_
  rintro j ⟨hj,heq⟩
  by_cases hjl:j<xs.length
  ·obtain⟨b7,o7,rfl,-,hc⟩:=h.at hjl
   obtain⟨b8,o8,rfl,-,hc'⟩:=h'.at (show j<ys.length by omega)
   have hcj:=hc j hjl
   have hcj':=hc' j Pi
   have hst:=rN hjl (show j<ys.length by omega) heq
   by_cases he:ix xs j=ix ys j
   ·repeat'(first|refine ar ?_|fail)
    all_goals exact bi
   ·repeat'(first|refine ar ?_|fail)
    all_goals exact ci
  ·obtain rfl:j=xs.length:=by omega
   rw[PA,hlen,PA]at heq
   repeat'(first|refine ar ?_|fail)
   all_goals exact dl
 ·repeat'(first|refine ar ?_|fail)
  all_goals exact f8
theorem Ec (w:World):Calls G.P 62 #[] w (IL ⟨[],[(0,false)],0⟩ (fun _=>False) w):=by
 refine ae (l:=[]) func62 rfl ntmps62 rfl (Ok.start w) ?_
 repeat'(first|refine ar ?_|(refine dy fun b_=>?_)|fail)
 refine MR ?_
 intro b1 _
 repeat'(first|refine ar ?_|fail)
 refine MR ?_
 intro b2 _
 refine aa.jN (b:=b2) 1 aH rfl O4 ?_
 refine aa.jN (b:=b1) 1 aH rfl O4 ?_
 repeat'(first|refine ar ?_|fail)
 refine MT ?_
 intro w' hw'
 have g1:ai (fun k=>(fun _=>False) k∨w.heap.size≤k) w' (.slice (some ⟨b1,0,none⟩) 1 1) [0]:=ou (n:=1) (cs:=[.int .i64 0]) [0] hw' ak bO rfl rfl Pj
 have g2:jn (fun k=>(fun _=>False) k∨w.heap.size≤k) w' (.slice (some ⟨b2,0,none⟩) 1 1) [false]:=xX (n:=1) (cs:=[.bool false]) [false] hw' ak bO rfl rfl Pj
 exact⟨⟨(⟨.slice none 0 0,.slice (some ⟨b1,0,none⟩) 1 1,.slice (some ⟨b2,0,none⟩) 1 1⟩:jT),rfl,ai.cH _ _,g1,g2,Px _,Px _,Px _⟩,hw'.at⟩
theorem Bu (s:ck):(aV s).marks=s.marks++[(s.ts.length:Int)]∧(aV s).eZ=s.eZ++[false]:=by unfold ck.marks ck.eZ aV;simp
theorem ns (F:Nat→Prop) (s:ck) (y:jT) (w:World) (h:bw s F w y) (_hpl:s.ps.length≤1000000):Calls G.P 61 #[.agg (gw s y).toArray] w (IL (aV s) F w):=by
 obtain⟨p1,c1,p2,c2,p3,c3,rfl,k1,k2,k3⟩:=h.gx
 obtain⟨h1,h2,h3,-⟩:=h
 have hml:s.marks.length=s.ps.length:=by simp[ck.marks]
 have hol:s.eZ.length=s.ps.length:=by simp[ck.eZ]
 dsimp only at h1 h2 h3
 have h2':=h2
 have h3':=h3
 refine ae (l:=[_]) func61 rfl ntmps61 rfl (Ok.start w) ?_
 dsimp only[gw]
 repeat'(first|refine ar ?_|(refine aF fun b_=>?_)|(refine dy fun b_=>?_)|fail)
 refine aa.iP 0 JO 1 ?_
 refine aa.he (HE.gR (aY s.marks) rfl rfl (fun _=>aH) (hml ▸ jJ h2 ak) (by simp[aY,hml]) rfl rfl rfl Pk Pk Pk (fj _) (by show(0+s.ps.length)*8≤_;omega) Pi (fun _ _=>Pu _)) rfl ?_
 intro v1 _
 simp only[Ps,Pp]
 refine aa.pure (φ:=∃p c,v1=.slice p s.ps.length c) (fun w' hw'=>?_) ?_
 ·obtain⟨p,c,e,_⟩:=aw (hw'.own (v:=v1));exact⟨p,c,e⟩
 rintro⟨p4,c4,rfl⟩
 repeat'(first|refine ar ?_|fail)
 refine MR ?_
 intro b1 _
 repeat'(first|refine ar ?_|fail)
 refine MM ?_
 intro v2 _
 refine aa.pure (φ:=∃p c,v2=.slice p (s.ps.length+1) c∧s.ps.length+1≤c) (fun w' hw'=>?_) ?_
 ·obtain⟨p,c,e,h,_⟩:=aw (hw'.own (v:=v2));exact⟨p,c,e,h⟩
 rintro⟨p5,c5,rfl,k5⟩
 repeat'(first|refine ar ?_|fail)
 refine aa.iP 0 Kr 1 ?_
 refine aa.he (HE.gR (qC s.eZ) rfl rfl (fun _=>aH) (hol ▸ ET h3 ak) (by simp[qC,hol]) rfl rfl rfl Pk Pk Pk (Cv _) (by show(0+s.ps.length)*1≤_;omega) Pi (fun _ _=>Pu _)) rfl ?_
 intro v3 _
 simp only[Ps,Pp]
 refine aa.pure (φ:=∃p c,v3=.slice p s.ps.length c) (fun w' hw'=>?_) ?_
 ·obtain⟨p,c,e,_⟩:=aw (hw'.own (v:=v3));exact⟨p,c,e⟩
 rintro⟨p6,c6,rfl⟩
 repeat'(first|refine ar ?_|fail)
 refine MR ?_
 intro b2 _
 repeat'(first|refine ar ?_|fail)
 refine MM ?_
 intro v4 _
 refine aa.pure (φ:=∃p c,v4=.slice p (s.ps.length+1) c∧s.ps.length+1≤c) (fun w' hw'=>?_) ?_
 ·obtain⟨p,c,e,h,_⟩:=aw (hw'.own (v:=v4));exact⟨p,c,e,h⟩
 rintro⟨p7,c7,rfl,k7⟩
 repeat'(first|refine ar ?_|fail)
 obtain⟨em,eo⟩:=Bu s
 refine MT ?_
 intro w' hw'
 have g1:ai (fun k=>F k∨w.heap.size≤k) w' (.slice p5 (s.ps.length+1) c5) (aV s).marks:=by rw[em];exact ou _ hw' ak bO (by simp[hml]) Pg (by simp[hml];omega)
 have g2:jn (fun k=>F k∨w.heap.size≤k) w' (.slice p7 (s.ps.length+1) c7) (aV s).eZ:=by rw[eo];exact xX _ hw' ak bO (by simp[hol]) (by simp[qC]) (by simp[hol];omega)
 exact⟨⟨(⟨.slice p1 s.ts.length c1,.slice p5 (s.ps.length+1) c5,.slice p7 (s.ps.length+1) c7⟩:jT),rfl,h1.ka hw' ak,g1,g2,k1,k5,k7⟩,hw'.at⟩
theorem zU (s:ck) (hp:0<s.ps.length):(dG s).marks=s.marks∧(dG s).eZ=s.eZ.take (s.ps.length - 1)++[true]:=by
 unfold dG ck.marks ck.eZ ck.at_
 dsimp only
 have hne:s.ps≠[]:=by intro h;rw[h]at hp;exact absurd hp Ph
 have e:s.ps=s.ps.take (s.ps.length - 1)++[ix s.ps (s.ps.length - 1)]:=by
  have h:=bN (xs:=s.ps) (k:=s.ps.length - 1) Pi
  rw[show s.ps.length - 1+1=s.ps.length by omega,PA]at h
  exact h
 have e2:s.ps.set (s.ps.length - 1) ((ix s.ps (s.ps.length - 1)).1,true)=s.ps.take (s.ps.length - 1)++[((ix s.ps (s.ps.length - 1)).1,true)]:=by
  rw[List.set_eq_take_append_cons_drop,if_pos Pi,show s.ps.length - 1+1=s.ps.length by omega,List.drop_length]
 constructor
 ·rw[e2,P1]
  conv=>rhs;rw[e,P1]
  rfl
 ·rw[e2,P1,Qe]
  rfl
theorem Al (F:Nat→Prop) (s:ck) (y:jT) (w:World) (h:bw s F w y) (hp:0<s.ps.length) (_h0:0≤s.at_) (_hle:s.at_≤s.ts.length) (_hpl:s.ps.length≤1000000):Calls G.P 117 #[.agg (gw s y).toArray] w (IL (dG s) F w):=by
 have hh:=h
 obtain⟨p1,c1,p2,c2,p3,c3,rfl,k1,k2,k3⟩:=h.gx
 obtain⟨h1,h2,h3,-⟩:=h
 have hol:s.eZ.length=s.ps.length:=by simp[ck.eZ]
 dsimp only at h1 h2 h3
 obtain⟨_,_,_,hl1⟩:=h1.slice
 have hmk:∀w',Ext w w'→Calls G.P 150 #[.agg #[.slice p1 s.ts.length c1,.slice p2 s.ps.length c2,.slice p3 s.ps.length c3,.int .i64 s.bR]] w' fun e w2=>e=.returned (.int .i64 s.at_)∧Ext w' w2:=fun w' hx=>qd F s ⟨.slice p1 s.ts.length c1,.slice p2 s.ps.length c2,.slice p3 s.ps.length c3⟩ w' (bw.fr s hh hx (fun _ _ _ h=>h)) hp
 obtain⟨k,hk⟩:∃k:Nat,s.at_=k:=⟨s.at_.toNat,by omega⟩
 rw[hk]at hmk
 refine ae (l:=[_]) func117 rfl ntmps117 rfl (Ok.start w) ?_
 dsimp only[gw]
 refine ar ?_
 refine aa.box [.slice p1 s.ts.length c1,.slice p2 s.ps.length c2,.slice p3 s.ps.length c3,.int .i64 s.bR] rfl rfl rfl fun b1=>?_
 repeat'(first|refine ar ?_|(refine dy fun b_=>?_)|fail)
 refine bh.iB 6 [.aW b1 [.slice p1 s.ts.length c1,.slice p2 s.ps.length c2,.slice p3 s.ps.length c3,.int .i64 s.bR] nZ] [Ext w] bz aU ?_
 repeat'(first|refine CZ ?_|(refine bA.dA 150 ?_;refine bA.he rfl rfl (HE.eU rfl rfl (fun w' hw'=>hmk w' (hw'.get (p:=Ext w) ak))) (fun _=>bz) (fun _=>aU) ?_;rintro⟨⟩ _)|(refine bA.iO rfl (gj.gz rfl rfl rfl rfl rfl aH pn) ?_;rintro⟨⟩ _)|refine db.any O9 ?_|exact cw.fin rfl|refine cw.skip O9 ?_|refine cw.go ?_ ?_)
 repeat'(first|refine ar ?_|(refine aa.y_ (Yl.cZ (i:=s.ps.length - 1) rfl rfl rfl rfl rfl Pi Pi) rfl ?_)|fail)
 refine aa.iP 0 Kr 1 ?_
 have ho2:(s.eZ.take (s.ps.length - 1)).length=s.ps.length - 1:=by rw[Pz,hol];omega
 refine aa.he (HE.gR (qC (s.eZ.take (s.ps.length - 1))) rfl rfl (fun _=>aH) ((ET (jn.take h3 (s.ps.length - 1) Pi) ak).imp_left fun h=>by omega) (by simp[qC,hol]) rfl rfl rfl Pk Pk Pk (Cv _) (by show(0+(s.ps.length - 1))*1≤_;omega) Pi (fun _ _=>Pu _)) rfl ?_
 intro v3 _
 simp only[Ps,Pp]
 refine aa.pure (φ:=∃p c,v3=.slice p (s.ps.length - 1) c) (fun w' hw'=>?_) ?_
 ·obtain⟨p,c,e,_⟩:=aw (hw'.own (v:=v3));exact⟨p,c,e⟩
 rintro⟨p6,c6,rfl⟩
 repeat'(first|refine ar ?_|fail)
 refine MR ?_
 intro b2 _
 repeat'(first|refine ar ?_|fail)
 refine MM ?_
 intro v4 _
 refine aa.pure (φ:=∃p c,v4=.slice p (s.ps.length - 1+1) c∧s.ps.length - 1+1≤c) (fun w' hw'=>?_) ?_
 ·obtain⟨p,c,e,h,_⟩:=aw (hw'.own (v:=v4));exact⟨p,c,e,h⟩
 rintro⟨p7,c7,rfl,k7⟩
 repeat'(first|refine ar ?_|fail)
 obtain⟨em,eo⟩:=zU s hp
 refine MT ?_
 intro w' hw'
 have g2:jn (fun k=>F k∨w.heap.size≤k) w' (.slice p7 (s.ps.length - 1+1) c7) (dG s).eZ:=by rw[eo];exact xX _ hw' ak bO (by rw[Py,ho2];rfl) (by simp[qC]) (by rw[Py,ho2];simp;omega)
 have g1:ai (fun k=>F k∨w.heap.size≤k) w' (.slice p1 k c1) (s.ts.take k):=(h1.take k Pi).ka hw' ak
 have g3:ai (fun k=>F k∨w.heap.size≤k) w' (.slice p2 s.ps.length c2) (dG s).marks:=by rw[em];exact h2.ka hw' ak
 refine⟨⟨(⟨.slice p1 k c1,.slice p2 s.ps.length c2,.slice p7 (s.ps.length - 1+1) c7⟩:jT),rfl,?_,g3,g2,(by show k≤c1;omega),k2,k7⟩,hw'.at⟩
 unfold dG;dsimp only;rw[hk];exact g1
theorem Ci (F F':Nat→Prop) (xs ys:List Int) (v u:Value) (w:World) (h:ai F w v xs) (h':ai F' w u ys):Calls G.P 132 #[v,u] w fun e w'=>e=.returned (.bool (decide (xs=ys)))∧Ext w w':=by
 obtain⟨p,c,rfl,hl⟩:=h.slice
 obtain⟨q,d,rfl,hl'⟩:=h'.slice
 refine ae (l:=[_,_]) func132 rfl ntmps132 rfl (Ok.start w) ?_
 by_cases hlen:xs.length=ys.length
 ·repeat'(first|refine ar ?_|fail)
  refine bh.loop (σ:=Nat) (fun j=>[(0,.slice p xs.length c),(1,.slice q ys.length d),(12,.slice p xs.length c),(13,.int .i64 xs.length),(14,.int .i64 j)]) (fun _=>[]) (fun _=>[Ext w]) (fun j=>j≤xs.length∧xs.take j=ys.take j) (fun j=>xs.length - j) 0 bH bz aU ⟨by omega,by simp⟩ ?_
  rintro j ⟨hj,heq⟩
  by_cases hjl:j<xs.length
  ·obtain⟨b7,o7,rfl,-,hc⟩:=h.at hjl
   obtain⟨b8,o8,rfl,-,hc'⟩:=h'.at (show j<ys.length by omega)
   have hcj:=hc j hjl
   have hcj':=hc' j Pi
   have hst:=rN hjl (show j<ys.length by omega) heq
   by_cases he:ix xs j=ix ys j
   ·repeat'(first|refine ar ?_|fail)
    all_goals exact bi
   ·repeat'(first|refine ar ?_|fail)
    all_goals exact ci
  ·obtain rfl:j=xs.length:=by omega
   rw[PA,hlen,PA]at heq
   repeat'(first|refine ar ?_|fail)
   all_goals exact dl
 ·repeat'(first|refine ar ?_|fail)
  all_goals exact f8
theorem vE (F F':Nat→Prop) (xs ys:List Int) (v u:Value) (w:World) (h:ai F w v xs) (h':ai F' w u ys):Calls G.P 87 #[v,u] w fun e w'=>e=.returned (.bool (decide (xs=ys)))∧Ext w w':=by
 have hs:∀w',Ext w w'→Calls G.P 132 #[v,u] w' fun e w2=>e=.returned (.bool (decide (xs=ys)))∧Ext w' w2:=fun w' hx=>Ci F F' xs ys v u w' (h.aN hx (fun _ _ _ h=>h)) (h'.aN hx (fun _ _ _ h=>h))
 refine ae (l:=[_,_]) func87 rfl ntmps87 rfl (Ok.start w) ?_
 repeat'(first|refine ar ?_|(refine aa.aj (f:=132) ?_;refine aa.av rfl rfl rfl (fun w' hw'=>hs w' hw'.at) ?_)|fail)
 all_goals exact gt
theorem DF (c:dv) (_hb:c.broken=0):kb c=if c.fs.length=0 then(c,16)else if(cQ c.ao c.top.res).2≠0 then({c with broken:=(cQ c.ao c.top.res).2},(cQ c.ao c.top.res).2)else if c.top.kind=4∧c.top.other=false∧c.top.par≠c.top.res then({c with ao:=(cQ c.ao c.top.res).1,fs:=c.fs.take (c.fs.length - 1),broken:=12},12)else({c with ao:=aS (cQ c.ao c.top.res).1 c.top.res,fs:=c.fs.take (c.fs.length - 1),live:=c.top.lq},0):=by
 unfold kb;rw[if_neg Pi]
theorem Be (cp:Nat) (c:dv) (v:jF) (w:World) (hw:Ok (aT cp c v) [] w) (hg:v.Good c) (hb:c.broken=0) (hwf:c.Wf) (_hfl:c.fs.length≤1000) (_hts:(c.ao.ts.length+c.top.res.length)*8≤140737488355328):
  Calls G.P 52 #[.pointer (some ⟨cp,0,none⟩)] w (aK (aT cp c v) cp (kb c) w):=by
 obtain⟨sp,tv,pv,bv,rv,fv,D,L⟩:=v
 have hrd:=hw.Cy (List.Sublist.refl _)
 obtain⟨p,cc,e,hcp,hmx,hgg⟩:=aw hrd.o
 dsimp only at e
 subst e
 unfold maxLen at hmx
 have hat:=hwf.ao.at_
 have hps:=hwf.ao.some
 have hmany:=hwf.many
 rw[DF c hb]
 refine ae (l:=[_]) func52 rfl ntmps52 rfl (Ok.dk hw) ?_
 by_cases h0:c.fs.length=0
 ·rw[if_pos h0]
  generalize hS:Mb (aT cp c ⟨sp,tv,pv,.slice p c.fs.length cc,rv,fv,D,L⟩)=S0
  dsimp only[aT,aX,Pq,Pp]
  repeat'(first|refine ar ?_|refine N7 ?_|fail)
  all_goals exact ne
 ·rw[if_neg h0]
  obtain⟨g,rfl,-⟩:=hgg Pi
  have hi:c.fs.length - 1<c.fs.length:=by omega
  have hin:((ix c.fs (c.fs.length - 1)).fn,ix fv (c.fs.length - 1))∈L:=hg.fr _ hi
  obtain⟨q1,d1,q2,d2,hx⟩:=(hrd.l _ hin).gx
  have hc5:∀j,j<5→(eu c.fs fv)[0+(c.fs.length - 1)*5+j]?=(iD (ix c.fs (c.fs.length - 1)) (ix fv (c.fs.length - 1)))[j]?:=fun j hj=>by rw[Ps];exact mI c.fs fv (c.fs.length - 1) j hg.len hi hj
  dsimp only at hx hin
  rw[hx]at hc5 hin
  have htop:c.top=ix c.fs (c.fs.length - 1):=rfl
  rw[←htop]at hc5 hin hx
  have hpe:(ix fv (c.fs.length - 1))=(.slice q1 c.top.par.length d1,.slice q2 c.top.res.length d2):=hx
  generalize hf:c.top=f at*
  dsimp only[iD]at hc5
  obtain⟨o5,hoff⟩:∃o5,0+(c.fs.length - 1)*5=o5:=⟨_,rfl⟩
  rw[hoff]at hc5
  have f0:(eu c.fs fv)[o5]?=some (.int .i64 f.kind):=hc5 0 Pi
  have f2:(eu c.fs fv)[o5+1+1]?=some (.slice q2 f.res.length d2):=hc5 2 Pi
  have f3:(eu c.fs fv)[o5+3]?=some (.bool f.other):=hc5 3 Pi
  generalize hS:Mb (aT cp c ⟨sp,tv,pv,.slice (some ⟨g,0,none⟩) c.fs.length cc,rv,fv,D,L⟩)=S0
  dsimp only[aT,aX,Pq,Pp]
  obtain⟨r,hr⟩:∃r,cQ c.ao f.res=r:=⟨_,rfl⟩
  obtain⟨s2,e2⟩:=r
  have hs2p:=vp c.ao f.res Pi
  have hs2t:=mW c.ao f.res
  rw[hr]at hs2p hs2t ⊢
  dsimp only at hs2p hs2t ⊢
  repeat'(first|refine ar ?_|refine N7 ?_|(refine aa.dn ?_;refine aa.yg O8 (Yl.jv rfl rfl rfl rfl f0 bO) rfl ?_)|(refine aa.dn ?_;refine aa.yg O8 (Yl.jv rfl rfl rfl rfl f3 bO) rfl ?_)|fail)
  all_goals first|omega|skip
  refine MA ?_
  repeat'(first|refine pN ?_|(refine aP.qy 10 rfl (Yl.idx (i:=c.fs.length - 1) rfl rfl rfl rfl rfl Pi Pi) ?_;rw[hoff])|refine aP.qy 13 rfl (Yl.jv rfl rfl rfl rfl f2 bO) ?_|(refine ax.dA 85 ?_;refine ax.he rfl rfl (HE.bJ (M0:=[.aW sp [tv,pv,.bool (dB c.ao)] jE,.own 0 fR 1 tv c.ao.ts.length (aY c.ao.ts),.own 0 jD 2 pv c.ao.ps.length (cg c.ao.ps)]) dU rfl rfl (fun w' hw'=>by have:=vx D sp c.ao (tv,pv) (.slice q2 f.res.length d2) f.res w' ((hw'.ni (q:=.kq iZ iZ.fr D L) (p:=fun w=>ai D w (.slice q2 f.res.length d2) f.res) jH (fun w' h _=>(h _ hin).2)).dc dV aU) Pi hat.1 hat.2;rw[hr]at this;exact this)) (fun _=>by dsimp only[aX,Pq,Pp];exact bz) (fun _=>aU) ?_;rintro⟨tvb,pvb⟩ _;dsimp only[aX,Pq,Pp])|refine aP.nil O9 ?_|refine aP.any O9 ?_|exact aB.fin rfl|refine aB.skip O9 ?_|refine aB.go ?_ ?_)
  by_cases he2:e2=0
  ·subst he2
   obtain⟨hs2p,hs2q⟩:=hs2p rfl
   rw[if_neg Ph]
   repeat'(first|refine ar ?_|fail)
   refine aa.he (HE.bJ (M0:=[.aW cp [.pointer (some ⟨sp,0,none⟩),.slice (some ⟨g,0,none⟩) c.fs.length cc,rv,.bool c.live,.int .i64 c.broken] jd,.aW sp [tvb,pvb,.bool (dB s2)] jE,.own 0 fR 1 tvb s2.ts.length (aY s2.ts),.own 0 jD 2 pvb s2.ps.length (cg s2.ps),.own 0 sx 5 (.slice (some ⟨g,0,none⟩) c.fs.length cc) c.fs.length (eu c.fs fv),.kq iZ iZ.fr D L]) dU rfl rfl (fun w' hw'=>zF cp {c with ao:=s2} ⟨sp,tvb,pvb,.slice (some ⟨g,0,none⟩) c.fs.length cc,rv,fv,D,L⟩ w' (hw'.dc dV (fun p h=>by cases h)) (hg.mono rfl rfl rfl rfl (fun _ h=>h)) O6 O6)) rfl ?_
   intro bv2 _
   dsimp only[aT,aX,Pq,Pp]
   rw[show dv.top {c with ao:=s2}=f from hf,hpe]
   dsimp only[iD]
   refine aa.alloc (t:=sx) [.int .i64 0,.slice none 0 0,.slice none 0 0,.bool false,.bool false] rfl rfl rfl fun b6=>?_
   have hsv:∀w',dH f.fn D w' (.slice q1 f.par.length d1,.slice q2 f.res.length d2)→Calls G.P 87 #[.slice q1 f.par.length d1,.slice q2 f.res.length d2] w' fun e w2=>e=.returned (.bool (decide (f.par=f.res)))∧Ext w' w2:=fun w' h=>vE D D f.par f.res _ _ w' h.1 h.2
   by_cases hK:f.kind=4∧f.other=false
   ·obtain⟨hk4,hot⟩:=hK
    by_cases hpr:f.par=f.res
    ·rw[if_neg (by rintro⟨_,_,h⟩;exact h hpr),hk4,hot]
     rw[decide_eq_true hpr]at hsv
     repeat'(first|refine ar ?_|refine N8 ?_|fail)
     refine bh.cI [.aW b6 [.int .i64 4,.slice q1 f.par.length d1,.slice q2 f.res.length d2,.bool false,.bool f.lq] sx,.aW cp [.pointer (some ⟨sp,0,none⟩),bv2,rv,.bool c.live,.int .i64 c.broken] jd] [] bz aU ?_
     repeat'(first|refine pN ?_|(refine ax.dA 88 ?_;refine ax.he rfl rfl (HE.bJ (M0:=[.aW sp [tvb,pvb,.bool (dB s2)] jE,.own 0 fR 1 tvb s2.ts.length (aY s2.ts),.own 0 jD 2 pvb s2.ps.length (cg s2.ps)]) dU rfl rfl (fun w' hw'=>gZ D sp s2 (tvb,pvb) (.slice q2 f.res.length d2) f.res w' ((hw'.ni (q:=.kq iZ iZ.fr D L) (p:=fun w=>ai D w (.slice q2 f.res.length d2) f.res) jH (fun w' h _=>(h _ hin).2)).dc dV aU) hs2p Pi)) (fun _=>by dsimp only[aX,Pq,Pp];exact bz) (fun _=>aU) ?_;rintro⟨tvc,pvc⟩ _;dsimp only[aX,Pq,Pp])|refine aP.nil O9 ?_|refine aP.any O9 ?_|exact aB.fin rfl|refine aB.skip O9 ?_|refine aB.go ?_ ?_)
     repeat'(first|refine ar ?_|fail)
     exact wt
    ·rw[if_pos ⟨hk4,hot,hpr⟩,hk4,hot]
     rw[decide_eq_false hpr]at hsv
     repeat'(first|refine ar ?_|refine N8 ?_|fail)
     refine aa.he (HE.bJ (M0:=[.aW cp [.pointer (some ⟨sp,0,none⟩),bv2,rv,.bool c.live,.int .i64 c.broken] jd]) dU rfl rfl (fun w' hw'=>js cp _ _ _ _ _ 12 w' (hw'.dc dV (fun p h=>by cases h)))) rfl ?_
     rintro⟨⟩ _
     dsimp only[Pq,Pp]
     repeat'(first|refine ar ?_|fail)
     exact ah.aG rfl rfl fun w' hw'=>aK.err 12 rfl Ph hS hw' ak
   ·rw[if_neg (by rintro⟨h1,h2,_⟩;exact hK ⟨h1,h2⟩)]
    by_cases hk4:f.kind=4
    ·have hot:f.other=true:=by cases hb2:f.other<;>simp_all
     rw[hk4,hot]
     repeat'(first|refine ar ?_|refine N8 ?_|fail)
     refine bh.cI [.aW b6 [.int .i64 4,.slice q1 f.par.length d1,.slice q2 f.res.length d2,.bool true,.bool f.lq] sx,.aW cp [.pointer (some ⟨sp,0,none⟩),bv2,rv,.bool c.live,.int .i64 c.broken] jd] [] bz aU ?_
     repeat'(first|refine pN ?_|(refine ax.dA 88 ?_;refine ax.he rfl rfl (HE.bJ (M0:=[.aW sp [tvb,pvb,.bool (dB s2)] jE,.own 0 fR 1 tvb s2.ts.length (aY s2.ts),.own 0 jD 2 pvb s2.ps.length (cg s2.ps)]) dU rfl rfl (fun w' hw'=>gZ D sp s2 (tvb,pvb) (.slice q2 f.res.length d2) f.res w' ((hw'.ni (q:=.kq iZ iZ.fr D L) (p:=fun w=>ai D w (.slice q2 f.res.length d2) f.res) jH (fun w' h _=>(h _ hin).2)).dc dV aU) hs2p Pi)) (fun _=>by dsimp only[aX,Pq,Pp];exact bz) (fun _=>aU) ?_;rintro⟨tvc,pvc⟩ _;dsimp only[aX,Pq,Pp])|refine aP.nil O9 ?_|refine aP.any O9 ?_|exact aB.fin rfl|refine aB.skip O9 ?_|refine aB.go ?_ ?_)
     repeat'(first|refine ar ?_|fail)
     exact wt
    ·repeat'(first|refine ar ?_|refine N8 ?_|fail)
     refine bh.cI [.aW b6 [.int .i64 f.kind,.slice q1 f.par.length d1,.slice q2 f.res.length d2,.bool f.other,.bool f.lq] sx,.aW cp [.pointer (some ⟨sp,0,none⟩),bv2,rv,.bool c.live,.int .i64 c.broken] jd] [] bz aU ?_
     repeat'(first|refine pN ?_|(refine ax.dA 88 ?_;refine ax.he rfl rfl (HE.bJ (M0:=[.aW sp [tvb,pvb,.bool (dB s2)] jE,.own 0 fR 1 tvb s2.ts.length (aY s2.ts),.own 0 jD 2 pvb s2.ps.length (cg s2.ps)]) dU rfl rfl (fun w' hw'=>gZ D sp s2 (tvb,pvb) (.slice q2 f.res.length d2) f.res w' ((hw'.ni (q:=.kq iZ iZ.fr D L) (p:=fun w=>ai D w (.slice q2 f.res.length d2) f.res) jH (fun w' h _=>(h _ hin).2)).dc dV aU) hs2p Pi)) (fun _=>by dsimp only[aX,Pq,Pp];exact bz) (fun _=>aU) ?_;rintro⟨tvc,pvc⟩ _;dsimp only[aX,Pq,Pp])|refine aP.nil O9 ?_|refine aP.any O9 ?_|exact aB.fin rfl|refine aB.skip O9 ?_|refine aB.go ?_ ?_)
     repeat'(first|refine ar ?_|fail)
     exact wt
  ·rw[if_pos he2]
   repeat'(first|refine ar ?_|fail)
   refine MB ?_
   rintro⟨⟩ _
   dsimp only[Pq,Pp]
   repeat'(first|refine ar ?_|fail)
   exact pm
def Ey {β:Type} (V:(Nat→Prop)→World→β→Prop):Prop:=∀{D:Nat→Prop} {w:World} {x:β},V D w x→V (fun k=>D k∧k<w.heap.size) w x
theorem bw.lt (s:ck):Ey (bw s):=fun h=>⟨h.1.mono fun _ hk hd=>⟨hd,hk⟩,h.2.1.mono fun _ hk hd=>⟨hd,hk⟩,jn.mono h.2.2.1 fun _ hk hd=>⟨hd,hk⟩,h.2.2.2⟩
section
variable {n:Nat} {E:Env} {M M':List bu} {R:List (World→Prop)}
theorem HE.H3 {β β2:Type} {V:(Nat→Prop)→World→β→Prop} {V2:(Nat→Prop)→World→β2→Prop} (hV:vJ V) (hV2:vJ V2) (hl:Ey V2) {D:Nat→Prop} {y:β} {tf:β2→Value} {Mf:(Nat→Prop)×β2→List bu} {f:Nat} {args:List Operand} {tys:Array TypeId} {vs:List Value}
  (hM:∀x:(Nat→Prop)×β2,Up (.kq V hV D y) (.kq V2 hV2 x.1 x.2) M (Mf x)) (hf:G.fb[f]?=some true) (ha:kJ E args=some vs)
  (hc:∀w,Ok M R w→Calls G.P f vs.toArray w (bD V2 tf D w)):
  HE n (.call ⟨.value (.func f),args.toArray,tys⟩) E M R (fun _:(Nat→Prop)×β2=>True) (fun x=>tf x.2) Mf (fun _=>R):=
 ⟨fun w hw=>(bU.call hf ha (hc w hw) (fun e w' h=>by obtain⟨⟨x,e1,_⟩,_⟩:=h;exact⟨_,e1⟩)).mono fun v w' ⟨⟨x,e1,hv⟩,hx⟩=>by
  cases e1
  refine⟨(fun k=>(D k∨w.heap.size≤k)∧k<w'.heap.size,x),trivial,rfl,hw.qj (hM _) (hx.mono fun _ _ h=>h.elim) (hl hv) ?_⟩
  rintro k ⟨hk,hlt⟩
  exact⟨hlt,fun h=>hk.elim (fun h=>h) (fun h2=>absurd h Pi)⟩⟩
end
theorem DX {n:Nat} (h:s.at_≤n) (_hn:n≤s.ts.length) (_h0:0≤s.at_):∃n' a e,aZ {s with ts:=s.ts.take n}=({s with ts:=s.ts.take n'},a,e)∧s.at_≤n'∧n'≤n:=by
 have e1:(s.ts.take n).length=n:=by rw[Pz];omega
 have e2:({s with ts:=s.ts.take n}:ck).at_=s.at_:=rfl
 unfold aZ
 rw[e2]
 dsimp only
 rw[e1]
 split
 ·exact⟨n - 1,_,_,by rw[List.take_take,Nat.min_eq_left Pi],by omega,by omega⟩
 ·split
  ·exact⟨n,_,_,rfl,h,Px _⟩
  ·exact⟨n,_,_,rfl,h,Px _⟩
theorem F6 {l:List Int} {j:Nat} (h:j<l.length):(l.take (j+1)).reverse=ix l j::(l.take j).reverse:=by
 rw[bN h];simp
def jT.Sl (y:jT):Prop:=∃p1 n1 c1 p2 n2 c2 p3 n3 c3,y=⟨.slice p1 n1 c1,.slice p2 n2 c2,.slice p3 n3 c3⟩
theorem jT.Sl.mk (n1 c1:Nat) (p2:Option Addr) (n2 c2:Nat) (p3:Option Addr) (n3 c3:Nat):jT.Sl ⟨.slice p1 n1 c1,.slice p2 n2 c2,.slice p3 n3 c3⟩:=⟨p1,n1,c1,p2,n2,c2,p3,n3,c3,rfl⟩
def AF (F:Nat→Prop) (w0:World) (D:Nat→Prop):Nat→Prop:=fun k=>(F k∧k<w0.heap.size)∨D k
theorem Gn (F:Nat→Prop) (w:World):AF F w (fun _=>False)=fun k=>F k∧k<w.heap.size:=funext fun k=>by simp[AF]
def An {β:Type} (V:(Nat→Prop)→World→β→Prop) (w0:World) (F:Nat→Prop):(Nat→Prop)→World→β→Prop:=fun D w x=>∀w',Ext w0 w'→bX (fun k=>¬D k) w w'→V (AF F w0 D) w' x
section
variable {β:Type} {V:(Nat→Prop)→World→β→Prop} {w0:World} {F:Nat→Prop}
theorem An.fr:vJ (An V w0 F):=fun{D _S _x _w _w'} h hc hd w2 h0 h2=>h w2 h0 ((hc.mono (T:=fun k=>¬D k) fun k hk hs hD=>hd k hk hD hs).trans h2)
theorem An.now {D:Nat→Prop} {w:World} {x:β} (h:An V w0 F D w x) (hx:Ext w0 w):V (AF F w0 D) w x:=h w hx (bX.refl _ w)
theorem An.mk {D:Nat→Prop} {w:World} {x:β} (hV:vJ V) (h:V (AF F w0 D) w x) (hx:Ext w0 w):An V w0 F D w x:=fun w' h0 h2=>by
 refine hV (S:=fun k=>¬AF F w0 D k) h ⟨h2.os,h2.tape,h2.output,h2.size,fun k hk hs=>?_⟩ (fun k _ hk h=>h hk)
 have hs:AF F w0 D k:=Classical.byContradiction hs
 rcases hs with⟨_,hs⟩|hs
 ·rw[h0.block k hs (fun h=>h),hx.block k hs (fun h=>h)]
 ·exact h2.block k hk (fun h=>h hs)
end
abbrev bu.an {β:Type} (V:(Nat→Prop)→World→β→Prop) (w0:World) (F D:Nat→Prop) (y:β):bu:=.kq (An V w0 F) An.fr D y
def zb {β:Type} (V:(Nat→Prop)→World→β→Prop):Prop:=∀{D H:Nat→Prop} {w:World} {x:β},(∀k,D k→H k)→V D w x→V H w x
theorem bw.mo (s:ck):zb (bw s):=fun hd h=>bw.mono h hd
section
variable {n:Nat} {E:Env} {M M':List bu} {R:List (World→Prop)} {β β2:Type} {V:(Nat→Prop)→World→β→Prop} {V2:(Nat→Prop)→World→β2→Prop} {w0 w:World} {F D:Nat→Prop} {y:β}
theorem Ok.an (h:Ok M R w) (hR:Ext w0∈R) (hM:bu.an V w0 F D y∈M):V (AF F w0 D) w y:=An.now (h.m _ hM).1 (h.get hR)
theorem Ok.fg (hV:vJ V) (hl:Ey V) (h:V F w y):Ok [bu.an V w F (fun _=>False) y] [Ext w] w:=
 (Ok.start w).push (bX.refl _ w) (An.mk hV (by rw[Gn];exact hl h) (bX.refl _ w)) (fun k hk=>hk.elim)
theorem bD.sE {w':World} {tf:β→Value} (hm:zb V) (hw:Ok M R w') (hR:Ext w∈R) (hM:bu.an V w F D y∈M):bD V tf F w (.returned (tf y)) w':=
 ⟨⟨y,rfl,hm (fun k hk=>hk.elim (fun h=>.inl h.1) fun h=>by
  rcases PG k w.heap.size with hlt|hge
  ·exact(hw.origin (S:=fun _=>False) hR k ⟨_,hM,h⟩ hlt).elim
  ·exact .inr hge) (hw.an hR hM)⟩,hw.get hR⟩
theorem Ok.tp (y2:β2) (hw:Ok M R w) (hM:Up (bu.an V w0 F D y) (bu.an V2 w0 F D y2) M M') (hp:∀D w,V D w y→V2 D w y2):Ok M' R w:=
 hw.qj hM (bX.refl _ w) (fun w' h0 h2=>hp _ _ ((hw.m _ hM.mem).1 w' h0 h2)) fun k hk=>⟨(hw.m _ hM.mem).2 k hk,fun _=>hk⟩
theorem HE.bV (hV2:vJ V2) (hl:Ey V2) (hm:zb V2) {tf:β2→Value} {Mf:(Nat→Prop)×β2→List bu} {f:Nat} {args:List Operand} {tys:Array TypeId} {vs:List Value}
  (hR:Ext w0∈R) (h0:bu.an V w0 F D y∈M) (hM:∀x:(Nat→Prop)×β2,Up (bu.an V w0 F D y) (bu.an V2 w0 F x.1 x.2) M (Mf x)) (hf:G.fb[f]?=some true) (ha:kJ E args=some vs)
  (hc:∀w,Ok M R w→V (AF F w0 D) w y→Calls G.P f vs.toArray w (bD V2 tf (AF F w0 D) w)):
  HE n (.call ⟨.value (.func f),args.toArray,tys⟩) E M R (fun _:(Nat→Prop)×β2=>True) (fun x=>tf x.2) Mf (fun _=>R):=
 ⟨fun w hw=>(bU.call hf ha (hc w hw (hw.an hR h0)) (fun e w' h=>by obtain⟨⟨x,e1,_⟩,_⟩:=h;exact⟨_,e1⟩)).mono fun v w' ⟨⟨x,e1,hv⟩,hx⟩=>by
  cases e1
  refine⟨(fun k=>(D k∨w.heap.size≤k)∧k<w'.heap.size,x),trivial,rfl,hw.qj (hM _) (hx.mono fun _ _ h=>h.elim) (An.mk hV2 (hm ?_ (hl hv)) ((hw.get hR).trans hx)) ?_⟩
  ·rintro k ⟨(hk|hk)|hk,hlt⟩
   ·exact .inl hk
   ·exact .inr ⟨.inl hk,hlt⟩
   ·exact .inr ⟨.inr hk,hlt⟩
  ·rintro k ⟨hk,hlt⟩
   exact⟨hlt,fun h=>hk.elim (fun h=>h) (fun h2=>absurd h Pi)⟩⟩
end
def Lc (r:ck×Int) (D:Nat→Prop) (w:World) (y:jT):Prop:=y.Sl∧(r.2=0→bw r.1 D w y)
def oS (r:ck×Int) (F:Nat→Prop) (w:World):Ending→World→Prop:=bD (Lc r) (fun y=>.tuple #[.agg (gw r.1 y).toArray,.int .i64 r.2]) F w
theorem bw.Sl {D:Nat→Prop} {w:World} {y:jT} (h:bw s D w y):y.Sl:=by
 obtain⟨p1,c1,p2,c2,p3,c3,rfl,-⟩:=h.gx
 exact jT.Sl.mk ..
theorem oS.err {e:Int} {F:Nat→Prop} {w w':World} (y:jT) (hy:y.Sl) (he:e≠0) (hx:Ext w w'):oS (s,e) F w (.returned (.tuple #[.agg (gw s y).toArray,.int .i64 e])) w':=⟨⟨y,rfl,hy,fun h=>absurd h he⟩,hx⟩
theorem oS.ok {F D:Nat→Prop} {w w':World} {M:List bu} {R:List (World→Prop)} (y:jT) (hw:Ok M R w') (hR:Ext w∈R) (hM:bu.an (bw s) w F D y∈M):oS (s,0) F w (.returned (.tuple #[.agg (gw s y).toArray,.int .i64 0])) w':=by
 obtain⟨⟨x,e,h⟩,hx⟩:=bD.sE (V:=bw s) (tf:=fun y=>.tuple #[.agg (gw s y).toArray,.int .i64 0]) (bw.mo s) hw hR hM
 exact⟨⟨x,e,bw.Sl h,fun _=>h⟩,hx⟩
theorem fa (F D2:Nat→Prop) (s:ck) (y:jT) (v:Value) (l:List Int) (w:World) (h:bw s F w y) (hI:ai D2 w v l) (hp:0<s.ps.length) (h0:0≤s.at_) (hle:s.at_≤s.ts.length):
  Calls G.P 111 #[.agg (gw s y).toArray,v] w (oS (aL s l) F w):=by
 obtain⟨p1,c1,p2,c2,p3,c3,rfl,k1,k2,k3⟩:=h.gx
 obtain⟨q,d,rfl,hql⟩:=hI.slice
 refine ae (l:=[_,_]) func111 rfl ntmps111 rfl (Ok.fg (V:=bw s) (bw.fr s) (bw.lt s) h) ?_
 obtain⟨r,hr⟩:∃r,eV s l.reverse s.ts.length=r:=⟨_,rfl⟩
 have hwk:aL s l=if r.2=0 then({s with ts:=s.ts.take r.1},0)else(s,r.2):=by unfold aL;rw[hr]
 rw[hwk]
 dsimp only[gw]
 refine ar ?_
 refine aa.box [.slice p1 s.ts.length c1,.slice p2 s.ps.length c2,.slice p3 s.ps.length c3,.int .i64 s.bR] rfl rfl rfl fun b2=>?_
 refine aa.alloc (t:=nZ) [.slice none 0 0,.slice none 0 0,.slice none 0 0,.int .i64 0] rfl rfl rfl fun b4=>?_
 refine ar ?_
 refine aa.alloc (t:=nZ) [.slice none 0 0,.slice none 0 0,.slice none 0 0,.int .i64 0] rfl rfl rfl fun b6=>?_
 repeat'(first|refine ar ?_|(refine bC ?_ ?_<;>intro hc_))
 refine bh.loop (σ:=Nat×Nat×(Nat→Prop)×(Option Addr×Nat×Option Addr×Nat×Option Addr×Nat)) (fun z=>[(1,.slice q l.length d),(2,.pointer (some ⟨b2,0,none⟩)),(4,.pointer (some ⟨b4,0,none⟩)),(6,.pointer (some ⟨b6,0,none⟩)),(7,.int .i64 ((z.1:Int) - 1))])
  (fun z=>[.aW b6 [.slice p1 s.ts.length c1,.slice p2 s.ps.length c2,.slice p3 s.ps.length c3,.int .i64 s.bR] nZ,.aW b4 [.slice none 0 0,.slice none 0 0,.slice none 0 0,.int .i64 0] nZ,.aW b2 [.slice z.2.2.2.1 z.2.1 z.2.2.2.2.1,.slice z.2.2.2.2.2.1 s.ps.length z.2.2.2.2.2.2.1,.slice z.2.2.2.2.2.2.2.1 s.ps.length z.2.2.2.2.2.2.2.2,.int .i64 s.bR] nZ,bu.an (bw {s with ts:=s.ts.take z.2.1}) w F z.2.2.1 ⟨.slice z.2.2.2.1 z.2.1 z.2.2.2.2.1,.slice z.2.2.2.2.2.1 s.ps.length z.2.2.2.2.2.2.1,.slice z.2.2.2.2.2.2.2.1 s.ps.length z.2.2.2.2.2.2.2.2⟩])
  (fun _=>[Ext w]) (fun z=>z.1≤l.length∧s.at_≤z.2.1∧z.2.1≤s.ts.length∧eV s (l.take z.1).reverse z.2.1=r) (fun z=>z.1) (l.length,s.ts.length,fun _=>False,p1,c1,p2,c2,p3,c3) bH ?_ aU ⟨Nat.le_refl _,hle,Px _,by rw[PA];exact hr⟩ ?_
 ·dsimp only
  rw[PA]
  exact bz
 rintro⟨j,nn,DD,q1,k1,q2,k2,q3,k3⟩ ⟨hj,ha,hnn,hlk⟩
 dsimp only at hj ha hnn hlk ⊢
 rcases Nat.eq_zero_or_pos j with rfl|hj0
 ·rw[List.take_zero]at hlk
  obtain rfl:(nn,(0:Int))=r:=hlk
  rw[if_pos rfl]
  dsimp only
  repeat'(first|refine ar ?_|(refine bC ?_ ?_<;>intro hc_))
  all_goals first|omega|skip
  all_goals(refine ah.aM (.inl rfl) rfl rfl rfl rfl rfl aH rfl rfl ?_;exact fun w' hw'=>oS.ok (D:=DD) ⟨.slice q1 nn k1,.slice q2 s.ps.length k2,.slice q3 s.ps.length k3⟩ hw' ak bO)
 ·obtain⟨i,rfl⟩:∃i,j=i+1:=⟨j - 1,by omega⟩
  rw[show((i+1:Nat):Int) - 1=i by omega]
  obtain⟨bl,ol,rfl,-,hc⟩:=hI.at (i:=i) Pi
  have e1:(s.ts.take nn).length=nn:=by rw[Pz];omega
  rw[F6 Pi,DI ha hnn h0]at hlk
  obtain⟨n',a,e,hpk,ha',hn'⟩:=DX ha hnn h0
  have e2:(s.ts.take n').length=n':=by rw[Pz];omega
  rw[hpk]at hlk
  dsimp only at hlk
  rw[e2]at hlk
  have hpop:∀DD w',bw {s with ts:=s.ts.take nn} DD w' ⟨.slice q1 nn k1,.slice q2 s.ps.length k2,.slice q3 s.ps.length k3⟩→Calls G.P 121 #[.agg #[.slice q1 nn k1,.slice q2 s.ps.length k2,.slice q3 s.ps.length k3,.int .i64 s.bR]] w' (bD (bw {s with ts:=s.ts.take n'}) (fun y=>.tuple #[.agg #[y.l,y.m,y.o,.int .i64 s.bR],.int .i64 a,.int .i64 e]) DD w'):=fun DD w' h=>by
   have:=kK DD {s with ts:=s.ts.take nn} _ w' h hp h0
   rw[hpk]at this;exact this
  have hc1:=hc i Pi
  repeat'(first|refine ar ?_|(refine bC ?_ ?_<;>intro hc_))
  refine aa.he (HE.bV (V:=bw {s with ts:=s.ts.take nn}) (V2:=bw {s with ts:=s.ts.take n'}) (w0:=w) (F:=F) (D:=DD) (y:=⟨.slice q1 nn k1,.slice q2 s.ps.length k2,.slice q3 s.ps.length k3⟩) (bw.fr _) (bw.lt _) (bw.mo _) ak bO (fun _=>aH) rfl rfl (fun w' _ h=>hpop _ w' h)) rfl ?_
  rintro⟨D',y'⟩ _
  refine aa.pure (φ:=∃p1 c1 p2 c2 p3 c3,y'=⟨.slice p1 n' c1,.slice p2 s.ps.length c2,.slice p3 s.ps.length c3⟩) (fun w' hw'=>?_) ?_
  ·obtain⟨p1,c1,p2,c2,p3,c3,e,-⟩:=(hw'.an (V:=bw {s with ts:=s.ts.take n'}) (w0:=w) (F:=F) (D:=D') (y:=y') ak bO).gx
   dsimp only at e;rw[e2]at e;exact⟨p1,c1,p2,c2,p3,c3,e⟩
  rintro⟨q4,k4,q5,k5,q6,k6,rfl⟩
  dsimp only
  by_cases he:e=0
  ·subst he
   rw[if_neg Ph]at hlk
   by_cases hm:a≠ix l i∧a≠0∧ix l i≠0
   ·rw[if_pos hm]at hlk
    subst hlk
    rw[if_neg Ph]
    dsimp only
    repeat'(first|refine ar ?_|(refine dy fun b_=>?_)|refine Oe ?_|refine N4 ?_|(refine bC ?_ ?_<;>intro hc_))
    all_goals first|(exfalso;simp_all;done)|skip
    all_goals(refine ah.aM (.inl rfl) rfl rfl rfl rfl rfl aH rfl rfl ?_;exact fun w' hw'=>oS.err (e:=_) ⟨.slice p1 s.ts.length c1,.slice p2 s.ps.length c2,.slice p3 s.ps.length c3⟩ (jT.Sl.mk ..) Ph hw'.at)
   ·rw[if_neg hm]at hlk
    repeat'(first|refine ar ?_|(refine dy fun b_=>?_)|refine Oe ?_|refine N4 ?_|(refine bC ?_ ?_<;>intro hc_))
    all_goals first|exact ah.next (i,n',D',q4,k4,q5,k5,q6,k6) bH bz aU ⟨by dsimp only;omega,ha',by dsimp only;omega,hlk⟩ O6|(exfalso;simp_all;done)|skip
    all_goals trace_state
  ·rw[if_pos he]at hlk
   subst hlk
   rw[if_neg he]
   dsimp only
   repeat'(first|refine ar ?_|(refine dy fun b_=>?_)|(refine bC ?_ ?_<;>intro hc_))
   all_goals(refine ah.aM (.inl rfl) rfl rfl rfl rfl rfl aH rfl rfl ?_;exact fun w' hw'=>oS.err (e:=_) ⟨.slice p1 s.ts.length c1,.slice p2 s.ps.length c2,.slice p3 s.ps.length c3⟩ (jT.Sl.mk ..) he hw'.at)
def ky (_:Nat→Prop) (_:World) (y:jT):Prop:=y.Sl
theorem ky.fr:vJ ky:=fun h _ _=>h
theorem ky.lt:Ey ky:=fun h=>h
theorem ky.mo:zb ky:=fun _ h=>h
theorem oS.to {w w':World} {e:Ending} (h:oS (s,0) F w e w'):bD (bw s) (fun y=>.tuple #[.agg (gw s y).toArray,.int .i64 0]) F w e w':=by
 obtain⟨⟨x,e1,_,h1⟩,hx⟩:=h
 exact⟨⟨x,e1,h1 rfl⟩,hx⟩
theorem oS.re {r:ck×Int} {F:Nat→Prop} {w w':World} {e:Ending} (h:oS r F w e w'):bD ky (fun y=>.tuple #[.agg (gw r.1 y).toArray,.int .i64 r.2]) F w e w':=by
 obtain⟨⟨x,e1,h1,_⟩,hx⟩:=h
 exact⟨⟨x,e1,h1⟩,hx⟩
theorem nw (F D2:Nat→Prop) (s:ck) (y:jT) (v:Value) (l:List Int) (w:World) (h:bw s F w y) (hI:ai D2 w v l) (_hp2:2≤s.ps.length) (h0:0≤s.at_) (hle:s.at_≤s.ts.length):
  Calls G.P 114 #[.agg (gw s y).toArray,v] w (oS (cQ s l) F w):=by
 have hp:0<s.ps.length:=by omega
 have hpb:s.ps.length≤17592186044416:=by
  obtain⟨_,_,_,h⟩:=h.2.1.slice
  simpa[ck.marks]using h
 obtain⟨p1,c1,p2,c2,p3,c3,rfl,k1,k2,k3⟩:=h.gx
 obtain⟨q,d,rfl,hql⟩:=hI.slice
 refine ae (l:=[_,_]) func114 rfl ntmps114 rfl (Ok.fg (V:=bw s) (bw.fr s) (bw.lt s) h) ?_
 obtain⟨r,hr⟩:∃r,eV s l.reverse s.ts.length=r:=⟨_,rfl⟩
 obtain⟨n,e⟩:=r
 have hwk:aL s l=if e=0 then({s with ts:=s.ts.take n},0)else(s,e):=by unfold aL;rw[hr]
 have hsk:cQ s l=if e≠0 then(s,e)else if s.at_<n then(s,14)else({s with ts:=s.ts.take n,ps:=s.ps.take (s.ps.length - 1)},0):=by unfold cQ;rw[hr];dsimp only;rw[if_neg (show¬s.ps.length=1 by omega)]
 have hnl:e=0→s.at_≤n∧n≤s.ts.length:=fun h=>by
  have:=jK l.reverse s.ts.length hle (by rw[hr];exact h)
  rw[hr]at this;exact this
 have hwt:=fun DD w' (h:bw s DD w' ⟨.slice p1 s.ts.length c1,.slice p2 s.ps.length c2,.slice p3 s.ps.length c3⟩) hx=>fa DD D2 s ⟨.slice p1 s.ts.length c1,.slice p2 s.ps.length c2,.slice p3 s.ps.length c3⟩ (.slice q l.length d) l w' h (hI.aN (show Ext w w' from hx) (fun _ _ _ h=>h)) hp h0 hle
 rw[hwk]at hwt
 rw[hsk]
 dsimp only[gw]at hwt ⊢
 refine ar ?_
 refine aa.box [.slice p1 s.ts.length c1,.slice p2 s.ps.length c2,.slice p3 s.ps.length c3,.int .i64 s.bR] rfl rfl rfl fun b2=>?_
 refine aa.alloc (t:=nZ) [.slice none 0 0,.slice none 0 0,.slice none 0 0,.int .i64 0] rfl rfl rfl fun b4=>?_
 by_cases he:e=0
 ·subst he
  obtain⟨hn1,hn2⟩:=hnl rfl
  have e1:(s.ts.take n).length=n:=by rw[Pz];omega
  rw[if_pos rfl]at hwt
  rw[if_neg Ph]
  try dsimp only at hwt ⊢
  repeat'(first|refine ar ?_|fail)
  refine aa.he (HE.bV (V:=bw s) (V2:=bw {s with ts:=s.ts.take n}) (w0:=w) (F:=F) (D:=fun _=>False) (y:=⟨.slice p1 s.ts.length c1,.slice p2 s.ps.length c2,.slice p3 s.ps.length c3⟩) (bw.fr _) (bw.lt _) (bw.mo _) ak bO (fun _=>aH) rfl rfl (fun w' hw' h=>(hwt _ w' h hw'.at).mono fun _ _ h=>oS.to h)) rfl ?_
  rintro⟨D',y'⟩ _
  refine aa.pure (φ:=∃p1 c1 p2 c2 p3 c3,y'=⟨.slice p1 n c1,.slice p2 s.ps.length c2,.slice p3 s.ps.length c3⟩∧s.ps.length≤c2∧s.ps.length≤c3) (fun w' hw'=>?_) ?_
  ·obtain⟨p1,c1,p2,c2,p3,c3,e,-,h2,h3⟩:=(hw'.an (V:=bw {s with ts:=s.ts.take n}) (w0:=w) (F:=F) (D:=D') (y:=y') ak bO).gx
   dsimp only at e h2 h3;rw[e1]at e;exact⟨p1,c1,p2,c2,p3,c3,e,h2,h3⟩
  rintro⟨q4,k4,q5,k5,q6,k6,rfl,h5,h6⟩
  dsimp only[gw]
  have hmk:∀D' w',bw {s with ts:=s.ts.take n} D' w' ⟨.slice q4 n k4,.slice q5 s.ps.length k5,.slice q6 s.ps.length k6⟩→Calls G.P 150 #[.agg #[.slice q4 n k4,.slice q5 s.ps.length k5,.slice q6 s.ps.length k6,.int .i64 s.bR]] w' fun e w2=>e=.returned (.int .i64 s.at_)∧Ext w' w2:=fun D' w' h=>by
   have:=qd D' {s with ts:=s.ts.take n} ⟨.slice q4 n k4,.slice q5 s.ps.length k5,.slice q6 s.ps.length k6⟩ w' h hp
   exact this
  repeat'(first|refine ar ?_|fail)
  refine aa.alloc (t:=nZ) [.slice none 0 0,.slice none 0 0,.slice none 0 0,.int .i64 0] rfl rfl rfl fun b6=>?_
  by_cases hat:s.at_<n
  ·rw[if_pos hat]
   try dsimp only
   repeat'(first|refine ar ?_|fail)
   refine bh.cI [.aW b6 [.slice q4 n k4,.slice q5 s.ps.length k5,.slice q6 s.ps.length k6,.int .i64 s.bR] nZ] [] bz aU ?_
   repeat'(first|refine pN ?_|(refine ax.dA 150 ?_;refine ax.he rfl rfl (HE.eU rfl rfl (fun w' hw'=>hmk _ w' (hw'.an (V:=bw {s with ts:=s.ts.take n}) (w0:=w) (F:=F) (D:=D') (y:=⟨.slice q4 n k4,.slice q5 s.ps.length k5,.slice q6 s.ps.length k6⟩) ak bO))) (fun _=>bz) (fun _=>aU) ?_;rintro⟨⟩ _)|refine aP.nil O9 ?_|refine aP.any O9 ?_|exact aB.fin rfl|refine aB.skip O9 ?_|refine aB.go ?_ ?_)
   repeat'(first|refine ar ?_|fail)
   all_goals first|omega|skip
   all_goals(refine ah.aM (.inl rfl) rfl rfl rfl rfl rfl aH rfl rfl ?_;exact fun w' hw'=>oS.err (e:=_) ⟨.slice p1 s.ts.length c1,.slice p2 s.ps.length c2,.slice p3 s.ps.length c3⟩ (jT.Sl.mk ..) Ph hw'.at)
  ·rw[if_neg hat]
   try dsimp only
   repeat'(first|refine ar ?_|fail)
   refine bh.cI [.aW b6 [.slice q4 n k4,.slice q5 s.ps.length k5,.slice q6 s.ps.length k6,.int .i64 s.bR] nZ] [] bz aU ?_
   repeat'(first|refine pN ?_|(refine ax.dA 150 ?_;refine ax.he rfl rfl (HE.eU rfl rfl (fun w' hw'=>hmk _ w' (hw'.an (V:=bw {s with ts:=s.ts.take n}) (w0:=w) (F:=F) (D:=D') (y:=⟨.slice q4 n k4,.slice q5 s.ps.length k5,.slice q6 s.ps.length k6⟩) ak bO))) (fun _=>bz) (fun _=>aU) ?_;rintro⟨⟩ _)|refine aP.nil O9 ?_|refine aP.any O9 ?_|exact aB.fin rfl|refine aB.skip O9 ?_|refine aB.go ?_ ?_)
   repeat'(first|refine ar ?_|(refine aa.y_ (Yl.cZ (i:=s.ps.length - 1) rfl rfl rfl rfl rfl Pi Pi) rfl ?_)|fail)
   all_goals first|omega|skip
   refine My ?_
   intro w' hw'
   have hcv:∀D' w',bw {s with ts:=s.ts.take n} D' w' ⟨.slice q4 n k4,.slice q5 s.ps.length k5,.slice q6 s.ps.length k6⟩→bw {s with ts:=s.ts.take n,ps:=s.ps.take (s.ps.length - 1)} D' w' ⟨.slice q4 n k4,.slice q5 (s.ps.length - 1) k5,.slice q6 (s.ps.length - 1) k6⟩:=fun D' w' h=>by
    have a1:=h.2.1.take (s.ps.length - 1) (by simp[ck.marks])
    have a2:=jn.take h.2.2.1 (s.ps.length - 1) (by simp[ck.eZ])
    have m1:({s with ts:=s.ts.take n}:ck).marks.take (s.ps.length - 1)=({s with ts:=s.ts.take n,ps:=s.ps.take (s.ps.length - 1)}:ck).marks:=by simp[ck.marks,Qe]
    have m2:({s with ts:=s.ts.take n}:ck).eZ.take (s.ps.length - 1)=({s with ts:=s.ts.take n,ps:=s.ps.take (s.ps.length - 1)}:ck).eZ:=by simp[ck.eZ,Qe]
    rw[m1]at a1
    rw[m2]at a2
    exact⟨h.1,a1,a2,h.2.2.2.1,(show s.ps.length - 1≤k5 by omega),(show s.ps.length - 1≤k6 by omega)⟩
   exact oS.ok (s:={s with ts:=s.ts.take n,ps:=s.ps.take (s.ps.length - 1)}) (D:=D') ⟨.slice q4 n k4,.slice q5 (s.ps.length - 1) k5,.slice q6 (s.ps.length - 1) k6⟩ (hw'.tp (V:=bw {s with ts:=s.ts.take n}) (V2:=bw {s with ts:=s.ts.take n,ps:=s.ps.take (s.ps.length - 1)}) (w0:=w) (F:=F) (D:=D') (y:=⟨.slice q4 n k4,.slice q5 s.ps.length k5,.slice q6 s.ps.length k6⟩) ⟨.slice q4 n k4,.slice q5 (s.ps.length - 1) k5,.slice q6 (s.ps.length - 1) k6⟩ aH hcv) ak bO
 ·rw[if_neg he]at hwt
  rw[if_pos he]
  try dsimp only at hwt ⊢
  repeat'(first|refine ar ?_|fail)
  refine aa.he (HE.bV (V:=bw s) (V2:=ky) (w0:=w) (F:=F) (D:=fun _=>False) (y:=⟨.slice p1 s.ts.length c1,.slice p2 s.ps.length c2,.slice p3 s.ps.length c3⟩) ky.fr ky.lt ky.mo ak bO (fun _=>aH) rfl rfl (fun w' hw' h=>(hwt _ w' h hw'.at).mono fun _ _ h=>oS.re h)) rfl ?_
  rintro⟨D',y'⟩ _
  refine aa.pure (φ:=y'.Sl) (fun w' hw'=>hw'.an (V:=ky) (w0:=w) (F:=F) (D:=D') (y:=y') ak bO) ?_
  rintro⟨q4,n4,k4,q5,n5,k5,q6,n6,k6,rfl⟩
  repeat'(first|refine ar ?_|(refine dy fun b_=>?_)|fail)
  all_goals(refine ah.aM (.inl rfl) rfl rfl rfl rfl rfl aH rfl rfl ?_;exact fun w' hw'=>oS.err (e:=_) ⟨.slice p1 s.ts.length c1,.slice p2 s.ps.length c2,.slice p3 s.ps.length c3⟩ (jT.Sl.mk ..) he hw'.at)
theorem Yl.iy {n t k T o:Nat} {E:Env} {C:World→Prop} {x:Operand} {ti:TI} {cs:List Value} {v:Value} (hu:G.P.underlying t=some (.struct (G.P.fieldsOf t))) (hf:((G.P.fieldsOf t)[k]?.map fun f=>(f.type,f.offset))=some (T,o)) (hti:G.ty T=some ti) (hag:ti.agg=false) (hx:ev E x=some (.agg cs.toArray)) (hc:cs[o]?=some v):Yl G n (.field t x k) E C v:=
 ⟨fun w _ a ha d ty pos aft gd=>by
  obtain⟨fd,h1,h2⟩:=Option.map_eq_some_iff.1 hf
  cases h2
  have h3:=(G.iT fd.type ti hti).agg w
  rw[hag]at h3
  simp[execOp,ha.eval hx,Instr.field,run_underlying hu,h1,part,h3,asAgg,hc]⟩
structure Gf where
 op:Int
 par:List Int
 res:List Int
 live:Bool
 lq:Bool
 deriving Inhabited
abbrev Gf.fn (f:Gf):aO:=⟨f.par,f.res⟩
def wK (f:Gf) (x:Value×Value):List Value:=[.int .i64 f.op,x.1,x.2,.bool f.live,.bool f.lq]
theorem dH.GH {f:aO} {F H:Nat→Prop} {w:World} {x:Value×Value} (h:dH f F w x) (hd:∀k,k<w.heap.size→F k→H k):dH f H w x:=⟨h.1.mono hd,h.2.mono hd⟩
abbrev vI:=Gf×Value×Value
def A4:sY vI:=fun F w b o z=>dH z.1.fn F w z.2∧∀j,j<5→w.cell? ⟨b,o+j,none⟩=(wK z.1 z.2)[j]?
theorem CS (f:Gf) (x:Value×Value) (j:Nat) (h:j<5):∃u,(wK f x)[j]?=some u:=⟨_,List.getElem?_eq_getElem (show j<(wK f x).length from h)⟩
theorem A4.fr:Fr A4:=fun{F S w w' b o z} ⟨h1,h2⟩ hc hF hd=>by
 refine⟨dH.fr _ h1 hc hd,fun j hj=>?_⟩
 obtain⟨u,hu⟩:=CS z.1 z.2 j hj
 rw[hu]
 have h3:=h2 j hj
 rw[hu]at h3
 exact hc.cell (hd b (fy h3) hF) h3
theorem A4.mo:Mo A4:=fun{_F _H _w _b _o _z} ⟨h1,h2⟩ hd=>⟨dH.GH h1 hd,h2⟩
theorem A4.ce:Ce A4:=fun{F w b o z} ⟨h1,h2⟩=>fy (h2 0 Pi)
abbrev vK:=gF 5 1000001 A4
structure gA where
 ao:ck
 fs:List Gf
 results:List Int
structure jC where
 r:jT
 f:Value
 rv:Value
 z:List vI
def cG (c:gA) (D:Nat→Prop) (w:World) (y:jC):Prop:=bw c.ao D w y.r∧vK D w y.f y.z∧ai D w y.rv c.results∧GG y.f∧y.z.map Prod.fst=c.fs
theorem cG.fr (c:gA):vJ (cG c):=fun h hc hd=>⟨bw.fr _ h.1 hc hd,gF.aN A4.fr A4.ce h.2.1 hc hd,h.2.2.1.aN hc hd,h.2.2.2⟩
theorem cG.lt (c:gA):Ey (cG c):=fun h=>⟨bw.lt _ h.1,gF.mono A4.mo A4.ce h.2.1 fun _ hk hd=>⟨hd,hk⟩,h.2.2.1.mono fun _ hk hd=>⟨hd,hk⟩,h.2.2.2⟩
def eO (c:gA) (y:jC):List Value:=[y.r.l,y.r.m,y.r.o,.int .i64 c.ao.bR,y.f,y.rv,.int .i64 0]
theorem cG.gx {c:gA} {D:Nat→Prop} {w:World} {y:jC} (h:cG c D w y):∃p1 c1 p2 c2 p3 c3 p4 c4 p5 c5,y=⟨⟨.slice p1 c.ao.ts.length c1,.slice p2 c.ao.ps.length c2,.slice p3 c.ao.ps.length c3⟩,.slice p4 c.fs.length c4,.slice p5 c.results.length c5,y.z⟩∧c.fs.length≤c4∧c.fs.length≤1000001∧y.z.length=c.fs.length:=by
 obtain⟨r,f,rv,z⟩:=y
 obtain⟨p1,c1,p2,c2,p3,c3,e,-⟩:=h.1.gx
 obtain⟨p4,c4,e4,h4⟩:=gF.slice h.2.1
 obtain⟨p5,c5,e5,-⟩:=h.2.2.1.slice
 have k4:=h.2.2.2.1
 have kz:z.length=c.fs.length:=by rw[←h.2.2.2.2,PV]
 dsimp only at e e4 e5 k4 h4
 rw[kz]at e4 h4
 subst e e4 e5
 exact⟨p1,c1,p2,c2,p3,c3,p4,c4,p5,c5,rfl,k4,h4,kz⟩
theorem cG.JC {c:gA} {D:Nat→Prop} {w:World} {y:jC} (h:cG c D w y) {i:Nat} (_hi:i<c.fs.length):(ix y.z i).1=ix c.fs i:=by
 have kz:y.z.length=c.fs.length:=by rw[←h.2.2.2.2,PV]
 rw[←h.2.2.2.2,ru Pi]
theorem yH (c:gA) (y:jC) (w:World) (h:cG c D w y):Calls G.P 71 #[.agg (eO c y).toArray] w fun e w'=>e=.returned y.rv∧Ext w w':=by
 obtain⟨p1,c1,p2,c2,p3,c3,p4,c4,p5,c5,ey,k4,h4,kz⟩:=h.gx
 obtain⟨r,f,rv,z⟩:=y
 cases ey
 refine ae (l:=[_]) func71 rfl ntmps71 rfl (Ok.start w) ?_
 dsimp only[eO]
 repeat'(first|refine ar ?_|(refine aF fun b_=>?_)|fail)
 all_goals exact gt
theorem ke (c:gA) (y:jC) (w:World) (h:cG c D w y) (_h0:0<c.fs.length):Calls G.P 63 #[.agg (eO c y).toArray] w fun e w'=>e=.returned (.agg (wK (ix c.fs (c.fs.length - 1)) (ix y.z (c.fs.length - 1)).2).toArray)∧Ext w w':=by
 rw[←h.JC (i:=c.fs.length - 1) Pi]
 obtain⟨p1,c1,p2,c2,p3,c3,p4,c4,p5,c5,ey,k4,h4,kz⟩:=h.gx
 obtain⟨r,f,rv,z⟩:=y
 cases ey
 dsimp only at kz h ⊢
 have hz:=h.2.1
 dsimp only at hz
 rw[←kz]at hz
 obtain⟨b,o,rfl,hF,hc⟩:=gF.at hz (i:=c.fs.length - 1) Pi
 obtain⟨hx,hcx⟩:=hc (c.fs.length - 1) Pi
 generalize ix z (c.fs.length - 1)=fx at hx hcx ⊢
 obtain⟨fr,x⟩:=fx
 dsimp only at hx hcx ⊢
 obtain⟨q1,d1,q2,d2,rfl⟩:=hx.gx
 refine ae (l:=[_]) func63 rfl ntmps63 rfl (Ok.start w) ?_
 dsimp only[eO]
 repeat'(first|refine ar ?_|(refine aF fun b_=>?_)|(refine aa.eh (t:=152) ?_;refine aa.alloc (t:=152) [.int .i64 0,.slice none 0 0,.slice none 0 0,.bool false,.bool false] rfl rfl rfl fun b_=>?_)|(refine aa.eN ?_;refine aa.y_ (Yl.idx (i:=c.fs.length - 1) rfl rfl rfl rfl rfl Pi Pi) rfl ?_)|fail)
 refine aa.y_ (Yl.ji (cs:=wK fr (.slice q1 fr.par.length d1,.slice q2 fr.res.length d2)) rfl rfl rfl ak rfl rfl hcx) rfl ?_
 dsimp only[wK]
 repeat'(first|refine ar ?_|fail)
 refine MT ?_
 exact fun w' hw'=>⟨rfl,hw'.at⟩
theorem ew {n:Nat} {rest:List Oper} {E:Env} {M:List bu} {R:List (World→Prop)} {d:Nat} {ty:TypeId} {pos:String} {aft:Array Edge} (h:∀b:Nat,aa ops Q n rest ((d,.pointer (some ⟨b,0,none⟩))::E) (.aW b [.slice none 0 0,.slice none 0 0,.slice none 0 0,.int .i64 0,.slice none 0 0,.slice none 0 0,.int .i64 0] 119::M) R) (hd:Nat.blt d n=true:=by rfl):aa ops Q n (⟨some d,.alloc 119,ty,pos,aft,none⟩::rest) E M R:=aa.alloc (t:=119) [.slice none 0 0,.slice none 0 0,.slice none 0 0,.int .i64 0,.slice none 0 0,.slice none 0 0,.int .i64 0] rfl rfl hd h
theorem iR (n1 c1:Nat) (p2:Option Addr) (n2 c2:Nat) (p3:Option Addr) (n3 c3:Nat) (m:Int) (p4:Option Addr) (n4 c4:Nat) (p5:Option Addr) (n5 c5:Nat) (e0 e:Int) (w:World):Calls G.P 112 #[.agg #[.slice p1 n1 c1,.slice p2 n2 c2,.slice p3 n3 c3,.int .i64 m,.slice p4 n4 c4,.slice p5 n5 c5,.int .i64 e0],.int .i64 e] w fun ee w'=>ee=.returned (.tuple #[.agg #[.slice p1 n1 c1,.slice p2 n2 c2,.slice p3 n3 c3,.int .i64 m,.slice p4 n4 c4,.slice p5 n5 c5,.int .i64 e],.int .i64 e])∧Ext w w':=by
 refine ae (l:=[_,_]) func112 rfl ntmps112 rfl (Ok.start w) ?_
 repeat'(first|refine ar ?_|(refine aF fun b_=>?_)|(refine ew fun b_=>?_)|fail)
 all_goals(refine ah.aM (.inl rfl) rfl rfl rfl rfl rfl aH rfl rfl ?_;exact fun w' hw'=>⟨rfl,hw'.at⟩)
theorem BP (c:gA) (y:jC) (w:World) (h:cG c D w y) (h0:0<c.fs.length):Calls G.P 36 #[.agg (eO c y).toArray] w fun e w'=>e=.returned (.bool (ix c.fs (c.fs.length - 1)).live)∧Ext w w':=by
 obtain⟨p1,c1,p2,c2,p3,c3,p4,c4,p5,c5,ey,k4,h4,kz⟩:=h.gx
 obtain⟨r,f,rv,z⟩:=y
 cases ey
 have ht:∀w',Ext w w'→Calls G.P 63 #[.agg #[.slice p1 c.ao.ts.length c1,.slice p2 c.ao.ps.length c2,.slice p3 c.ao.ps.length c3,.int .i64 c.ao.bR,.slice p4 c.fs.length c4,.slice p5 c.results.length c5,.int .i64 0]] w' fun e w2=>e=.returned (.agg #[.int .i64 (ix c.fs (c.fs.length - 1)).op,(ix z (c.fs.length - 1)).2.1,(ix z (c.fs.length - 1)).2.2,.bool (ix c.fs (c.fs.length - 1)).live,.bool (ix c.fs (c.fs.length - 1)).lq])∧Ext w' w2:=fun w' hx=>by
  have:=ke D c ⟨⟨.slice p1 c.ao.ts.length c1,.slice p2 c.ao.ps.length c2,.slice p3 c.ao.ps.length c3⟩,.slice p4 c.fs.length c4,.slice p5 c.results.length c5,z⟩ w' (cG.fr c h hx (fun _ _ _ h=>h)) h0
  exact this
 refine ae (l:=[_]) func36 rfl ntmps36 rfl (Ok.start w) ?_
 dsimp only[eO]
 repeat'(first|refine ar ?_|(refine aF fun b_=>?_)|(refine aa.cK (f:=63) ?_;refine aa.cB pk rfl rfl rfl (fun w' hw'=>ht w' hw'.at) ?_)|fail)
 refine aa.yg O8 (Yl.iy (T:=4) (o:=3) Pb Pb rfl rfl rfl rfl) rfl ?_
 repeat'(first|refine ar ?_|fail)
 all_goals first|omega|exact ah.aG rfl rfl fun w' hw'=>⟨rfl,hw'.at⟩
abbrev Gg:Nat:=152
theorem gh {n:Nat} {rest:List Oper} {E:Env} {M:List bu} {R:List (World→Prop)} {d:Nat} {ty:TypeId} {pos:String} {aft:Array Edge} (h:∀b:Nat,aa ops Q n rest ((d,.pointer (some ⟨b,0,none⟩))::E) (.aW b [.int .i64 0,.slice none 0 0,.slice none 0 0,.bool false,.bool false] Gg::M) R) (hd:Nat.blt d n=true:=by rfl):aa ops Q n (⟨some d,.alloc Gg,ty,pos,aft,none⟩::rest) E M R:=aa.alloc (t:=Gg) [.int .i64 0,.slice none 0 0,.slice none 0 0,.bool false,.bool false] rfl rfl hd h
theorem cG.frame {c:gA} {D:Nat→Prop} {w:World} {y:jC} (h:cG c D w y) {i:Nat} (hi:i<c.fs.length):∃b o q1 d1 q2 d2 cc,y.f=.slice (some ⟨b,o,none⟩) c.fs.length cc∧(ix y.z i).2=(.slice q1 (ix c.fs i).par.length d1,.slice q2 (ix c.fs i).res.length d2)∧dH (ix c.fs i).fn D w (ix y.z i).2∧∀j,j<5→w.cell? ⟨b,o+i*5+j,none⟩=(wK (ix c.fs i) (ix y.z i).2)[j]?:=by
 have hx:=h.JC hi
 obtain⟨p1,c1,p2,c2,p3,c3,p4,c4,p5,c5,ey,k4,h4,kz⟩:=h.gx
 have hz:=h.2.1
 have e4:y.f=.slice p4 c.fs.length c4:=by rw[ey]
 rw[e4,←kz]at hz
 obtain⟨b,o,rfl,hF,hc⟩:=gF.at hz (i:=i) Pi
 obtain⟨h1,h2⟩:=hc i Pi
 rw[hx]at h1 h2
 obtain⟨q1,d1,q2,d2,e⟩:=h1.gx
 exact⟨b,o,q1,d1,q2,d2,c4,e4,e,h1,h2⟩
theorem sq (c:gA) (y:jC) (n:Int) (w:World) (h:cG c D w y):Calls G.P 72 #[.agg (eO c y).toArray,.int .i64 n] w fun e w'=>e=.returned (if n<0∨c.fs.length≤n then .tuple #[.slice none 0 0,.int .i64 15]else .tuple #[if(ix c.fs (c.fs.length - 1 - n.toNat)).op=3 then(ix y.z (c.fs.length - 1 - n.toNat)).2.1 else(ix y.z (c.fs.length - 1 - n.toNat)).2.2,.int .i64 0])∧Ext w w':=by
 obtain⟨p1,c1,p2,c2,p3,c3,p4,c4,p5,c5,ey,k4,h4,kz⟩:=h.gx
 by_cases hb:n<0∨(c.fs.length:Int)≤n
 ·rw[if_pos hb]
  obtain⟨r,f,rv,z⟩:=y
  cases ey
  refine ae (l:=[_,_]) func72 rfl ntmps72 rfl (Ok.start w) ?_
  dsimp only[eO]
  repeat'(first|refine ar ?_|(refine aF fun b_=>?_)|(refine bC ?_ ?_<;>intro hc_))
  all_goals first|omega|exact ah.ie rfl rfl rfl fun w' hw'=>⟨rfl,hw'.at⟩
 ·rw[if_neg hb]
  obtain⟨k,hk⟩:∃k,c.fs.length - 1 - n.toNat=k:=⟨_,rfl⟩
  rw[hk]
  obtain⟨b,o,q1,d1,q2,d2,cc,e4,e5,-,hc⟩:=h.frame (i:=k) Pi
  obtain⟨r,f,rv,z⟩:=y
  cases ey
  dsimp only at e4 e5 hc ⊢
  cases e4
  generalize ix z k=fx at e5 hc ⊢
  obtain⟨f0,x⟩:=fx
  dsimp only at e5 hc ⊢
  subst e5
  generalize ix c.fs k=fr at hc ⊢
  obtain⟨o5,ho5⟩:∃o5,o+k*5=o5:=⟨_,rfl⟩
  rw[ho5]at hc
  refine ae (l:=[_,_]) func72 rfl ntmps72 rfl (Ok.start w) ?_
  dsimp only[eO]
  repeat'(first|refine ar ?_|(refine aF fun b_=>?_)|(refine gh fun b_=>?_)|(refine aa.eN ?_;refine aa.y_ (Yl.idx (i:=k) rfl rfl rfl rfl rfl Pi Pi) rfl ?_;rw[ho5];refine aa.y_ (Yl.ji (cs:=wK fr (.slice q1 fr.par.length d1,.slice q2 fr.res.length d2)) rfl rfl rfl ak rfl rfl hc) rfl ?_;dsimp only[wK])|(refine bC ?_ ?_<;>intro hc_))
  all_goals exact ah.ie rfl rfl rfl fun w' hw'=>⟨by first|rw[if_pos hc_]|rw[if_neg hc_],hw'.at⟩
def kY:List vI→List Value
 |[]=>[]
 |z::r=>wK z.1 z.2++kY r
theorem kZ:∀z:List vI,(kY z).length=z.length*5
 |[]=>rfl
 |a::r=>by
  have ih:=kZ r
  show(wK a.1 a.2++kY r).length=(r.length+1)*5
  rw[Py,ih];show 5+_=_;omega
theorem qY:∀z z':List vI,kY (z++z')=kY z++kY z'
 |[],_=>rfl
 |a::r,z'=>by
  show wK a.1 a.2++kY (r++z')=(wK a.1 a.2++kY r)++kY z'
  rw[qY r z',List.append_assoc]
theorem uZ:∀(z:List vI) (i j:Nat),i<z.length→j<5→(kY z)[i*5+j]?=(wK (ix z i).1 (ix z i).2)[j]?
 |[],_,_,h,_=>absurd h Pj
 |a::r,0,j,_,hj=>by
  show(wK a.1 a.2++kY r)[0*5+j]?=_
  rw[Nat.zero_mul,Ps,List.getElem?_append_left (show j<5 from hj)];rfl
 |a::r,i+1,j,h,hj=>by
  show(wK a.1 a.2++kY r)[(i+1)*5+j]?=_
  rw[List.getElem?_append_right (show 5≤_ by omega),show(i+1)*5+j - (wK a.1 a.2).length=i*5+j by show(i+1)*5+j - 5=_;omega]
  exact uZ r i j Pa hj
theorem vc {z:List vI} {M:List bu} {R:List (World→Prop)} (h:vK F w (.slice p n c) z) (hR:Ext w∈R):z.length=0∨∃bk o,p=some ⟨bk,o,none⟩∧∀w',Ok M R w'→∀j u,(kY z)[j]?=some u→w'.cell? ⟨bk,o+j,none⟩=some u:=by
 obtain⟨p',c',e,hl,h⟩:=h
 cases e
 rcases h with h|⟨b,o,rfl,hF,h⟩
 ·exact .inl (by rw[h];rfl)
 ·refine .inr ⟨b,o,rfl,fun w' hw' j u hj=>?_⟩
  have hj':j<(kY z).length:=(PR.1 hj).1
  rw[kZ]at hj'
  have h1:=(h (j / 5) Pi).2 (j % 5) Pi
  rw[←uZ z (j / 5) (j % 5) Pi Pi,show j / 5*5+j % 5=j by omega,hj,show o+j / 5*5+j % 5=o+j by omega]at h1
  exact(show Ext w w' from hw'.at hR).cell h1
theorem oY {F:Nat→Prop} {w:World}:∀z:List vI,(∀a∈z,dH a.1.fn F w a.2)→∀u∈kY z,u.oneCell'=true
 |[],_,u,hu=>by cases hu
 |a::r,h,u,hu=>by
  rcases PI.1 (show u∈wK a.1 a.2++kY r from hu)with hu|hu
  ·obtain⟨q1,d1,q2,d2,e⟩:=(h a List.mem_cons_self).gx
   rw[e]at hu
   simp only[wK,List.mem_cons,List.not_mem_nil,or_false]at hu
   rcases hu with rfl|rfl|rfl|rfl|rfl<;>rfl
  ·exact oY r (fun b hb=>h b (List.mem_cons_of_mem _ hb)) u hu
theorem vK.take {z:List vI} (h:vK F w (.slice p n c) z) (k:Nat) (_hk:k≤z.length):vK F w (.slice p k c) (z.take k):=by
 obtain⟨p',c',e,hl,h⟩:=h
 cases e
 have ht:(z.take k).length=k:=by rw[Pz];omega
 refine⟨p,c,by rw[ht],by omega,?_⟩
 rcases h with h|⟨b,o,rfl,hF,h⟩
 ·exact .inl (by rw[h];simp)
 ·refine .inr ⟨b,o,rfl,hF,fun i hi=>?_⟩
  rw[ht]at hi
  rw[cz Pi,List.getElem_take,←cz Pi]
  exact h i Pi
theorem vK.Gj {v:Value} {z:List vI} (h:vK F w v z):∀a∈z,dH a.1.fn F w a.2:=fun a ha=>by
 obtain⟨p',c',e,hl,h⟩:=h
 obtain⟨i,hi,rfl⟩:=List.mem_iff_getElem.1 ha
 rcases h with h|⟨b,o,-,-,h⟩
 ·subst h;cases hi
 ·have:=(h i hi).1
  rw[cz hi]at this;exact this
theorem oX {w w':World} {M:List bu} {R:List (World→Prop)} {B T n:Nat} {v:Value} {cs:List Value} (z:List vI) (hw:Ok M R w') (hR:Ext w∈R) (hm:bu.own B T 5 v n cs∈M) (hn:n=z.length) (hcs:cs=kY z) (hl:z.length≤1000001) (hf:∀a∈z,dH a.1.fn (fun k=>F k∨w.heap.size≤k) w' a.2):vK (fun k=>F k∨w.heap.size≤k) w' v z:=by
 subst hn hcs
 have ho:w'.ownsRow B T 5 v z.length (kY z):=(hw.m _ hm).1
 obtain⟨p,c,rfl,hn,hc,hg⟩:=aw ho
 refine⟨p,c,rfl,hl,?_⟩
 by_cases h0:z.length=0
 ·exact t7
 ·obtain⟨g,rfl,hg1⟩:=hg Pi
  refine .inr ⟨g,0,rfl,.inr ?_,fun i hi=>⟨hf _ (by rw[cz hi];exact List.getElem_mem hi),fun j hj=>?_⟩⟩
  ·rcases PG g w.heap.size with h|h
   ·exact(hw.origin (S:=fun _=>False) hR g ⟨_,hm,rfl⟩ h).elim
   ·exact h
  ·obtain⟨u,hu⟩:=CS (ix z i).1 (ix z i).2 j hj
   rw[hu,Ps]
   exact dP ho (by rw[uZ z i j hi hj,hu])
theorem uH (F:Nat→Prop) (c:gA) (y:jC) (f:Gf) (x:Value×Value) (w:World) (h:cG c F w y) (hx:dH f.fn F w x) (_h0:0<c.fs.length) (_hfl:c.fs.length≤1000000):Calls G.P 115 #[.agg (eO c y).toArray,.agg (wK f x).toArray] w (bD (cG {c with fs:=c.fs.take (c.fs.length - 1)++[f]}) (fun y=>.agg (eO {c with fs:=c.fs.take (c.fs.length - 1)++[f]} y).toArray) F w):=by
 obtain⟨p1,c1,p2,c2,p3,c3,p4,c4,p5,c5,ey,k4,h4,kz⟩:=h.gx
 obtain⟨r,fv,rv,z⟩:=y
 cases ey
 dsimp only at kz
 obtain⟨q1,d1,q2,d2,rfl⟩:=hx.gx
 have hz:=h.2.1
 dsimp only at hz
 have htk:=hz.take (c.fs.length - 1) Pi
 have htl:(z.take (c.fs.length - 1)).length=c.fs.length - 1:=by rw[Pz];omega
 refine ae (l:=[_,_]) func115 rfl ntmps115 rfl (Ok.start w) ?_
 dsimp only[eO,wK]
 refine ar ?_
 refine aa.box [.slice p1 c.ao.ts.length c1,.slice p2 c.ao.ps.length c2,.slice p3 c.ao.ps.length c3,.int .i64 c.ao.bR,.slice p4 c.fs.length c4,.slice p5 c.results.length c5,.int .i64 0] rfl rfl rfl fun b2=>?_
 refine aa.box [.int .i64 f.op,.slice q1 f.par.length d1,.slice q2 f.res.length d2,.bool f.live,.bool f.lq] rfl rfl rfl fun b3=>?_
 repeat'(first|refine ar ?_|(refine ew fun b_=>?_)|fail)
 refine MR ?_
 intro b6 _
 refine aa.jN (b:=b6) (len:=0) 5 aH rfl (Pu _) ?_
 repeat'(first|refine ar ?_|(refine aa.y_ (Yl.cZ (i:=c.fs.length - 1) rfl rfl rfl rfl rfl Pi Pi) rfl ?_)|fail)
 refine aa.he (HE.gR (kY (z.take (c.fs.length - 1))) rfl rfl (fun _=>aH) ((vc htk ak).imp_left fun h=>by omega) (by rw[kZ,htl]) rfl rfl rfl Pk Pk Pk (oY _ htk.Gj) OP Pi (fun _ _=>Pu _)) rfl ?_
 intro v1 _
 simp only[Ps,Pp]
 refine aa.pure (φ:=∃p cc,v1=.slice p (c.fs.length - 1) cc) (fun w' hw'=>?_) ?_
 ·obtain⟨p,cc,e,_⟩:=aw (hw'.own (v:=v1));exact⟨p,cc,e⟩
 rintro⟨p6,c6,rfl⟩
 repeat'(first|refine ar ?_|fail)
 refine MR ?_
 intro b7 _
 repeat'(first|refine ar ?_|fail)
 refine MM ?_
 intro v2 _
 refine aa.pure (φ:=∃p cc,v2=.slice p (c.fs.length - 1+1) cc∧c.fs.length - 1+1≤cc) (fun w' hw'=>?_) ?_
 ·obtain⟨p,cc,e,h,_⟩:=aw (hw'.own (v:=v2));exact⟨p,cc,e,h⟩
 rintro⟨p7,c7,rfl,k7⟩
 repeat'(first|refine ar ?_|fail)
 refine MT ?_
 intro w' hw'
 have hE:Ext w w':=hw'.at
 have hs:cG c (fun k=>F k∨w.heap.size≤k) w' ⟨⟨.slice p1 c.ao.ts.length c1,.slice p2 c.ao.ps.length c2,.slice p3 c.ao.ps.length c3⟩,.slice p4 c.fs.length c4,.slice p5 c.results.length c5,z⟩:=by
  have h2:=cG.fr c h hE (fun _ _ _ h=>h)
  exact⟨h2.1.mono fun _ h=>.inl h,gF.mono A4.mo A4.ce h2.2.1 fun _ _ h=>.inl h,h2.2.2.1.mono fun _ _ h=>.inl h,h2.2.2.2⟩
 have hzn:(z.take (c.fs.length - 1)++[(f,.slice q1 f.par.length d1,.slice q2 f.res.length d2)]:List vI).length=c.fs.length - 1+1:=by rw[Py,htl];rfl
 have g:=oX (F:=F) (z.take (c.fs.length - 1)++[(f,.slice q1 f.par.length d1,.slice q2 f.res.length d2)]) hw' ak bO hzn.symm (by rw[qY];rfl) Pi (fun a ha=>by
  rcases PI.1 ha with ha|ha
  ·exact hs.2.1.Gj a (List.mem_of_mem_take ha)
  ·rw[PO.1 ha]
   exact dH.GH (dH.fr _ hx hE (fun _ _ _ h=>h)) fun _ _ h=>.inl h)
 refine⟨⟨(⟨⟨.slice p1 c.ao.ts.length c1,.slice p2 c.ao.ps.length c2,.slice p3 c.ao.ps.length c3⟩,.slice p7 (c.fs.length - 1+1) c7,.slice p5 c.results.length c5,z.take (c.fs.length - 1)++[(f,.slice q1 f.par.length d1,.slice q2 f.res.length d2)]⟩:jC),rfl,hs.1,g,hs.2.2.1,k7,?_⟩,hE⟩
 dsimp only
 rw[P1,Qe,h.2.2.2.2]
 rfl
section
variable {n:Nat} {E:Env} {M M':List bu} {R:List (World→Prop)} {v:Value} {x y:Operand} {t:TypeId} {w:World}
theorem bU.iu {ti:TI} {b j T:Nat} {old cs out:List Value} (ht:G.ty t=some ti) (hx:ev E x=some (.pointer (some ⟨b,j,none⟩))) (hy:ev E y=some v) (hcs:v.cells=cs.toArray) (hs:ti.size=cs.length) (hv:∀u∈cs,u.oneCell'=true)
  (hb:gQ w b old T) (_hl:j+cs.length≤old.length) (ho:old.take j++cs++old.drop (j+cs.length)=out):bU G n (.store t x y) E w (fun _ w'=>gQ w' b out T∧bX (fun k=>k=b) w w'∧w'.heap.size=w.heap.size):=by
 have h3:=run_storeCells_at (P:=G.P) b j T cs 0 old.toArray w hb Pe hv
 have e3:(old.toArray.toList.take (j+0)++cs++old.toArray.toList.drop (j+0+cs.length)).toArray=out.toArray:=by
  show(old.take (j+0)++cs++old.drop (j+0+cs.length)).toArray=_
  rw[Nat.add_zero,ho]
 rw[e3]at h3
 have hset:∀k,k≠b→(w.setRow b out.toArray).heap[k]?=w.heap[k]?:=fun k hk=>by
  simp only[World.setRow,Array.getElem?_modify]
  rw[if_neg (fun e=>hk e.symm)]
 refine bU.jl (w':=w.setRow b out.toArray) (fun a ha d ty pos aft gd=>?_) ⟨setRow_heap w b _ _ T _ hb,⟨rfl,rfl,rfl,by simp[World.setRow],fun k _ hk=>hset k hk⟩,by simp[World.setRow]⟩
 have h1:=(G.iT t ti ht).size w
 simp[execOp,ha.eval hx,ha.eval hy,Instr.storeAt,Instr.sureAddr,storeVar,h1,hcs,hs,h3]
theorem gj.iu {ti:TI} {b j T:Nat} {old:List Value} (cs out:List Value) (ht:G.ty t=some ti) (hx:ev E x=some (.pointer (some ⟨b,j,none⟩))) (hy:ev E y=some v) (hcs:v.cells=cs.toArray) (hs:ti.size=cs.length) (hv:(cs.all fun u=>u.oneCell')=true)
  (hM:Up (.aW b old T) (.aW b out T) M M') (hl:Nat.ble (j+cs.length) old.length=true) (ho:old.take j++cs++old.drop (j+cs.length)=out):gj n (.store t x y) E M R (fun _:Unit=>True) (fun _=>M') (fun _=>R):=
 ⟨fun _w hw=>(bU.iu ht hx hy hcs hs (fun u hu=>List.all_eq_true.1 hv u hu) (hw.m _ hM.mem).1 (Nat.le_of_ble_eq_true hl) ho).mono fun _ _w' ⟨hb,hc,_⟩=>⟨(),trivial,xW hw hM hb hc⟩⟩
end
theorem cG.mono {c:gA} {D H:Nat→Prop} {w:World} {y:jC} (h:cG c D w y) (hd:∀k,D k→H k):cG c H w y:=
 ⟨h.1.mono hd,gF.mono A4.mo A4.ce h.2.1 fun k _=>hd k,h.2.2.1.mono fun k _=>hd k,h.2.2.2⟩
def wZ (c:gA) (y:jC) (s:ck) (D:Nat→Prop) (w:World) (x:jT):Prop:=cG c D w y∧bw s D w x
theorem wZ.fr (c:gA) (y:jC) (s:ck):vJ (wZ c y s):=fun h hc hd=>⟨cG.fr c h.1 hc hd,bw.fr s h.2 hc hd⟩
theorem wZ.lt (c:gA) (y:jC) (s:ck):Ey (wZ c y s):=fun h=>⟨cG.lt c h.1,bw.lt s h.2⟩
theorem cG.mo (c:gA):zb (cG c):=fun hd h=>cG.mono h hd
theorem wZ.mo (c:gA) (y:jC) (s:ck):zb (wZ c y s):=fun hd h=>⟨cG.mono h.1 hd,bw.mono h.2 hd⟩
theorem wZ.gives {c:gA} {y:jC} {s:ck} {tf:jT→Value} {D:Nat→Prop} {w w':World} {e:Ending} (h:cG c D w y) (hg:bD (bw s) tf D w e w'):bD (wZ c y s) tf D w e w':=by
 obtain⟨⟨x,e1,h1⟩,hx⟩:=hg
 exact⟨⟨x,e1,(cG.fr c h hx (fun _ _ _ h=>h)).mono fun _ h=>.inl h,h1⟩,hx⟩
theorem wZ.put {c:gA} {y:jC} {s:ck} {D:Nat→Prop} {w:World} {x:jT} (h:wZ c y s D w x):cG {c with ao:=s} D w {y with r:=x}:=⟨h.2,h.1.2.1,h.1.2.2.1,h.1.2.2.2⟩
def pw (c:gA):gA:={c with ao:=dG c.ao,fs:=c.fs.take (c.fs.length - 1)++[{ix c.fs (c.fs.length - 1)with live:=false}]}
theorem BN (F:Nat→Prop) (c:gA) (y:jC) (w:World) (h:cG c F w y) (h0:0<c.fs.length) (hfl:c.fs.length≤1000000) (hp:0<c.ao.ps.length) (ha:0≤c.ao.at_) (hle:c.ao.at_≤c.ao.ts.length) (hpl:c.ao.ps.length≤1000000):Calls G.P 69 #[.agg (eO c y).toArray] w (bD (cG (pw c)) (fun y=>.agg (eO (pw c) y).toArray) F w):=by
 obtain⟨_,_,q1,d1,q2,d2,_,-,e5,-,-⟩:=h.frame (i:=c.fs.length - 1) Pi
 obtain⟨p1,c1,p2,c2,p3,c3,p4,c4,p5,c5,ey,k4,h4,kz⟩:=h.gx
 obtain⟨r,fv,rv,z⟩:=y
 cases ey
 dsimp only at kz e5
 have htop:∀D w',cG c D w' ⟨⟨.slice p1 c.ao.ts.length c1,.slice p2 c.ao.ps.length c2,.slice p3 c.ao.ps.length c3⟩,.slice p4 c.fs.length c4,.slice p5 c.results.length c5,z⟩→Calls G.P 63 #[.agg #[.slice p1 c.ao.ts.length c1,.slice p2 c.ao.ps.length c2,.slice p3 c.ao.ps.length c3,.int .i64 c.ao.bR,.slice p4 c.fs.length c4,.slice p5 c.results.length c5,.int .i64 0]] w' fun e w2=>e=.returned (.agg #[.int .i64 (ix c.fs (c.fs.length - 1)).op,.slice q1 (ix c.fs (c.fs.length - 1)).par.length d1,.slice q2 (ix c.fs (c.fs.length - 1)).res.length d2,.bool (ix c.fs (c.fs.length - 1)).live,.bool (ix c.fs (c.fs.length - 1)).lq])∧Ext w' w2:=fun D w' hh=>by
  have:=ke D c ⟨⟨.slice p1 c.ao.ts.length c1,.slice p2 c.ao.ps.length c2,.slice p3 c.ao.ps.length c3⟩,.slice p4 c.fs.length c4,.slice p5 c.results.length c5,z⟩ w' hh h0
  dsimp only at this
  rw[e5]at this
  exact this
 refine ae (l:=[_]) func69 rfl ntmps69 rfl (Ok.fg (V:=cG c) (cG.fr c) (cG.lt c) h) ?_
 dsimp only[eO]
 repeat'(first|refine ar ?_|(refine aF fun b_=>?_)|(refine ew fun b_=>?_)|fail)
 all_goals first|omega|skip
 refine aa.he (HE.eU rfl rfl (fun w' hw'=>htop _ w' (hw'.an (V:=cG c) (w0:=w) (F:=F) (D:=fun _=>False) (y:=⟨⟨.slice p1 c.ao.ts.length c1,.slice p2 c.ao.ps.length c2,.slice p3 c.ao.ps.length c3⟩,.slice p4 c.fs.length c4,.slice p5 c.results.length c5,z⟩) ak bO))) rfl ?_
 rintro⟨⟩ _
 refine aa.alloc (t:=Gg) [.int .i64 0,.slice none 0 0,.slice none 0 0,.bool false,.bool false] rfl rfl rfl fun b3=>?_
 repeat'(first|refine ar ?_|fail)
 have hlo:∀D w',cG c D w' ⟨⟨.slice p1 c.ao.ts.length c1,.slice p2 c.ao.ps.length c2,.slice p3 c.ao.ps.length c3⟩,.slice p4 c.fs.length c4,.slice p5 c.results.length c5,z⟩→Calls G.P 117 #[.agg #[.slice p1 c.ao.ts.length c1,.slice p2 c.ao.ps.length c2,.slice p3 c.ao.ps.length c3,.int .i64 c.ao.bR]] w' (bD (wZ c ⟨⟨.slice p1 c.ao.ts.length c1,.slice p2 c.ao.ps.length c2,.slice p3 c.ao.ps.length c3⟩,.slice p4 c.fs.length c4,.slice p5 c.results.length c5,z⟩ (dG c.ao)) (fun x=>.agg (gw (dG c.ao) x).toArray) D w'):=fun D w' hh=>
  (Al D c.ao ⟨.slice p1 c.ao.ts.length c1,.slice p2 c.ao.ps.length c2,.slice p3 c.ao.ps.length c3⟩ w' hh.1 hp ha hle hpl).mono fun _ _ hg=>wZ.gives hh hg
 refine aa.he (HE.bV (V:=cG c) (V2:=wZ c ⟨⟨.slice p1 c.ao.ts.length c1,.slice p2 c.ao.ps.length c2,.slice p3 c.ao.ps.length c3⟩,.slice p4 c.fs.length c4,.slice p5 c.results.length c5,z⟩ (dG c.ao)) (w0:=w) (F:=F) (D:=fun _=>False) (y:=⟨⟨.slice p1 c.ao.ts.length c1,.slice p2 c.ao.ps.length c2,.slice p3 c.ao.ps.length c3⟩,.slice p4 c.fs.length c4,.slice p5 c.results.length c5,z⟩) (wZ.fr _ _ _) (wZ.lt _ _ _) (wZ.mo _ _ _) ak bO (fun _=>aH) rfl rfl (fun w' _ h=>hlo _ w' h)) rfl ?_
 rintro⟨D',x⟩ _
 refine aa.pure (φ:=∃p1 n1 c1 p2 n2 c2 p3 n3 c3,x=⟨.slice p1 n1 c1,.slice p2 n2 c2,.slice p3 n3 c3⟩) (fun w' hw'=>?_) ?_
 ·obtain⟨p1,c1,p2,c2,p3,c3,e,-⟩:=(hw'.an (V:=wZ c ⟨⟨.slice p1 c.ao.ts.length c1,.slice p2 c.ao.ps.length c2,.slice p3 c.ao.ps.length c3⟩,.slice p4 c.fs.length c4,.slice p5 c.results.length c5,z⟩ (dG c.ao)) (w0:=w) (F:=F) (D:=D') (y:=x) ak bO).2.gx
  exact⟨p1,_,c1,p2,_,c2,p3,_,c3,e⟩
 rintro⟨s1,m1,k1,s2,m2,k2,s3,m3,k3,rfl⟩
 dsimp only[gw]
 repeat'(first|refine ar ?_|fail)
 refine aa.jO (gj.iu [.slice s1 m1 k1,.slice s2 m2 k2,.slice s3 m3 k3,.int .i64 (dG c.ao).bR] [.slice s1 m1 k1,.slice s2 m2 k2,.slice s3 m3 k3,.int .i64 (dG c.ao).bR,.slice p4 c.fs.length c4,.slice p5 c.results.length c5,.int .i64 0] rfl rfl rfl rfl rfl rfl aH rfl rfl) ?_
 rintro⟨⟩ _
 repeat'(first|refine ar ?_|fail)
 have hwi:∀D' w',wZ c ⟨⟨.slice p1 c.ao.ts.length c1,.slice p2 c.ao.ps.length c2,.slice p3 c.ao.ps.length c3⟩,.slice p4 c.fs.length c4,.slice p5 c.results.length c5,z⟩ (dG c.ao) D' w' ⟨.slice s1 m1 k1,.slice s2 m2 k2,.slice s3 m3 k3⟩→Calls G.P 115 #[.agg #[.slice s1 m1 k1,.slice s2 m2 k2,.slice s3 m3 k3,.int .i64 (dG c.ao).bR,.slice p4 c.fs.length c4,.slice p5 c.results.length c5,.int .i64 0],.agg #[.int .i64 (ix c.fs (c.fs.length - 1)).op,.slice q1 (ix c.fs (c.fs.length - 1)).par.length d1,.slice q2 (ix c.fs (c.fs.length - 1)).res.length d2,.bool false,.bool (ix c.fs (c.fs.length - 1)).lq]] w' (bD (cG (pw c)) (fun y=>.agg (eO (pw c) y).toArray) D' w'):=fun D' w' hh=>by
  obtain⟨_,_,_,_,_,_,_,-,-,hx,-⟩:=hh.1.frame (i:=c.fs.length - 1) Pi
  dsimp only at hx
  rw[e5]at hx
  have:=uH D' {c with ao:=dG c.ao} ⟨⟨.slice s1 m1 k1,.slice s2 m2 k2,.slice s3 m3 k3⟩,.slice p4 c.fs.length c4,.slice p5 c.results.length c5,z⟩ {ix c.fs (c.fs.length - 1)with live:=false} (.slice q1 (ix c.fs (c.fs.length - 1)).par.length d1,.slice q2 (ix c.fs (c.fs.length - 1)).res.length d2) w' (wZ.put hh) hx h0 hfl
  exact this
 refine aa.he (HE.bV (V:=wZ c ⟨⟨.slice p1 c.ao.ts.length c1,.slice p2 c.ao.ps.length c2,.slice p3 c.ao.ps.length c3⟩,.slice p4 c.fs.length c4,.slice p5 c.results.length c5,z⟩ (dG c.ao)) (V2:=cG (pw c)) (w0:=w) (F:=F) (D:=D') (y:=⟨.slice s1 m1 k1,.slice s2 m2 k2,.slice s3 m3 k3⟩) (cG.fr _) (cG.lt _) (cG.mo _) ak bO (fun _=>aH) rfl rfl (fun w' _ h=>hwi _ w' h)) rfl ?_
 rintro⟨D2,y2⟩ _
 refine aa.pure (φ:=∃p1 n1 c1 p2 n2 c2 p3 n3 c3 p4 n4 c4 p5 n5 c5,∃z:List vI,y2=⟨⟨.slice p1 n1 c1,.slice p2 n2 c2,.slice p3 n3 c3⟩,.slice p4 n4 c4,.slice p5 n5 c5,z⟩) (fun w' hw'=>?_) ?_
 ·obtain⟨p1,c1,p2,c2,p3,c3,p4,c4,p5,c5,e,-⟩:=(hw'.an (V:=cG (pw c)) (w0:=w) (F:=F) (D:=D2) (y:=y2) ak bO).gx
  exact⟨p1,_,c1,p2,_,c2,p3,_,c3,p4,_,c4,p5,_,c5,_,e⟩
 rintro⟨t1,e1,l1,t2,e2,l2,t3,e3,l3,t4,e4,l4,t5,e5',l5,z5,rfl⟩
 dsimp only[eO]
 repeat'(first|refine ar ?_|fail)
 refine MT ?_
 exact fun w' hw'=>bD.sE (V:=cG (pw c)) (D:=D2) (y:=⟨⟨.slice t1 e1 l1,.slice t2 e2 l2,.slice t3 e3 l3⟩,.slice t4 e4 l4,.slice t5 e5' l5,z5⟩) (cG.mo _) hw' ak bO
theorem bA.ix {n fuel i:Nat} {listed:Array Bool} {E:Env} {M:List bu} {R:List (World→Prop)} (k:Nat) (h:bA z l Q Mc Rc n fuel listed i E M R) (_:Nat.beq i k=true:=by decide):bA z l Q Mc Rc n fuel listed i E M R:=h
theorem db.map {n fuel:Nat} {listed:Array Bool} {E:Env} {M M':List bu} {R R':List (World→Prop)} (hp:∀w,Ok M R w→Ok M' R' w) (h:db z l Q Mc Rc n fuel listed E M' R'):db z l Q Mc Rc n fuel listed E M R:=⟨fun w hw=>h.h w (hp w hw)⟩
def fH (l:List Value):Prop:=∃p1 n1 c1 p2 n2 c2 p3 n3 c3 m p4 n4 c4 p5 n5 c5 b,l=[.slice p1 n1 c1,.slice p2 n2 c2,.slice p3 n3 c3,.int .i64 m,.slice p4 n4 c4,.slice p5 n5 c5,.int .i64 b]
theorem fH.mk (n1 c1:Nat) (p2:Option Addr) (n2 c2:Nat) (p3:Option Addr) (n3 c3:Nat) (m:Int) (p4:Option Addr) (n4 c4:Nat) (p5:Option Addr) (n5 c5:Nat) (b:Int):fH [.slice p1 n1 c1,.slice p2 n2 c2,.slice p3 n3 c3,.int .i64 m,.slice p4 n4 c4,.slice p5 n5 c5,.int .i64 b]:=⟨p1,n1,c1,p2,n2,c2,p3,n3,c3,m,p4,n4,c4,p5,n5,c5,b,rfl⟩
theorem cG.v7 {c:gA} {D:Nat→Prop} {w:World} {y:jC} (h:cG c D w y):fH (eO c y):=by
 obtain⟨p1,c1,p2,c2,p3,c3,p4,c4,p5,c5,e,-⟩:=h.gx
 rw[e]
 exact fH.mk ..
def fY (r:gA×Int) (D:Nat→Prop) (w:World) (x:jC×List Value):Prop:=fH x.2∧(r.2=0→x.2=eO r.1 x.1∧cG r.1 D w x.1)
def gG (r:gA×Int) (F:Nat→Prop) (w:World):Ending→World→Prop:=bD (fY r) (fun x=>.tuple #[.agg x.2.toArray,.int .i64 r.2]) F w
theorem fY.fr (r:gA×Int):vJ (fY r):=fun h hc hd=>⟨h.1,fun e=>⟨(h.2 e).1,cG.fr _ (h.2 e).2 hc hd⟩⟩
theorem fY.lt (r:gA×Int):Ey (fY r):=fun h=>⟨h.1,fun e=>⟨(h.2 e).1,cG.lt _ (h.2 e).2⟩⟩
theorem fY.mo (r:gA×Int):zb (fY r):=fun hd h=>⟨h.1,fun e=>⟨(h.2 e).1,cG.mono (h.2 e).2 hd⟩⟩
theorem gG.err {c:gA} {e:Int} {F:Nat→Prop} {w w':World} {l:List Value} (hl:fH l) (he:e≠0) (hx:Ext w w'):gG (c,e) F w (.returned (.tuple #[.agg l.toArray,.int .i64 e])) w':=⟨⟨(⟨⟨.slice none 0 0,.slice none 0 0,.slice none 0 0⟩,.slice none 0 0,.slice none 0 0,[]⟩,l),rfl,hl,fun h=>absurd h he⟩,hx⟩
theorem gG.ok {c:gA} {F:Nat→Prop} {w w':World} (y:jC) (h:cG c (fun k=>F k∨w.heap.size≤k) w' y) (hx:Ext w w'):gG (c,0) F w (.returned (.tuple #[.agg (eO c y).toArray,.int .i64 0])) w':=⟨⟨(y,eO c y),rfl,h.v7,fun _=>⟨rfl,h⟩⟩,hx⟩
theorem cG.at {c:gA} {F D:Nat→Prop} {s:ck} {w w':World} {y:jC} {x:jT} (h:cG c F w y) (hx:Ext w w') (hr:bw s D w' x):cG {c with ao:=s} (fun _=>True) w' {y with r:=x}:=by
 have h2:=(cG.fr c h hx (fun _ _ _ h=>h)).mono (H:=fun _=>True) fun _ _=>trivial
 exact⟨hr.mono fun _ _=>trivial,h2.2⟩
theorem Ok.new {β:Type} {V:(Nat→Prop)→World→β→Prop} {w w':World} {F D:Nat→Prop} {y:β} (hm:zb V) (hw:Ok M R w') (hR:Ext w∈R) (hM:bu.an V w F D y∈M):V (fun k=>F k∨w.heap.size≤k) w' y:=by
 obtain⟨⟨x,e,h⟩,_⟩:=bD.sE (V:=V) (tf:=fun _=>.bool true) hm hw hR hM
 exact hm (fun k hk=>hk.elim (fun h=>.inl h.1) fun h=>by
  rcases PG k w.heap.size with hlt|hge
  ·exact(hw.origin (S:=fun _=>False) hR k ⟨_,hM,h⟩ hlt).elim
  ·exact .inr hge) (hw.an hR hM)
def og (c:gA) (op:Int) (f:aO):gA×Int:=
 if op≠2∧op≠3∧op≠4 then(c,1)else if c.fs.length=0 then(c,16)else
  if(if op=4 then aL c.ao [1]else(c.ao,0)).2≠0 then(c,(if op=4 then aL c.ao [1]else(c.ao,0)).2)else
   if(aL (if op=4 then aL c.ao [1]else(c.ao,0)).1 f.params).2≠0 then(c,(aL (if op=4 then aL c.ao [1]else(c.ao,0)).1 f.params).2)else
    ({c with ao:=aS (aV (aL (if op=4 then aL c.ao [1]else(c.ao,0)).1 f.params).1) f.params,fs:=c.fs++[⟨op,f.params,f.results,(ix c.fs (c.fs.length - 1)).live,(ix c.fs (c.fs.length - 1)).live⟩]},0)
theorem oH (F:Nat→Prop) (c:gA) (y:jC) (op:Int) (f:aO) (fp fq:Option Addr) (fc fd:Nat) (w:World) (h:cG c F w y) (_hf:dH f F w (.slice fp f.params.length fc,.slice fq f.results.length fd)) (hs:c.ao.Wf) (_hfl:c.fs.length≤1000000) (_hpl:c.ao.ps.length≤1000000) (hb:c.ao.ts.length+f.params.length≤17592186044416) (he:(op≠2∧op≠3∧op≠4)∨c.fs.length=0):Calls G.P 66 #[.agg (eO c y).toArray,.int .i64 op,.agg #[.slice fp f.params.length fc,.slice fq f.results.length fd]] w (gG (c,if op≠2∧op≠3∧op≠4 then 1 else 16) F w):=by
 have:=hb;clear this
 have hps:=hs.some
 have hat:=hs.at_
 obtain⟨p1,c1,p2,c2,p3,c3,p4,c4,p5,c5,ey,k4,h4,kz⟩:=h.gx
 obtain⟨r,fv,rv,z⟩:=y
 cases ey
 refine Mu ?_
 dsimp only[eO]
 by_cases ho:op≠2∧op≠3∧op≠4
 ·rw[if_pos ho]
  obtain⟨o2,o3,o4⟩:=ho
  repeat'(first|refine ar ?_|(refine aF fun b_=>?_)|(refine ew fun b_=>?_)|(refine dy fun b_=>?_)|(refine bC ?_ ?_<;>intro hc_))
  all_goals exact pp
 ·rw[if_neg ho]
  have hn:c.fs.length=0:=he.resolve_left ho
  have hn':(c.fs.length:Int)=0:=by omega
  repeat'(first|refine ar ?_|(refine aF fun b_=>?_)|(refine ew fun b_=>?_)|(refine dy fun b_=>?_)|(refine bC ?_ ?_<;>intro hc_))
  all_goals exact pp
theorem HE.GF {n:Nat} {E:Env} {M:List bu} {R:List (World→Prop)} {β2:Type} {V2:(Nat→Prop)→World→β2→Prop} (hV2:vJ V2) (hl:Ey V2) {tf:β2→Value} {f:Nat} {args:List Operand} {tys:Array TypeId} {vs:List Value}
  (hf:G.fb[f]?=some true) (ha:kJ E args=some vs) (hc:∀w,Ok M R w→Calls G.P f vs.toArray w (bD V2 tf (fun _=>False) w)):
  HE n (.call ⟨.value (.func f),args.toArray,tys⟩) E M R (fun _:(Nat→Prop)×β2=>True) (fun x=>tf x.2) (fun x=>.kq V2 hV2 x.1 x.2::M) (fun _=>R):=
 ⟨fun w hw=>(bU.call hf ha (hc w hw) (fun e w' h=>by obtain⟨⟨x,e1,_⟩,_⟩:=h;exact⟨_,e1⟩)).mono fun v w' ⟨⟨x,e1,hv⟩,hx⟩=>by
  cases e1
  refine⟨(fun k=>(False∨w.heap.size≤k)∧k<w'.heap.size,x),trivial,rfl,hw.push hx (hl hv) ?_⟩
  rintro k ⟨hk,hlt⟩
  exact⟨hk.elim (fun h=>h.elim) (fun h=>h),hlt⟩⟩
def DQ (l:List Int):gA:=⟨aV ⟨[],[(0,false)],0⟩,[⟨11,[],l,true,true⟩],l⟩
theorem Ed (F:Nat→Prop) (l:List Int) (v:Value) (w:World) (h:ai F w v l):Calls G.P 35 #[v] w (bD (cG (DQ l)) (fun y=>.agg (eO (DQ l) y).toArray) F w):=by
 obtain⟨q,d,rfl,hl⟩:=h.slice
 refine ae (l:=[_]) func35 rfl ntmps35 rfl (Ok.start w) ?_
 repeat'(first|refine ar ?_|(refine ew fun b_=>?_)|fail)
 refine aa.alloc (t:=Gg) [.int .i64 0,.slice none 0 0,.slice none 0 0,.bool false,.bool false] rfl rfl rfl fun b3=>?_
 repeat'(first|refine ar ?_|fail)
 refine bh.iB 6 [.aW b3 [.int .i64 11,.slice none 0 0,.slice q l.length d,.bool true,.bool true] Gg] [Ext w] bz aU ?_
 repeat'(first|refine CZ ?_|(refine bA.dA 62 ?_;refine bA.he rfl rfl (HE.GF (V2:=bw ⟨[],[(0,false)],0⟩) (bw.fr _) (bw.lt _) (tf:=fun y=>.agg (gw ⟨[],[(0,false)],0⟩ y).toArray) rfl rfl (fun w' hw'=>Ec w')) (fun _=>bz) (fun _=>aU) ?_;rintro⟨D1,y1⟩ _;dsimp only)|(refine bA.dA 61 ?_;refine bA.he rfl rfl (HE.H3 (V:=bw ⟨[],[(0,false)],0⟩) (V2:=bw (aV ⟨[],[(0,false)],0⟩)) (bw.fr _) (bw.fr _) (bw.lt _) (tf:=fun y=>.agg (gw (aV ⟨[],[(0,false)],0⟩) y).toArray) (fun _=>aH) rfl rfl (fun w' hw'=>ns D1 ⟨[],[(0,false)],0⟩ y1 w' (show bw ⟨[],[(0,false)],0⟩ D1 w' y1 from(hw'.m (.kq (bw ⟨[],[(0,false)],0⟩) (bw.fr _) D1 y1) bO).1) Ph)) (fun _=>bz) (fun _=>aU) ?_;rintro⟨D2,y2⟩ _;dsimp only;refine db.pure (φ:=∃p1 c1 p2 c2 p3 c3,y2=⟨.slice p1 0 c1,.slice p2 2 c2,.slice p3 2 c3⟩) (fun w' hw'=>?_) ?_;(·obtain⟨p1,c1,p2,c2,p3,c3,e,-⟩:=(show bw (aV ⟨[],[(0,false)],0⟩) D2 w' y2 from(hw'.m (.kq (bw (aV ⟨[],[(0,false)],0⟩)) (bw.fr _) D2 y2) bO).1).gx;exact⟨p1,c1,p2,c2,p3,c3,e⟩);rintro⟨r1,k1,r2,k2,r3,k3,rfl⟩;dsimp only[gw])|(refine bA.lD ?_;refine bA.he rfl rfl (HE.jG rfl rfl rfl rfl rfl er Pk Pk) (fun _=>bz) (fun _=>aU) ?_;intro b7 _)|(refine bA.iO rfl (gj.bn [.slice r1 0 k1,.slice r2 2 k2,.slice r3 2 k3,.int .i64 0,.slice (some ⟨b7,0,none⟩) 1 1,.slice q l.length d,.int .i64 0] rfl rfl rfl rfl rfl rfl aH rfl) ?_;rintro⟨⟩ _)|refine db.any O9 ?_|exact cw.fin rfl|refine cw.skip O9 ?_|refine cw.go ?_ ?_)
 all_goals
  repeat'(first|refine ar ?_|fail)
  refine MT ?_
  intro w' hw'
  have g1:bw (aV ⟨[],[(0,false)],0⟩) (fun k=>F k∨w.heap.size≤k) w' ⟨.slice r1 0 k1,.slice r2 2 k2,.slice r3 2 k3⟩:=bw.mono (show bw (aV ⟨[],[(0,false)],0⟩) D2 w' ⟨.slice r1 0 k1,.slice r2 2 k2,.slice r3 2 k3⟩from(hw'.m (.kq (bw (aV ⟨[],[(0,false)],0⟩)) (bw.fr _) D2 _) bO).1) fun k hk=>by
   rcases PG k w.heap.size with h|h
   ·exact(hw'.origin (S:=fun _=>False) (show Ext w∈_ from ak) k ⟨.kq (bw (aV ⟨[],[(0,false)],0⟩)) (bw.fr _) D2 ⟨.slice r1 0 k1,.slice r2 2 k2,.slice r3 2 k3⟩,bO,hk⟩ h).elim
   ·exact .inr h
  have g2:vK (fun k=>F k∨w.heap.size≤k) w' (.slice (some ⟨b7,0,none⟩) 1 1) [(⟨11,[],l,true,true⟩,.slice none 0 0,.slice q l.length d)]:=oX (n:=1) (cs:=[.int .i64 11,.slice none 0 0,.slice q l.length d,.bool true,.bool true]) _ (hw'.jN (b:=b7) (len:=1) (s:=5) (T:=Gg) aH rfl O4) ak bO rfl rfl (show 1≤1000001 by omega) (fun a ha=>by
   rw[PO.1 ha]
   exact⟨ai.cH _ _,h.ka hw' ak⟩)
  exact⟨⟨(⟨⟨.slice r1 0 k1,.slice r2 2 k2,.slice r3 2 k3⟩,.slice (some ⟨b7,0,none⟩) 1 1,.slice q l.length d,[(⟨11,[],l,true,true⟩,.slice none 0 0,.slice q l.length d)]⟩:jC),rfl,g1,g2,h.ka hw' ak,Px _,rfl⟩,hw'.at⟩
end Go.Proofs.YtdkcljdfbemnbaaGreatDoor
