/- The reference's operand stack (layer 21): Same, New, Open, Loose. -/
import Derived.Test.YtdkcljdfbemnbaaGreatDoorJRx
import Derived.Test.YtdkcljdfbemnbaaGreatDoorJGh
import Derived.Test.YtdkcljdfbemnbaaGreatDoorJTz
namespace Go.Proofs.YtdkcljdfbemnbaaGreatDoor
open Go.RowKit _root_.Go.Proofs.Tryz
set_option maxHeartbeats 32000000
open List renaming cons_append→Pj,getElem?_eq_some_iff→PL,getElem?_map→PK,getElem_take→Qf,length_append→Pt,length_map→PS,length_take→Ps,map_append→PT,map_take→P5,mem_append→PE,mem_singleton→PI,nil_append→Pi,take_length→Pu
open Nat renaming blt→Pn,le_refl→Pr,lt_or_ge→PA,zero_add→Pm,zero_le→Po
set_option maxRecDepth 100000
def qu (l:List Bool):List Value:=l.map Value.bool
abbrev Kj:Nat:=4
abbrev JI:Nat:=3
variable (D:Nat→Prop) (p1:Option Addr) (n1 c1:Nat) (p2:Option Addr) (n2 c2:Nat) (p3:Option Addr) (n3 c3:Nat) (m:Int) (p4:Option Addr) (n4 c4:Nat) (p5:Option Addr) {s:ck} {z:Nat} {l:List Oper} {ops:Array Oper} {Q:Exit→Act→World→Prop} {Mc:List bu} {Rc:List (World→Prop)} {F:Nat→Prop} {w:World} {p:Option Addr} {n c:Nat} {xs:List Bool} {M:List bu} {R:List (World→Prop)}
theorem GZ {B T:Nat} {v:Value} {xs:List Bool} (h:w.ownsRow B T 1 v xs.length (qu xs)) (hl:xs.length≤17592186044416):jo (fun k=>v.ownBlock=some k) w v xs:=by
 obtain⟨p,c,rfl,hn,hc,hg⟩:=aw h
 refine⟨p,c,rfl,hl,?_⟩
 by_cases h0:xs.length=0
 ·exact wl
 ·obtain⟨g,rfl,-⟩:=hg Pc
  refine .inr ⟨g,0,rfl,rfl,fun i hi=>?_⟩
  show w.cell? ⟨g,0+i*1,none⟩=some (.bool (ix xs i))
  rw[Nat.mul_one,Pm]
  exact dO h (by unfold qu;rw[PK,iy hi];rfl)
theorem xS {w w':World} {M:List bu} {R:List (World→Prop)} {B T n:Nat} {v:Value} {cs:List Value} (xs:List Bool) (hw:Ok M R w') (hR:Ext w∈R) (hm:bu.own B T 1 v n cs∈M) (hn:n=xs.length) (hcs:cs=qu xs) (hl:xs.length≤17592186044416):jo (fun k=>F k∨w.heap.size≤k) w' v xs:=by
 subst hn hcs
 have ho:w'.ownsRow B T 1 v xs.length (qu xs):=(hw.m _ hm).1
 refine jo.mono (GZ ho hl) fun k _ hk=>.inr ?_
 rcases PA k w.heap.size with h|h
 ·exact(hw.origin (S:=fun _=>False) hR k ⟨_,hm,hk⟩ h).elim
 ·exact h
theorem EP (h:jo F w (.slice p n c) xs) (hR:Ext w∈R):xs.length=0∨∃bk o,p=some ⟨bk,o,none⟩∧∀w',Ok M R w'→∀j u,(qu xs)[j]?=some u→w'.cell? ⟨bk,o+j,none⟩=some u:=by
 obtain⟨p',c',e,hl,h⟩:=h
 cases e
 rcases h with h|⟨b,o,rfl,hF,h⟩
 ·exact .inl (by rw[h];rfl)
 ·refine .inr ⟨b,o,rfl,fun w' hw' j u hj=>?_⟩
  have hj':j<xs.length:=by have:=(PL.1 hj).1;simpa[qu]using this
  have h1:w.cell? ⟨b,o+j*1,none⟩=some (.bool (ix xs j)):=h j hj'
  rw[Nat.mul_one]at h1
  refine(show Ext w w' from hw'.at hR).cell ?_
  rw[h1,←hj];unfold qu;rw[PK,iy hj'];rfl
theorem jo.take (h:jo F w (.slice p n c) xs) (k:Nat) (_hk:k≤xs.length):jo F w (.slice p k c) (xs.take k):=by
 obtain⟨p',c',e,hl,h⟩:=h
 cases e
 have ht:(xs.take k).length=k:=by rw[Ps];omega
 refine⟨p,c,by rw[ht],by omega,?_⟩
 rcases h with h|⟨b,o,rfl,hF,h⟩
 ·exact .inl (by rw[h];simp)
 ·refine .inr ⟨b,o,rfl,hF,fun i hi=>?_⟩
  rw[ht]at hi
  rw[cz Pc,Qf,←cz Pc]
  exact h i Pc
theorem Cq (xs:List Bool):∀u∈qu xs,u.oneCell'=true:=by
 intro u hu;obtain⟨a,_,rfl⟩:=List.mem_map.1 hu;rfl
theorem rJ {xs ys:List Int} {j:Nat} (hx:j<xs.length) (hy:j<ys.length) (h:xs.take j=ys.take j):xs.take (j+1)=ys.take (j+1)↔ix xs j=ix ys j:=by
 rw[bM hx,bM hy,h]
 constructor
 ·intro h;simpa using h
 ·intro h;rw[h]
theorem uB (F F':Nat→Prop) (xs ys:List Int) (v u:Value) (w:World) (h:ai F w v xs) (h':ai F' w u ys):Calls G.P 16 #[v,u] w fun e w'=>e=.returned (.bool (decide (xs=ys)))∧Ext w w':=by
 obtain⟨p,c,rfl,hl⟩:=h.slice
 obtain⟨q,d,rfl,hl'⟩:=h'.slice
 refine ae (l:=[_,_]) func16 rfl ntmps16 rfl (Ok.start w) ?_
 by_cases hlen:xs.length=ys.length
 ·repeat'(first|refine ar ?_|fail)
  refine MF ?_
  rintro j ⟨hj,heq⟩
  by_cases hjl:j<xs.length
  ·obtain⟨b7,o7,rfl,-,hc⟩:=h.at hjl
   obtain⟨b8,o8,rfl,-,hc'⟩:=h'.at (show j<ys.length by omega)
   have hcj:=hc j hjl
   have hcj':=hc' j Pc
   have hst:=rJ hjl (show j<ys.length by omega) heq
   by_cases he:ix xs j=ix ys j
   ·repeat'(first|refine ar ?_|fail)
    all_goals exact ne
   ·repeat'(first|refine ar ?_|fail)
    all_goals exact pi
  ·obtain rfl:j=xs.length:=by omega
   rw[Pu,hlen,Pu]at heq
   repeat'(first|refine ar ?_|fail)
   all_goals exact pm
 ·repeat'(first|refine ar ?_|fail)
  all_goals exact pp
theorem DZ (w:World):Calls G.P 62 #[] w (IC ⟨[],[(0,false)],0⟩ (fun _=>False) w):=by
 refine ae (l:=[]) func62 rfl ntmps62 rfl (Ok.start w) ?_
 repeat'(first|refine ar ?_|(refine dy fun b_=>?_)|fail)
 refine MJ ?_
 intro b1 _
 repeat'(first|refine ar ?_|fail)
 refine MJ ?_
 intro b2 _
 refine aa.jP (b:=b2) 1 aH rfl OY ?_
 refine aa.jP (b:=b1) 1 aH rfl OY ?_
 repeat'(first|refine ar ?_|fail)
 refine Mj ?_
 intro w' hw'
 have g1:ai (fun k=>(fun _=>False) k∨w.heap.size≤k) w' (.slice (some ⟨b1,0,none⟩) 1 1) [0]:=n9 (n:=1) (cs:=[.int .i64 0]) [0] hw' ak bO rfl rfl Pd
 have g2:jo (fun k=>(fun _=>False) k∨w.heap.size≤k) w' (.slice (some ⟨b2,0,none⟩) 1 1) [false]:=xS (n:=1) (cs:=[.bool false]) [false] hw' ak bO rfl rfl Pd
 exact⟨⟨(⟨.slice none 0 0,.slice (some ⟨b1,0,none⟩) 1 1,.slice (some ⟨b2,0,none⟩) 1 1⟩:jV),rfl,ai.cI _ _,g1,g2,Pr _,Pr _,Pr _⟩,hw'.at⟩
theorem Bp (s:ck):(aW s).marks=s.marks++[(s.ts.length:Int)]∧(aW s).eY=s.eY++[false]:=by unfold ck.marks ck.eY aW;simp
theorem nm (F:Nat→Prop) (s:ck) (y:jV) (w:World) (h:bz s F w y) (_hpl:s.ps.length≤1000000):Calls G.P 61 #[.agg (gw s y).toArray] w (IC (aW s) F w):=by
 obtain⟨p1,c1,p2,c2,p3,c3,rfl,k1,k2,k3⟩:=h.gx
 obtain⟨h1,h2,h3,-⟩:=h
 have hml:s.marks.length=s.ps.length:=by simp[ck.marks]
 have hol:s.eY.length=s.ps.length:=by simp[ck.eY]
 dsimp only at h1 h2 h3
 have h2':=h2
 have h3':=h3
 refine ae (l:=[_]) func61 rfl ntmps61 rfl (Ok.start w) ?_
 dsimp only[gw]
 repeat'(first|refine ar ?_|(refine aE fun b_=>?_)|(refine dy fun b_=>?_)|fail)
 refine aa.iN 0 JI 1 ?_
 refine aa.he (HE.gP (aZ s.marks) rfl rfl (fun _=>aH) (hml ▸ jL h2 ak) (by simp[aZ,hml]) rfl rfl rfl Pe Pe Pe (fj _) (by show(0+s.ps.length)*8≤_;omega) Pc (fun _ _=>Po _)) rfl ?_
 intro v1 _
 simp only[Pm,Pi]
 refine aa.pure (φ:=∃p c,v1=.slice p s.ps.length c) (fun w' hw'=>?_) ?_
 ·obtain⟨p,c,e,_⟩:=aw (hw'.own (v:=v1));exact⟨p,c,e⟩
 rintro⟨p4,c4,rfl⟩
 repeat'(first|refine ar ?_|fail)
 refine MJ ?_
 intro b1 _
 repeat'(first|refine ar ?_|fail)
 refine MX ?_
 intro v2 _
 refine aa.pure (φ:=∃p c,v2=.slice p (s.ps.length+1) c∧s.ps.length+1≤c) (fun w' hw'=>?_) ?_
 ·obtain⟨p,c,e,h,_⟩:=aw (hw'.own (v:=v2));exact⟨p,c,e,h⟩
 rintro⟨p5,c5,rfl,k5⟩
 repeat'(first|refine ar ?_|fail)
 refine aa.iN 0 Kj 1 ?_
 refine aa.he (HE.gP (qu s.eY) rfl rfl (fun _=>aH) (hol ▸ EP h3 ak) (by simp[qu,hol]) rfl rfl rfl Pe Pe Pe (Cq _) (by show(0+s.ps.length)*1≤_;omega) Pc (fun _ _=>Po _)) rfl ?_
 intro v3 _
 simp only[Pm,Pi]
 refine aa.pure (φ:=∃p c,v3=.slice p s.ps.length c) (fun w' hw'=>?_) ?_
 ·obtain⟨p,c,e,_⟩:=aw (hw'.own (v:=v3));exact⟨p,c,e⟩
 rintro⟨p6,c6,rfl⟩
 repeat'(first|refine ar ?_|fail)
 refine MJ ?_
 intro b2 _
 repeat'(first|refine ar ?_|fail)
 refine MX ?_
 intro v4 _
 refine aa.pure (φ:=∃p c,v4=.slice p (s.ps.length+1) c∧s.ps.length+1≤c) (fun w' hw'=>?_) ?_
 ·obtain⟨p,c,e,h,_⟩:=aw (hw'.own (v:=v4));exact⟨p,c,e,h⟩
 rintro⟨p7,c7,rfl,k7⟩
 repeat'(first|refine ar ?_|fail)
 obtain⟨em,eo⟩:=Bp s
 refine Mj ?_
 intro w' hw'
 have g1:ai (fun k=>F k∨w.heap.size≤k) w' (.slice p5 (s.ps.length+1) c5) (aW s).marks:=by rw[em];exact n9 _ hw' ak bO (by simp[hml]) O9 (by simp[hml];omega)
 have g2:jo (fun k=>F k∨w.heap.size≤k) w' (.slice p7 (s.ps.length+1) c7) (aW s).eY:=by rw[eo];exact xS _ hw' ak bO (by simp[hol]) (by simp[qu]) (by simp[hol];omega)
 exact⟨⟨(⟨.slice p1 s.ts.length c1,.slice p5 (s.ps.length+1) c5,.slice p7 (s.ps.length+1) c7⟩:jV),rfl,h1.kc hw' ak,g1,g2,k1,k5,k7⟩,hw'.at⟩
theorem zP (s:ck) (hp:0<s.ps.length):(dG s).marks=s.marks∧(dG s).eY=s.eY.take (s.ps.length - 1)++[true]:=by
 unfold dG ck.marks ck.eY ck.at_
 dsimp only
 have hne:s.ps≠[]:=by intro h;rw[h]at hp;exact absurd hp Pb
 have e:s.ps=s.ps.take (s.ps.length - 1)++[ix s.ps (s.ps.length - 1)]:=by
  have h:=bM (xs:=s.ps) (k:=s.ps.length - 1) Pc
  rw[show s.ps.length - 1+1=s.ps.length by omega,Pu]at h
  exact h
 have e2:s.ps.set (s.ps.length - 1) ((ix s.ps (s.ps.length - 1)).1,true)=s.ps.take (s.ps.length - 1)++[((ix s.ps (s.ps.length - 1)).1,true)]:=by
  rw[List.set_eq_take_append_cons_drop,if_pos Pc,show s.ps.length - 1+1=s.ps.length by omega,List.drop_length]
 constructor
 ·rw[e2,PT]
  conv=>rhs;rw[e,PT]
  rfl
 ·rw[e2,PT,P5]
  rfl
theorem Ah (F:Nat→Prop) (s:ck) (y:jV) (w:World) (h:bz s F w y) (hp:0<s.ps.length) (_h0:0≤s.at_) (_hle:s.at_≤s.ts.length) (_hpl:s.ps.length≤1000000):Calls G.P 117 #[.agg (gw s y).toArray] w (IC (dG s) F w):=by
 have hh:=h
 obtain⟨p1,c1,p2,c2,p3,c3,rfl,k1,k2,k3⟩:=h.gx
 obtain⟨h1,h2,h3,-⟩:=h
 have hol:s.eY.length=s.ps.length:=by simp[ck.eY]
 dsimp only at h1 h2 h3
 obtain⟨_,_,_,hl1⟩:=h1.slice
 have hmk:∀w',Ext w w'→Calls G.P 150 #[.agg #[.slice p1 s.ts.length c1,.slice p2 s.ps.length c2,.slice p3 s.ps.length c3,.int .i64 s.bQ]] w' fun e w2=>e=.returned (.int .i64 s.at_)∧Ext w' w2:=fun w' hx=>pX F s ⟨.slice p1 s.ts.length c1,.slice p2 s.ps.length c2,.slice p3 s.ps.length c3⟩ w' (bz.fr s hh hx (fun _ _ _ h=>h)) hp
 obtain⟨k,hk⟩:∃k:Nat,s.at_=k:=⟨s.at_.toNat,by omega⟩
 rw[hk]at hmk
 refine ae (l:=[_]) func117 rfl ntmps117 rfl (Ok.start w) ?_
 dsimp only[gw]
 refine ar ?_
 refine aa.box [.slice p1 s.ts.length c1,.slice p2 s.ps.length c2,.slice p3 s.ps.length c3,.int .i64 s.bQ] rfl rfl rfl fun b1=>?_
 repeat'(first|refine ar ?_|(refine dy fun b_=>?_)|fail)
 refine bh.iA 6 [.aV b1 [.slice p1 s.ts.length c1,.slice p2 s.ps.length c2,.slice p3 s.ps.length c3,.int .i64 s.bQ] nR] [Ext w] bw aU ?_
 repeat'(first|refine CV ?_|(refine bA.dz 150 ?_;refine bA.he rfl rfl (HE.eK rfl rfl (fun w' hw'=>hmk w' (hw'.get (p:=Ext w) ak))) (fun _=>bw) (fun _=>aU) ?_;rintro⟨⟩ _)|(refine bA.iM rfl (gj.gz rfl rfl rfl rfl rfl aH oZ) ?_;rintro⟨⟩ _)|refine db.any O3 ?_|exact cw.fin rfl|refine cw.skip O3 ?_|refine cw.go ?_ ?_)
 repeat'(first|refine ar ?_|(refine aa.y_ (Yl.cZ (i:=s.ps.length - 1) rfl rfl rfl rfl rfl Pc Pc) rfl ?_)|fail)
 refine aa.iN 0 Kj 1 ?_
 have ho2:(s.eY.take (s.ps.length - 1)).length=s.ps.length - 1:=by rw[Ps,hol];omega
 refine aa.he (HE.gP (qu (s.eY.take (s.ps.length - 1))) rfl rfl (fun _=>aH) ((EP (jo.take h3 (s.ps.length - 1) Pc) ak).imp_left fun h=>by omega) (by simp[qu,hol]) rfl rfl rfl Pe Pe Pe (Cq _) (by show(0+(s.ps.length - 1))*1≤_;omega) Pc (fun _ _=>Po _)) rfl ?_
 intro v3 _
 simp only[Pm,Pi]
 refine aa.pure (φ:=∃p c,v3=.slice p (s.ps.length - 1) c) (fun w' hw'=>?_) ?_
 ·obtain⟨p,c,e,_⟩:=aw (hw'.own (v:=v3));exact⟨p,c,e⟩
 rintro⟨p6,c6,rfl⟩
 repeat'(first|refine ar ?_|fail)
 refine MJ ?_
 intro b2 _
 repeat'(first|refine ar ?_|fail)
 refine MX ?_
 intro v4 _
 refine aa.pure (φ:=∃p c,v4=.slice p (s.ps.length - 1+1) c∧s.ps.length - 1+1≤c) (fun w' hw'=>?_) ?_
 ·obtain⟨p,c,e,h,_⟩:=aw (hw'.own (v:=v4));exact⟨p,c,e,h⟩
 rintro⟨p7,c7,rfl,k7⟩
 repeat'(first|refine ar ?_|fail)
 obtain⟨em,eo⟩:=zP s hp
 refine Mj ?_
 intro w' hw'
 have g2:jo (fun k=>F k∨w.heap.size≤k) w' (.slice p7 (s.ps.length - 1+1) c7) (dG s).eY:=by rw[eo];exact xS _ hw' ak bO (by rw[Pt,ho2];rfl) (by simp[qu]) (by rw[Pt,ho2];simp;omega)
 have g1:ai (fun k=>F k∨w.heap.size≤k) w' (.slice p1 k c1) (s.ts.take k):=(h1.take k Pc).kc hw' ak
 have g3:ai (fun k=>F k∨w.heap.size≤k) w' (.slice p2 s.ps.length c2) (dG s).marks:=by rw[em];exact h2.kc hw' ak
 refine⟨⟨(⟨.slice p1 k c1,.slice p2 s.ps.length c2,.slice p7 (s.ps.length - 1+1) c7⟩:jV),rfl,?_,g3,g2,(by show k≤c1;omega),k2,k7⟩,hw'.at⟩
 unfold dG;dsimp only;rw[hk];exact g1
theorem Cc (F F':Nat→Prop) (xs ys:List Int) (v u:Value) (w:World) (h:ai F w v xs) (h':ai F' w u ys):Calls G.P 132 #[v,u] w fun e w'=>e=.returned (.bool (decide (xs=ys)))∧Ext w w':=by
 obtain⟨p,c,rfl,hl⟩:=h.slice
 obtain⟨q,d,rfl,hl'⟩:=h'.slice
 refine ae (l:=[_,_]) func132 rfl ntmps132 rfl (Ok.start w) ?_
 by_cases hlen:xs.length=ys.length
 ·repeat'(first|refine ar ?_|fail)
  refine bh.loop (σ:=Nat) (fun j=>[(0,.slice p xs.length c),(1,.slice q ys.length d),(12,.slice p xs.length c),(13,.int .i64 xs.length),(14,.int .i64 j)]) (fun _=>[]) (fun _=>[Ext w]) (fun j=>j≤xs.length∧xs.take j=ys.take j) (fun j=>xs.length - j) 0 bH bw aU ⟨by omega,by simp⟩ ?_
  rintro j ⟨hj,heq⟩
  by_cases hjl:j<xs.length
  ·obtain⟨b7,o7,rfl,-,hc⟩:=h.at hjl
   obtain⟨b8,o8,rfl,-,hc'⟩:=h'.at (show j<ys.length by omega)
   have hcj:=hc j hjl
   have hcj':=hc' j Pc
   have hst:=rJ hjl (show j<ys.length by omega) heq
   by_cases he:ix xs j=ix ys j
   ·repeat'(first|refine ar ?_|fail)
    all_goals exact ne
   ·repeat'(first|refine ar ?_|fail)
    all_goals exact pi
  ·obtain rfl:j=xs.length:=by omega
   rw[Pu,hlen,Pu]at heq
   repeat'(first|refine ar ?_|fail)
   all_goals exact pm
 ·repeat'(first|refine ar ?_|fail)
  all_goals exact pp
theorem vy (F F':Nat→Prop) (xs ys:List Int) (v u:Value) (w:World) (h:ai F w v xs) (h':ai F' w u ys):Calls G.P 87 #[v,u] w fun e w'=>e=.returned (.bool (decide (xs=ys)))∧Ext w w':=by
 have hs:∀w',Ext w w'→Calls G.P 132 #[v,u] w' fun e w2=>e=.returned (.bool (decide (xs=ys)))∧Ext w' w2:=fun w' hx=>Cc F F' xs ys v u w' (h.aP hx (fun _ _ _ h=>h)) (h'.aP hx (fun _ _ _ h=>h))
 refine ae (l:=[_,_]) func87 rfl ntmps87 rfl (Ok.start w) ?_
 repeat'(first|refine ar ?_|(refine aa.aj (f:=132) ?_;refine aa.au rfl rfl rfl (fun w' hw'=>hs w' hw'.at) ?_)|fail)
 all_goals exact ci
theorem Dz (c:dv) (_hb:c.broken=0):ke c=if c.fs.length=0 then(c,16)else if(cP c.ao c.top.res).2≠0 then({c with broken:=(cP c.ao c.top.res).2},(cP c.ao c.top.res).2)else if c.top.kind=4∧c.top.other=false∧c.top.par≠c.top.res then({c with ao:=(cP c.ao c.top.res).1,fs:=c.fs.take (c.fs.length - 1),broken:=12},12)else({c with ao:=aS (cP c.ao c.top.res).1 c.top.res,fs:=c.fs.take (c.fs.length - 1),live:=c.top.lq},0):=by
 unfold ke;rw[if_neg Pc]
theorem A8 (cp:Nat) (c:dv) (v:jI) (w:World) (hw:Ok (aT cp c v) [] w) (hg:v.Good c) (hb:c.broken=0) (hwf:c.Wf) (_hfl:c.fs.length≤1000) (_hts:(c.ao.ts.length+c.top.res.length)*8≤140737488355328):
  Calls G.P 52 #[.pointer (some ⟨cp,0,none⟩)] w (aJ (aT cp c v) cp (ke c) w):=by
 obtain⟨sp,tv,pv,bv,rv,fv,D,L⟩:=v
 have hrd:=hw.Cv (List.Sublist.refl _)
 obtain⟨p,cc,e,hcp,hmx,hgg⟩:=aw hrd.o
 dsimp only at e
 subst e
 unfold maxLen at hmx
 have hat:=hwf.ao.at_
 have hps:=hwf.ao.some
 have hmany:=hwf.many
 rw[Dz c hb]
 refine ae (l:=[_]) func52 rfl ntmps52 rfl (Ok.dk hw) ?_
 by_cases h0:c.fs.length=0
 ·rw[if_pos h0]
  generalize hS:Mb (aT cp c ⟨sp,tv,pv,.slice p c.fs.length cc,rv,fv,D,L⟩)=S0
  dsimp only[aT,aX,Pj,Pi]
  repeat'(first|refine ar ?_|refine N1 ?_|fail)
  all_goals exact wn
 ·rw[if_neg h0]
  obtain⟨g,rfl,-⟩:=hgg Pc
  have hi:c.fs.length - 1<c.fs.length:=by omega
  have hin:((ix c.fs (c.fs.length - 1)).fn,ix fv (c.fs.length - 1))∈L:=hg.fr _ hi
  obtain⟨q1,d1,q2,d2,hx⟩:=(hrd.l _ hin).gx
  have hc5:∀j,j<5→(er c.fs fv)[0+(c.fs.length - 1)*5+j]?=(iB (ix c.fs (c.fs.length - 1)) (ix fv (c.fs.length - 1)))[j]?:=fun j hj=>by rw[Pm];exact mF c.fs fv (c.fs.length - 1) j hg.len hi hj
  dsimp only at hx hin
  rw[hx]at hc5 hin
  have htop:c.top=ix c.fs (c.fs.length - 1):=rfl
  rw[←htop]at hc5 hin hx
  have hpe:(ix fv (c.fs.length - 1))=(.slice q1 c.top.par.length d1,.slice q2 c.top.res.length d2):=hx
  generalize hf:c.top=f at*
  dsimp only[iB]at hc5
  obtain⟨o5,hoff⟩:∃o5,0+(c.fs.length - 1)*5=o5:=⟨_,rfl⟩
  rw[hoff]at hc5
  have f0:(er c.fs fv)[o5]?=some (.int .i64 f.kind):=hc5 0 Pc
  have f2:(er c.fs fv)[o5+1+1]?=some (.slice q2 f.res.length d2):=hc5 2 Pc
  have f3:(er c.fs fv)[o5+3]?=some (.bool f.other):=hc5 3 Pc
  generalize hS:Mb (aT cp c ⟨sp,tv,pv,.slice (some ⟨g,0,none⟩) c.fs.length cc,rv,fv,D,L⟩)=S0
  dsimp only[aT,aX,Pj,Pi]
  obtain⟨r,hr⟩:∃r,cP c.ao f.res=r:=⟨_,rfl⟩
  obtain⟨s2,e2⟩:=r
  have hs2p:=vj c.ao f.res Pc
  have hs2t:=mS c.ao f.res
  rw[hr]at hs2p hs2t ⊢
  dsimp only at hs2p hs2t ⊢
  repeat'(first|refine ar ?_|refine N1 ?_|(refine aa.dn ?_;refine aa.yg O2 (Yl.jw rfl rfl rfl rfl f0 bO) rfl ?_)|(refine aa.dn ?_;refine aa.yg O2 (Yl.jw rfl rfl rfl rfl f3 bO) rfl ?_)|fail)
  all_goals first|omega|skip
  refine MY ?_
  repeat'(first|refine pG ?_|(refine aN.qy 10 rfl (Yl.idx (i:=c.fs.length - 1) rfl rfl rfl rfl rfl Pc Pc) ?_;rw[hoff])|refine aN.qy 13 rfl (Yl.jw rfl rfl rfl rfl f2 bO) ?_|(refine ax.dz 85 ?_;refine ax.he rfl rfl (HE.bJ (M0:=[.aV sp [tv,pv,.bool (dB c.ao)] jH,.own 0 fT 1 tv c.ao.ts.length (aZ c.ao.ts),.own 0 jG 2 pv c.ao.ps.length (cg c.ao.ps)]) dS rfl rfl (fun w' hw'=>by have:=vq D sp c.ao (tv,pv) (.slice q2 f.res.length d2) f.res w' ((hw'.nc (q:=.kr iY iY.fr D L) (p:=fun w=>ai D w (.slice q2 f.res.length d2) f.res) jK (fun w' h _=>(h _ hin).2)).dc dU aU) Pc hat.1 hat.2;rw[hr]at this;exact this)) (fun _=>by dsimp only[aX,Pj,Pi];exact bw) (fun _=>aU) ?_;rintro⟨tvb,pvb⟩ _;dsimp only[aX,Pj,Pi])|refine aN.nil O3 ?_|refine aN.any O3 ?_|exact aB.fin rfl|refine aB.skip O3 ?_|refine aB.go ?_ ?_)
  by_cases he2:e2=0
  ·subst he2
   obtain⟨hs2p,hs2q⟩:=hs2p rfl
   rw[if_neg Pb]
   repeat'(first|refine ar ?_|fail)
   refine aa.he (HE.bJ (M0:=[.aV cp [.pointer (some ⟨sp,0,none⟩),.slice (some ⟨g,0,none⟩) c.fs.length cc,rv,.bool c.live,.int .i64 c.broken] jd,.aV sp [tvb,pvb,.bool (dB s2)] jH,.own 0 fT 1 tvb s2.ts.length (aZ s2.ts),.own 0 jG 2 pvb s2.ps.length (cg s2.ps),.own 0 su 5 (.slice (some ⟨g,0,none⟩) c.fs.length cc) c.fs.length (er c.fs fv),.kr iY iY.fr D L]) dS rfl rfl (fun w' hw'=>zy cp {c with ao:=s2} ⟨sp,tvb,pvb,.slice (some ⟨g,0,none⟩) c.fs.length cc,rv,fv,D,L⟩ w' (hw'.dc dU (fun p h=>by cases h)) (hg.mono rfl rfl rfl rfl (fun _ h=>h)) O0 O0)) rfl ?_
   intro bv2 _
   dsimp only[aT,aX,Pj,Pi]
   rw[show dv.top {c with ao:=s2}=f from hf,hpe]
   dsimp only[iB]
   refine aa.alloc (t:=su) [.int .i64 0,.slice none 0 0,.slice none 0 0,.bool false,.bool false] rfl rfl rfl fun b6=>?_
   have hsv:∀w',dH f.fn D w' (.slice q1 f.par.length d1,.slice q2 f.res.length d2)→Calls G.P 87 #[.slice q1 f.par.length d1,.slice q2 f.res.length d2] w' fun e w2=>e=.returned (.bool (decide (f.par=f.res)))∧Ext w' w2:=fun w' h=>vy D D f.par f.res _ _ w' h.1 h.2
   by_cases hK:f.kind=4∧f.other=false
   ·obtain⟨hk4,hot⟩:=hK
    by_cases hpr:f.par=f.res
    ·rw[if_neg (by rintro⟨_,_,h⟩;exact h hpr),hk4,hot]
     rw[decide_eq_true hpr]at hsv
     repeat'(first|refine ar ?_|refine N2 ?_|fail)
     refine bh.cF [.aV b6 [.int .i64 4,.slice q1 f.par.length d1,.slice q2 f.res.length d2,.bool false,.bool f.lq] su,.aV cp [.pointer (some ⟨sp,0,none⟩),bv2,rv,.bool c.live,.int .i64 c.broken] jd] [] bw aU ?_
     repeat'(first|refine pG ?_|(refine ax.dz 88 ?_;refine ax.he rfl rfl (HE.bJ (M0:=[.aV sp [tvb,pvb,.bool (dB s2)] jH,.own 0 fT 1 tvb s2.ts.length (aZ s2.ts),.own 0 jG 2 pvb s2.ps.length (cg s2.ps)]) dS rfl rfl (fun w' hw'=>gX D sp s2 (tvb,pvb) (.slice q2 f.res.length d2) f.res w' ((hw'.nc (q:=.kr iY iY.fr D L) (p:=fun w=>ai D w (.slice q2 f.res.length d2) f.res) jK (fun w' h _=>(h _ hin).2)).dc dU aU) hs2p Pc)) (fun _=>by dsimp only[aX,Pj,Pi];exact bw) (fun _=>aU) ?_;rintro⟨tvc,pvc⟩ _;dsimp only[aX,Pj,Pi])|refine aN.nil O3 ?_|refine aN.any O3 ?_|exact aB.fin rfl|refine aB.skip O3 ?_|refine aB.go ?_ ?_)
     repeat'(first|refine ar ?_|fail)
     exact ws
    ·rw[if_pos ⟨hk4,hot,hpr⟩,hk4,hot]
     rw[decide_eq_false hpr]at hsv
     repeat'(first|refine ar ?_|refine N2 ?_|fail)
     refine aa.he (HE.bJ (M0:=[.aV cp [.pointer (some ⟨sp,0,none⟩),bv2,rv,.bool c.live,.int .i64 c.broken] jd]) dS rfl rfl (fun w' hw'=>jt cp _ _ _ _ _ 12 w' (hw'.dc dU (fun p h=>by cases h)))) rfl ?_
     rintro⟨⟩ _
     dsimp only[Pj,Pi]
     repeat'(first|refine ar ?_|fail)
     exact ah.aF rfl rfl fun w' hw'=>aJ.err 12 rfl Pb hS hw' ak
   ·rw[if_neg (by rintro⟨h1,h2,_⟩;exact hK ⟨h1,h2⟩)]
    by_cases hk4:f.kind=4
    ·have hot:f.other=true:=by cases hb2:f.other<;>simp_all
     rw[hk4,hot]
     repeat'(first|refine ar ?_|refine N2 ?_|fail)
     refine bh.cF [.aV b6 [.int .i64 4,.slice q1 f.par.length d1,.slice q2 f.res.length d2,.bool true,.bool f.lq] su,.aV cp [.pointer (some ⟨sp,0,none⟩),bv2,rv,.bool c.live,.int .i64 c.broken] jd] [] bw aU ?_
     repeat'(first|refine pG ?_|(refine ax.dz 88 ?_;refine ax.he rfl rfl (HE.bJ (M0:=[.aV sp [tvb,pvb,.bool (dB s2)] jH,.own 0 fT 1 tvb s2.ts.length (aZ s2.ts),.own 0 jG 2 pvb s2.ps.length (cg s2.ps)]) dS rfl rfl (fun w' hw'=>gX D sp s2 (tvb,pvb) (.slice q2 f.res.length d2) f.res w' ((hw'.nc (q:=.kr iY iY.fr D L) (p:=fun w=>ai D w (.slice q2 f.res.length d2) f.res) jK (fun w' h _=>(h _ hin).2)).dc dU aU) hs2p Pc)) (fun _=>by dsimp only[aX,Pj,Pi];exact bw) (fun _=>aU) ?_;rintro⟨tvc,pvc⟩ _;dsimp only[aX,Pj,Pi])|refine aN.nil O3 ?_|refine aN.any O3 ?_|exact aB.fin rfl|refine aB.skip O3 ?_|refine aB.go ?_ ?_)
     repeat'(first|refine ar ?_|fail)
     exact ws
    ·repeat'(first|refine ar ?_|refine N2 ?_|fail)
     refine bh.cF [.aV b6 [.int .i64 f.kind,.slice q1 f.par.length d1,.slice q2 f.res.length d2,.bool f.other,.bool f.lq] su,.aV cp [.pointer (some ⟨sp,0,none⟩),bv2,rv,.bool c.live,.int .i64 c.broken] jd] [] bw aU ?_
     repeat'(first|refine pG ?_|(refine ax.dz 88 ?_;refine ax.he rfl rfl (HE.bJ (M0:=[.aV sp [tvb,pvb,.bool (dB s2)] jH,.own 0 fT 1 tvb s2.ts.length (aZ s2.ts),.own 0 jG 2 pvb s2.ps.length (cg s2.ps)]) dS rfl rfl (fun w' hw'=>gX D sp s2 (tvb,pvb) (.slice q2 f.res.length d2) f.res w' ((hw'.nc (q:=.kr iY iY.fr D L) (p:=fun w=>ai D w (.slice q2 f.res.length d2) f.res) jK (fun w' h _=>(h _ hin).2)).dc dU aU) hs2p Pc)) (fun _=>by dsimp only[aX,Pj,Pi];exact bw) (fun _=>aU) ?_;rintro⟨tvc,pvc⟩ _;dsimp only[aX,Pj,Pi])|refine aN.nil O3 ?_|refine aN.any O3 ?_|exact aB.fin rfl|refine aB.skip O3 ?_|refine aB.go ?_ ?_)
     repeat'(first|refine ar ?_|fail)
     exact ws
  ·rw[if_pos he2]
   repeat'(first|refine ar ?_|fail)
   refine MZ ?_
   rintro⟨⟩ _
   dsimp only[Pj,Pi]
   repeat'(first|refine ar ?_|fail)
   exact wt
def Eu {β:Type} (V:(Nat→Prop)→World→β→Prop):Prop:=∀{D:Nat→Prop} {w:World} {x:β},V D w x→V (fun k=>D k∧k<w.heap.size) w x
theorem bz.lt (s:ck):Eu (bz s):=fun h=>⟨h.1.mono fun _ hk hd=>⟨hd,hk⟩,h.2.1.mono fun _ hk hd=>⟨hd,hk⟩,jo.mono h.2.2.1 fun _ hk hd=>⟨hd,hk⟩,h.2.2.2⟩
section
variable {n:Nat} {E:Env} {M M':List bu} {R:List (World→Prop)}
theorem HE.HR {β β2:Type} {V:(Nat→Prop)→World→β→Prop} {V2:(Nat→Prop)→World→β2→Prop} (hV:vE V) (hV2:vE V2) (hl:Eu V2) {D:Nat→Prop} {y:β} {tf:β2→Value} {Mf:(Nat→Prop)×β2→List bu} {f:Nat} {args:List Operand} {tys:Array TypeId} {vs:List Value}
  (hM:∀x:(Nat→Prop)×β2,Up (.kr V hV D y) (.kr V2 hV2 x.1 x.2) M (Mf x)) (hf:G.fb[f]?=some true) (ha:kI E args=some vs)
  (hc:∀w,Ok M R w→Calls G.P f vs.toArray w (bD V2 tf D w)):
  HE n (.call ⟨.value (.func f),args.toArray,tys⟩) E M R (fun _:(Nat→Prop)×β2=>True) (fun x=>tf x.2) Mf (fun _=>R):=
 ⟨fun w hw=>(bU.call hf ha (hc w hw) (fun e w' h=>by obtain⟨⟨x,e1,_⟩,_⟩:=h;exact⟨_,e1⟩)).mono fun v w' ⟨⟨x,e1,hv⟩,hx⟩=>by
  cases e1
  refine⟨(fun k=>(D k∨w.heap.size≤k)∧k<w'.heap.size,x),trivial,rfl,hw.qd (hM _) (hx.mono fun _ _ h=>h.elim) (hl hv) ?_⟩
  rintro k ⟨hk,hlt⟩
  exact⟨hlt,fun h=>hk.elim (fun h=>h) (fun h2=>absurd h Pc)⟩⟩
end
theorem DT {n:Nat} (h:s.at_≤n) (_hn:n≤s.ts.length) (_h0:0≤s.at_):∃n' a e,aY {s with ts:=s.ts.take n}=({s with ts:=s.ts.take n'},a,e)∧s.at_≤n'∧n'≤n:=by
 have e1:(s.ts.take n).length=n:=by rw[Ps];omega
 have e2:({s with ts:=s.ts.take n}:ck).at_=s.at_:=rfl
 unfold aY
 rw[e2]
 dsimp only
 rw[e1]
 split
 ·exact⟨n - 1,_,_,by rw[List.take_take,Nat.min_eq_left Pc],by omega,by omega⟩
 ·split
  ·exact⟨n,_,_,rfl,h,Pr _⟩
  ·exact⟨n,_,_,rfl,h,Pr _⟩
theorem FY {l:List Int} {j:Nat} (h:j<l.length):(l.take (j+1)).reverse=ix l j::(l.take j).reverse:=by
 rw[bM h];simp
def jV.Sl (y:jV):Prop:=∃p1 n1 c1 p2 n2 c2 p3 n3 c3,y=⟨.slice p1 n1 c1,.slice p2 n2 c2,.slice p3 n3 c3⟩
theorem jV.Sl.mk:jV.Sl ⟨.slice p1 n1 c1,.slice p2 n2 c2,.slice p3 n3 c3⟩:=⟨p1,n1,c1,p2,n2,c2,p3,n3,c3,rfl⟩
def AF (F:Nat→Prop) (w0:World) (D:Nat→Prop):Nat→Prop:=fun k=>(F k∧k<w0.heap.size)∨D k
theorem Gi (F:Nat→Prop) (w:World):AF F w (fun _=>False)=fun k=>F k∧k<w.heap.size:=funext fun k=>by simp[AF]
def An {β:Type} (V:(Nat→Prop)→World→β→Prop) (w0:World) (F:Nat→Prop):(Nat→Prop)→World→β→Prop:=fun D w x=>∀w',Ext w0 w'→bX (fun k=>¬D k) w w'→V (AF F w0 D) w' x
section
variable {β:Type} {V:(Nat→Prop)→World→β→Prop} {w0:World} {F:Nat→Prop}
theorem An.fr:vE (An V w0 F):=fun{D _S _x _w _w'} h hc hd w2 h0 h2=>h w2 h0 ((hc.mono (T:=fun k=>¬D k) fun k hk hs hD=>hd k hk hD hs).trans h2)
theorem An.now {D:Nat→Prop} {w:World} {x:β} (h:An V w0 F D w x) (hx:Ext w0 w):V (AF F w0 D) w x:=h w hx (bX.refl _ w)
theorem An.mk {D:Nat→Prop} {w:World} {x:β} (hV:vE V) (h:V (AF F w0 D) w x) (hx:Ext w0 w):An V w0 F D w x:=fun w' h0 h2=>by
 refine hV (S:=fun k=>¬AF F w0 D k) h ⟨h2.os,h2.tape,h2.output,h2.size,fun k hk hs=>?_⟩ (fun k _ hk h=>h hk)
 have hs:AF F w0 D k:=Classical.byContradiction hs
 rcases hs with⟨_,hs⟩|hs
 ·rw[h0.block k hs (fun h=>h),hx.block k hs (fun h=>h)]
 ·exact h2.block k hk (fun h=>h hs)
end
abbrev bu.an {β:Type} (V:(Nat→Prop)→World→β→Prop) (w0:World) (F D:Nat→Prop) (y:β):bu:=.kr (An V w0 F) An.fr D y
def yX {β:Type} (V:(Nat→Prop)→World→β→Prop):Prop:=∀{D H:Nat→Prop} {w:World} {x:β},(∀k,D k→H k)→V D w x→V H w x
theorem bz.mo (s:ck):yX (bz s):=fun hd h=>bz.mono h hd
section
variable {n:Nat} {E:Env} {M M':List bu} {R:List (World→Prop)} {β β2:Type} {V:(Nat→Prop)→World→β→Prop} {V2:(Nat→Prop)→World→β2→Prop} {w0 w:World} {F D:Nat→Prop} {y:β}
theorem Ok.an (h:Ok M R w) (hR:Ext w0∈R) (hM:bu.an V w0 F D y∈M):V (AF F w0 D) w y:=An.now (h.m _ hM).1 (h.get hR)
theorem Ok.fg (hV:vE V) (hl:Eu V) (h:V F w y):Ok [bu.an V w F (fun _=>False) y] [Ext w] w:=
 (Ok.start w).push (bX.refl _ w) (An.mk hV (by rw[Gi];exact hl h) (bX.refl _ w)) (fun k hk=>hk.elim)
theorem bD.sC {w':World} {tf:β→Value} (hm:yX V) (hw:Ok M R w') (hR:Ext w∈R) (hM:bu.an V w F D y∈M):bD V tf F w (.returned (tf y)) w':=
 ⟨⟨y,rfl,hm (fun k hk=>hk.elim (fun h=>.inl h.1) fun h=>by
  rcases PA k w.heap.size with hlt|hge
  ·exact(hw.origin (S:=fun _=>False) hR k ⟨_,hM,h⟩ hlt).elim
  ·exact .inr hge) (hw.an hR hM)⟩,hw.get hR⟩
theorem Ok.tk (y2:β2) (hw:Ok M R w) (hM:Up (bu.an V w0 F D y) (bu.an V2 w0 F D y2) M M') (hp:∀D w,V D w y→V2 D w y2):Ok M' R w:=
 hw.qd hM (bX.refl _ w) (fun w' h0 h2=>hp _ _ ((hw.m _ hM.mem).1 w' h0 h2)) fun k hk=>⟨(hw.m _ hM.mem).2 k hk,fun _=>hk⟩
theorem HE.bV (hV2:vE V2) (hl:Eu V2) (hm:yX V2) {tf:β2→Value} {Mf:(Nat→Prop)×β2→List bu} {f:Nat} {args:List Operand} {tys:Array TypeId} {vs:List Value}
  (hR:Ext w0∈R) (h0:bu.an V w0 F D y∈M) (hM:∀x:(Nat→Prop)×β2,Up (bu.an V w0 F D y) (bu.an V2 w0 F x.1 x.2) M (Mf x)) (hf:G.fb[f]?=some true) (ha:kI E args=some vs)
  (hc:∀w,Ok M R w→V (AF F w0 D) w y→Calls G.P f vs.toArray w (bD V2 tf (AF F w0 D) w)):
  HE n (.call ⟨.value (.func f),args.toArray,tys⟩) E M R (fun _:(Nat→Prop)×β2=>True) (fun x=>tf x.2) Mf (fun _=>R):=
 ⟨fun w hw=>(bU.call hf ha (hc w hw (hw.an hR h0)) (fun e w' h=>by obtain⟨⟨x,e1,_⟩,_⟩:=h;exact⟨_,e1⟩)).mono fun v w' ⟨⟨x,e1,hv⟩,hx⟩=>by
  cases e1
  refine⟨(fun k=>(D k∨w.heap.size≤k)∧k<w'.heap.size,x),trivial,rfl,hw.qd (hM _) (hx.mono fun _ _ h=>h.elim) (An.mk hV2 (hm ?_ (hl hv)) ((hw.get hR).trans hx)) ?_⟩
  ·rintro k ⟨(hk|hk)|hk,hlt⟩
   ·exact .inl hk
   ·exact .inr ⟨.inl hk,hlt⟩
   ·exact .inr ⟨.inr hk,hlt⟩
  ·rintro k ⟨hk,hlt⟩
   exact⟨hlt,fun h=>hk.elim (fun h=>h) (fun h2=>absurd h Pc)⟩⟩
end
def K5 (r:ck×Int) (D:Nat→Prop) (w:World) (y:jV):Prop:=y.Sl∧(r.2=0→bz r.1 D w y)
def oK (r:ck×Int) (F:Nat→Prop) (w:World):Ending→World→Prop:=bD (K5 r) (fun y=>.tuple #[.agg (gw r.1 y).toArray,.int .i64 r.2]) F w
theorem bz.Sl {D:Nat→Prop} {w:World} {y:jV} (h:bz s D w y):y.Sl:=by
 obtain⟨p1,c1,p2,c2,p3,c3,rfl,-⟩:=h.gx
 exact jV.Sl.mk ..
theorem oK.err {e:Int} {F:Nat→Prop} {w w':World} (y:jV) (hy:y.Sl) (he:e≠0) (hx:Ext w w'):oK (s,e) F w (.returned (.tuple #[.agg (gw s y).toArray,.int .i64 e])) w':=⟨⟨y,rfl,hy,fun h=>absurd h he⟩,hx⟩
theorem oK.ok {F D:Nat→Prop} {w w':World} {M:List bu} {R:List (World→Prop)} (y:jV) (hw:Ok M R w') (hR:Ext w∈R) (hM:bu.an (bz s) w F D y∈M):oK (s,0) F w (.returned (.tuple #[.agg (gw s y).toArray,.int .i64 0])) w':=by
 obtain⟨⟨x,e,h⟩,hx⟩:=bD.sC (V:=bz s) (tf:=fun y=>.tuple #[.agg (gw s y).toArray,.int .i64 0]) (bz.mo s) hw hR hM
 exact⟨⟨x,e,bz.Sl h,fun _=>h⟩,hx⟩
theorem eZ (F D2:Nat→Prop) (s:ck) (y:jV) (v:Value) (l:List Int) (w:World) (h:bz s F w y) (hI:ai D2 w v l) (hp:0<s.ps.length) (h0:0≤s.at_) (hle:s.at_≤s.ts.length):
  Calls G.P 111 #[.agg (gw s y).toArray,v] w (oK (aK s l) F w):=by
 obtain⟨p1,c1,p2,c2,p3,c3,rfl,k1,k2,k3⟩:=h.gx
 obtain⟨q,d,rfl,hql⟩:=hI.slice
 refine ae (l:=[_,_]) func111 rfl ntmps111 rfl (Ok.fg (V:=bz s) (bz.fr s) (bz.lt s) h) ?_
 obtain⟨r,hr⟩:∃r,eU s l.reverse s.ts.length=r:=⟨_,rfl⟩
 have hwk:aK s l=if r.2=0 then({s with ts:=s.ts.take r.1},0)else(s,r.2):=by unfold aK;rw[hr]
 rw[hwk]
 dsimp only[gw]
 refine ar ?_
 refine aa.box [.slice p1 s.ts.length c1,.slice p2 s.ps.length c2,.slice p3 s.ps.length c3,.int .i64 s.bQ] rfl rfl rfl fun b2=>?_
 refine aa.alloc (t:=nR) [.slice none 0 0,.slice none 0 0,.slice none 0 0,.int .i64 0] rfl rfl rfl fun b4=>?_
 refine ar ?_
 refine aa.alloc (t:=nR) [.slice none 0 0,.slice none 0 0,.slice none 0 0,.int .i64 0] rfl rfl rfl fun b6=>?_
 repeat'(first|refine ar ?_|(refine bC ?_ ?_<;>intro hc_))
 refine bh.loop (σ:=Nat×Nat×(Nat→Prop)×(Option Addr×Nat×Option Addr×Nat×Option Addr×Nat)) (fun z=>[(1,.slice q l.length d),(2,.pointer (some ⟨b2,0,none⟩)),(4,.pointer (some ⟨b4,0,none⟩)),(6,.pointer (some ⟨b6,0,none⟩)),(7,.int .i64 ((z.1:Int) - 1))])
  (fun z=>[.aV b6 [.slice p1 s.ts.length c1,.slice p2 s.ps.length c2,.slice p3 s.ps.length c3,.int .i64 s.bQ] nR,.aV b4 [.slice none 0 0,.slice none 0 0,.slice none 0 0,.int .i64 0] nR,.aV b2 [.slice z.2.2.2.1 z.2.1 z.2.2.2.2.1,.slice z.2.2.2.2.2.1 s.ps.length z.2.2.2.2.2.2.1,.slice z.2.2.2.2.2.2.2.1 s.ps.length z.2.2.2.2.2.2.2.2,.int .i64 s.bQ] nR,bu.an (bz {s with ts:=s.ts.take z.2.1}) w F z.2.2.1 ⟨.slice z.2.2.2.1 z.2.1 z.2.2.2.2.1,.slice z.2.2.2.2.2.1 s.ps.length z.2.2.2.2.2.2.1,.slice z.2.2.2.2.2.2.2.1 s.ps.length z.2.2.2.2.2.2.2.2⟩])
  (fun _=>[Ext w]) (fun z=>z.1≤l.length∧s.at_≤z.2.1∧z.2.1≤s.ts.length∧eU s (l.take z.1).reverse z.2.1=r) (fun z=>z.1) (l.length,s.ts.length,fun _=>False,p1,c1,p2,c2,p3,c3) bH ?_ aU ⟨Nat.le_refl _,hle,Pr _,by rw[Pu];exact hr⟩ ?_
 ·dsimp only
  rw[Pu]
  exact bw
 rintro⟨j,nn,DD,q1,k1,q2,k2,q3,k3⟩ ⟨hj,ha,hnn,hlk⟩
 dsimp only at hj ha hnn hlk ⊢
 rcases Nat.eq_zero_or_pos j with rfl|hj0
 ·rw[List.take_zero]at hlk
  obtain rfl:(nn,(0:Int))=r:=hlk
  rw[if_pos rfl]
  dsimp only
  repeat'(first|refine ar ?_|(refine bC ?_ ?_<;>intro hc_))
  all_goals first|omega|skip
  all_goals(refine ah.aM (.inl rfl) rfl rfl rfl rfl rfl aH rfl rfl ?_;exact fun w' hw'=>oK.ok (D:=DD) ⟨.slice q1 nn k1,.slice q2 s.ps.length k2,.slice q3 s.ps.length k3⟩ hw' ak bO)
 ·obtain⟨i,rfl⟩:∃i,j=i+1:=⟨j - 1,by omega⟩
  rw[show((i+1:Nat):Int) - 1=i by omega]
  obtain⟨bl,ol,rfl,-,hc⟩:=hI.at (i:=i) Pc
  have e1:(s.ts.take nn).length=nn:=by rw[Ps];omega
  rw[FY Pc,DE ha hnn h0]at hlk
  obtain⟨n',a,e,hpk,ha',hn'⟩:=DT ha hnn h0
  have e2:(s.ts.take n').length=n':=by rw[Ps];omega
  rw[hpk]at hlk
  dsimp only at hlk
  rw[e2]at hlk
  have hpop:∀DD w',bz {s with ts:=s.ts.take nn} DD w' ⟨.slice q1 nn k1,.slice q2 s.ps.length k2,.slice q3 s.ps.length k3⟩→Calls G.P 121 #[.agg #[.slice q1 nn k1,.slice q2 s.ps.length k2,.slice q3 s.ps.length k3,.int .i64 s.bQ]] w' (bD (bz {s with ts:=s.ts.take n'}) (fun y=>.tuple #[.agg #[y.l,y.m,y.o,.int .i64 s.bQ],.int .i64 a,.int .i64 e]) DD w'):=fun DD w' h=>by
   have:=kJ DD {s with ts:=s.ts.take nn} _ w' h hp h0
   rw[hpk]at this;exact this
  have hc1:=hc i Pc
  repeat'(first|refine ar ?_|(refine bC ?_ ?_<;>intro hc_))
  refine aa.he (HE.bV (V:=bz {s with ts:=s.ts.take nn}) (V2:=bz {s with ts:=s.ts.take n'}) (w0:=w) (F:=F) (D:=DD) (y:=⟨.slice q1 nn k1,.slice q2 s.ps.length k2,.slice q3 s.ps.length k3⟩) (bz.fr _) (bz.lt _) (bz.mo _) ak bO (fun _=>aH) rfl rfl (fun w' _ h=>hpop _ w' h)) rfl ?_
  rintro⟨D',y'⟩ _
  refine aa.pure (φ:=∃p1 c1 p2 c2 p3 c3,y'=⟨.slice p1 n' c1,.slice p2 s.ps.length c2,.slice p3 s.ps.length c3⟩) (fun w' hw'=>?_) ?_
  ·obtain⟨p1,c1,p2,c2,p3,c3,e,-⟩:=(hw'.an (V:=bz {s with ts:=s.ts.take n'}) (w0:=w) (F:=F) (D:=D') (y:=y') ak bO).gx
   dsimp only at e;rw[e2]at e;exact⟨p1,c1,p2,c2,p3,c3,e⟩
  rintro⟨q4,k4,q5,k5,q6,k6,rfl⟩
  dsimp only
  by_cases he:e=0
  ·subst he
   rw[if_neg Pb]at hlk
   by_cases hm:a≠ix l i∧a≠0∧ix l i≠0
   ·rw[if_pos hm]at hlk
    subst hlk
    rw[if_neg Pb]
    dsimp only
    repeat'(first|refine ar ?_|(refine dy fun b_=>?_)|refine N9 ?_|refine NY ?_|(refine bC ?_ ?_<;>intro hc_))
    all_goals first|(exfalso;simp_all;done)|skip
    all_goals(refine ah.aM (.inl rfl) rfl rfl rfl rfl rfl aH rfl rfl ?_;exact fun w' hw'=>oK.err (e:=_) ⟨.slice p1 s.ts.length c1,.slice p2 s.ps.length c2,.slice p3 s.ps.length c3⟩ (jV.Sl.mk ..) Pb hw'.at)
   ·rw[if_neg hm]at hlk
    repeat'(first|refine ar ?_|(refine dy fun b_=>?_)|refine N9 ?_|refine NY ?_|(refine bC ?_ ?_<;>intro hc_))
    all_goals first|exact ah.next (i,n',D',q4,k4,q5,k5,q6,k6) bH bw aU ⟨by dsimp only;omega,ha',by dsimp only;omega,hlk⟩ O0|(exfalso;simp_all;done)|skip
    all_goals trace_state
  ·rw[if_pos he]at hlk
   subst hlk
   rw[if_neg he]
   dsimp only
   repeat'(first|refine ar ?_|(refine dy fun b_=>?_)|(refine bC ?_ ?_<;>intro hc_))
   all_goals(refine ah.aM (.inl rfl) rfl rfl rfl rfl rfl aH rfl rfl ?_;exact fun w' hw'=>oK.err (e:=_) ⟨.slice p1 s.ts.length c1,.slice p2 s.ps.length c2,.slice p3 s.ps.length c3⟩ (jV.Sl.mk ..) he hw'.at)
def ky (_:Nat→Prop) (_:World) (y:jV):Prop:=y.Sl
theorem ky.fr:vE ky:=fun h _ _=>h
theorem ky.lt:Eu ky:=fun h=>h
theorem ky.mo:yX ky:=fun _ h=>h
theorem oK.to {w w':World} {e:Ending} (h:oK (s,0) F w e w'):bD (bz s) (fun y=>.tuple #[.agg (gw s y).toArray,.int .i64 0]) F w e w':=by
 obtain⟨⟨x,e1,_,h1⟩,hx⟩:=h
 exact⟨⟨x,e1,h1 rfl⟩,hx⟩
theorem oK.qW {r:ck×Int} {F:Nat→Prop} {w w':World} {e:Ending} (h:oK r F w e w'):bD ky (fun y=>.tuple #[.agg (gw r.1 y).toArray,.int .i64 r.2]) F w e w':=by
 obtain⟨⟨x,e1,h1,_⟩,hx⟩:=h
 exact⟨⟨x,e1,h1⟩,hx⟩
theorem np (F D2:Nat→Prop) (s:ck) (y:jV) (v:Value) (l:List Int) (w:World) (h:bz s F w y) (hI:ai D2 w v l) (_hp2:2≤s.ps.length) (h0:0≤s.at_) (hle:s.at_≤s.ts.length):
  Calls G.P 114 #[.agg (gw s y).toArray,v] w (oK (cP s l) F w):=by
 have hp:0<s.ps.length:=by omega
 have hpb:s.ps.length≤17592186044416:=by
  obtain⟨_,_,_,h⟩:=h.2.1.slice
  simpa[ck.marks]using h
 obtain⟨p1,c1,p2,c2,p3,c3,rfl,k1,k2,k3⟩:=h.gx
 obtain⟨q,d,rfl,hql⟩:=hI.slice
 refine ae (l:=[_,_]) func114 rfl ntmps114 rfl (Ok.fg (V:=bz s) (bz.fr s) (bz.lt s) h) ?_
 obtain⟨r,hr⟩:∃r,eU s l.reverse s.ts.length=r:=⟨_,rfl⟩
 obtain⟨n,e⟩:=r
 have hwk:aK s l=if e=0 then({s with ts:=s.ts.take n},0)else(s,e):=by unfold aK;rw[hr]
 have hsk:cP s l=if e≠0 then(s,e)else if s.at_<n then(s,14)else({s with ts:=s.ts.take n,ps:=s.ps.take (s.ps.length - 1)},0):=by unfold cP;rw[hr];dsimp only;rw[if_neg (show¬s.ps.length=1 by omega)]
 have hnl:e=0→s.at_≤n∧n≤s.ts.length:=fun h=>by
  have:=jM l.reverse s.ts.length hle (by rw[hr];exact h)
  rw[hr]at this;exact this
 have hwt:=fun DD w' (h:bz s DD w' ⟨.slice p1 s.ts.length c1,.slice p2 s.ps.length c2,.slice p3 s.ps.length c3⟩) hx=>eZ DD D2 s ⟨.slice p1 s.ts.length c1,.slice p2 s.ps.length c2,.slice p3 s.ps.length c3⟩ (.slice q l.length d) l w' h (hI.aP (show Ext w w' from hx) (fun _ _ _ h=>h)) hp h0 hle
 rw[hwk]at hwt
 rw[hsk]
 dsimp only[gw]at hwt ⊢
 refine ar ?_
 refine aa.box [.slice p1 s.ts.length c1,.slice p2 s.ps.length c2,.slice p3 s.ps.length c3,.int .i64 s.bQ] rfl rfl rfl fun b2=>?_
 refine aa.alloc (t:=nR) [.slice none 0 0,.slice none 0 0,.slice none 0 0,.int .i64 0] rfl rfl rfl fun b4=>?_
 by_cases he:e=0
 ·subst he
  obtain⟨hn1,hn2⟩:=hnl rfl
  have e1:(s.ts.take n).length=n:=by rw[Ps];omega
  rw[if_pos rfl]at hwt
  rw[if_neg Pb]
  try dsimp only at hwt ⊢
  repeat'(first|refine ar ?_|fail)
  refine aa.he (HE.bV (V:=bz s) (V2:=bz {s with ts:=s.ts.take n}) (w0:=w) (F:=F) (D:=fun _=>False) (y:=⟨.slice p1 s.ts.length c1,.slice p2 s.ps.length c2,.slice p3 s.ps.length c3⟩) (bz.fr _) (bz.lt _) (bz.mo _) ak bO (fun _=>aH) rfl rfl (fun w' hw' h=>(hwt _ w' h hw'.at).mono fun _ _ h=>oK.to h)) rfl ?_
  rintro⟨D',y'⟩ _
  refine aa.pure (φ:=∃p1 c1 p2 c2 p3 c3,y'=⟨.slice p1 n c1,.slice p2 s.ps.length c2,.slice p3 s.ps.length c3⟩∧s.ps.length≤c2∧s.ps.length≤c3) (fun w' hw'=>?_) ?_
  ·obtain⟨p1,c1,p2,c2,p3,c3,e,-,h2,h3⟩:=(hw'.an (V:=bz {s with ts:=s.ts.take n}) (w0:=w) (F:=F) (D:=D') (y:=y') ak bO).gx
   dsimp only at e h2 h3;rw[e1]at e;exact⟨p1,c1,p2,c2,p3,c3,e,h2,h3⟩
  rintro⟨q4,k4,q5,k5,q6,k6,rfl,h5,h6⟩
  dsimp only[gw]
  have hmk:∀D' w',bz {s with ts:=s.ts.take n} D' w' ⟨.slice q4 n k4,.slice q5 s.ps.length k5,.slice q6 s.ps.length k6⟩→Calls G.P 150 #[.agg #[.slice q4 n k4,.slice q5 s.ps.length k5,.slice q6 s.ps.length k6,.int .i64 s.bQ]] w' fun e w2=>e=.returned (.int .i64 s.at_)∧Ext w' w2:=fun D' w' h=>by
   have:=pX D' {s with ts:=s.ts.take n} ⟨.slice q4 n k4,.slice q5 s.ps.length k5,.slice q6 s.ps.length k6⟩ w' h hp
   exact this
  repeat'(first|refine ar ?_|fail)
  refine aa.alloc (t:=nR) [.slice none 0 0,.slice none 0 0,.slice none 0 0,.int .i64 0] rfl rfl rfl fun b6=>?_
  by_cases hat:s.at_<n
  ·rw[if_pos hat]
   try dsimp only
   repeat'(first|refine ar ?_|fail)
   refine bh.cF [.aV b6 [.slice q4 n k4,.slice q5 s.ps.length k5,.slice q6 s.ps.length k6,.int .i64 s.bQ] nR] [] bw aU ?_
   repeat'(first|refine pG ?_|(refine ax.dz 150 ?_;refine ax.he rfl rfl (HE.eK rfl rfl (fun w' hw'=>hmk _ w' (hw'.an (V:=bz {s with ts:=s.ts.take n}) (w0:=w) (F:=F) (D:=D') (y:=⟨.slice q4 n k4,.slice q5 s.ps.length k5,.slice q6 s.ps.length k6⟩) ak bO))) (fun _=>bw) (fun _=>aU) ?_;rintro⟨⟩ _)|refine aN.nil O3 ?_|refine aN.any O3 ?_|exact aB.fin rfl|refine aB.skip O3 ?_|refine aB.go ?_ ?_)
   repeat'(first|refine ar ?_|fail)
   all_goals first|omega|skip
   all_goals(refine ah.aM (.inl rfl) rfl rfl rfl rfl rfl aH rfl rfl ?_;exact fun w' hw'=>oK.err (e:=_) ⟨.slice p1 s.ts.length c1,.slice p2 s.ps.length c2,.slice p3 s.ps.length c3⟩ (jV.Sl.mk ..) Pb hw'.at)
  ·rw[if_neg hat]
   try dsimp only
   repeat'(first|refine ar ?_|fail)
   refine bh.cF [.aV b6 [.slice q4 n k4,.slice q5 s.ps.length k5,.slice q6 s.ps.length k6,.int .i64 s.bQ] nR] [] bw aU ?_
   repeat'(first|refine pG ?_|(refine ax.dz 150 ?_;refine ax.he rfl rfl (HE.eK rfl rfl (fun w' hw'=>hmk _ w' (hw'.an (V:=bz {s with ts:=s.ts.take n}) (w0:=w) (F:=F) (D:=D') (y:=⟨.slice q4 n k4,.slice q5 s.ps.length k5,.slice q6 s.ps.length k6⟩) ak bO))) (fun _=>bw) (fun _=>aU) ?_;rintro⟨⟩ _)|refine aN.nil O3 ?_|refine aN.any O3 ?_|exact aB.fin rfl|refine aB.skip O3 ?_|refine aB.go ?_ ?_)
   repeat'(first|refine ar ?_|(refine aa.y_ (Yl.cZ (i:=s.ps.length - 1) rfl rfl rfl rfl rfl Pc Pc) rfl ?_)|fail)
   all_goals first|omega|skip
   refine Mv ?_
   intro w' hw'
   have hcv:∀D' w',bz {s with ts:=s.ts.take n} D' w' ⟨.slice q4 n k4,.slice q5 s.ps.length k5,.slice q6 s.ps.length k6⟩→bz {s with ts:=s.ts.take n,ps:=s.ps.take (s.ps.length - 1)} D' w' ⟨.slice q4 n k4,.slice q5 (s.ps.length - 1) k5,.slice q6 (s.ps.length - 1) k6⟩:=fun D' w' h=>by
    have a1:=h.2.1.take (s.ps.length - 1) (by simp[ck.marks])
    have a2:=jo.take h.2.2.1 (s.ps.length - 1) (by simp[ck.eY])
    have m1:({s with ts:=s.ts.take n}:ck).marks.take (s.ps.length - 1)=({s with ts:=s.ts.take n,ps:=s.ps.take (s.ps.length - 1)}:ck).marks:=by simp[ck.marks,P5]
    have m2:({s with ts:=s.ts.take n}:ck).eY.take (s.ps.length - 1)=({s with ts:=s.ts.take n,ps:=s.ps.take (s.ps.length - 1)}:ck).eY:=by simp[ck.eY,P5]
    rw[m1]at a1
    rw[m2]at a2
    exact⟨h.1,a1,a2,h.2.2.2.1,(show s.ps.length - 1≤k5 by omega),(show s.ps.length - 1≤k6 by omega)⟩
   exact oK.ok (s:={s with ts:=s.ts.take n,ps:=s.ps.take (s.ps.length - 1)}) (D:=D') ⟨.slice q4 n k4,.slice q5 (s.ps.length - 1) k5,.slice q6 (s.ps.length - 1) k6⟩ (hw'.tk (V:=bz {s with ts:=s.ts.take n}) (V2:=bz {s with ts:=s.ts.take n,ps:=s.ps.take (s.ps.length - 1)}) (w0:=w) (F:=F) (D:=D') (y:=⟨.slice q4 n k4,.slice q5 s.ps.length k5,.slice q6 s.ps.length k6⟩) ⟨.slice q4 n k4,.slice q5 (s.ps.length - 1) k5,.slice q6 (s.ps.length - 1) k6⟩ aH hcv) ak bO
 ·rw[if_neg he]at hwt
  rw[if_pos he]
  try dsimp only at hwt ⊢
  repeat'(first|refine ar ?_|fail)
  refine aa.he (HE.bV (V:=bz s) (V2:=ky) (w0:=w) (F:=F) (D:=fun _=>False) (y:=⟨.slice p1 s.ts.length c1,.slice p2 s.ps.length c2,.slice p3 s.ps.length c3⟩) ky.fr ky.lt ky.mo ak bO (fun _=>aH) rfl rfl (fun w' hw' h=>(hwt _ w' h hw'.at).mono fun _ _ h=>oK.qW h)) rfl ?_
  rintro⟨D',y'⟩ _
  refine aa.pure (φ:=y'.Sl) (fun w' hw'=>hw'.an (V:=ky) (w0:=w) (F:=F) (D:=D') (y:=y') ak bO) ?_
  rintro⟨q4,n4,k4,q5,n5,k5,q6,n6,k6,rfl⟩
  repeat'(first|refine ar ?_|(refine dy fun b_=>?_)|fail)
  all_goals(refine ah.aM (.inl rfl) rfl rfl rfl rfl rfl aH rfl rfl ?_;exact fun w' hw'=>oK.err (e:=_) ⟨.slice p1 s.ts.length c1,.slice p2 s.ps.length c2,.slice p3 s.ps.length c3⟩ (jV.Sl.mk ..) he hw'.at)
theorem Yl.iw {n t k T o:Nat} {E:Env} {C:World→Prop} {x:Operand} {ti:TI} {cs:List Value} {v:Value} (hu:G.P.underlying t=some (.struct (G.P.fieldsOf t))) (hf:((G.P.fieldsOf t)[k]?.map fun f=>(f.type,f.offset))=some (T,o)) (hti:G.ty T=some ti) (hag:ti.agg=false) (hx:ev E x=some (.agg cs.toArray)) (hc:cs[o]?=some v):Yl G n (.field t x k) E C v:=
 ⟨fun w _ a ha d ty pos aft gd=>by
  obtain⟨fd,h1,h2⟩:=Option.map_eq_some_iff.1 hf
  cases h2
  have h3:=(G.iR fd.type ti hti).agg w
  rw[hag]at h3
  simp[execOp,ha.eval hx,Instr.field,run_underlying hu,h1,part,h3,asAgg,hc]⟩
structure Ga where
 op:Int
 par:List Int
 res:List Int
 live:Bool
 lq:Bool
 deriving Inhabited
abbrev Ga.fn (f:Ga):aO:=⟨f.par,f.res⟩
def wF (f:Ga) (x:Value×Value):List Value:=[.int .i64 f.op,x.1,x.2,.bool f.live,.bool f.lq]
theorem dH.GB {f:aO} {F H:Nat→Prop} {w:World} {x:Value×Value} (h:dH f F w x) (hd:∀k,k<w.heap.size→F k→H k):dH f H w x:=⟨h.1.mono hd,h.2.mono hd⟩
abbrev vC:=Ga×Value×Value
def AY:sV vC:=fun F w b o z=>dH z.1.fn F w z.2∧∀j,j<5→w.cell? ⟨b,o+j,none⟩=(wF z.1 z.2)[j]?
theorem CO (f:Ga) (x:Value×Value) (j:Nat) (h:j<5):∃u,(wF f x)[j]?=some u:=⟨_,List.getElem?_eq_getElem (show j<(wF f x).length from h)⟩
theorem AY.fr:Fr AY:=fun{F S w w' b o z} ⟨h1,h2⟩ hc hF hd=>by
 refine⟨dH.fr _ h1 hc hd,fun j hj=>?_⟩
 obtain⟨u,hu⟩:=CO z.1 z.2 j hj
 rw[hu]
 have h3:=h2 j hj
 rw[hu]at h3
 exact hc.cell (hd b (fw h3) hF) h3
theorem AY.mo:Mo AY:=fun{_F _H _w _b _o _z} ⟨h1,h2⟩ hd=>⟨dH.GB h1 hd,h2⟩
theorem AY.ce:Ce AY:=fun{F w b o z} ⟨h1,h2⟩=>fw (h2 0 Pc)
abbrev vF:=gN 5 1000001 AY
structure gA where
 ao:ck
 fs:List Ga
 results:List Int
structure jE where
 r:jV
 f:Value
 rv:Value
 z:List vC
def cG (c:gA) (D:Nat→Prop) (w:World) (y:jE):Prop:=bz c.ao D w y.r∧vF D w y.f y.z∧ai D w y.rv c.results∧GA y.f∧y.z.map Prod.fst=c.fs
theorem cG.fr (c:gA):vE (cG c):=fun h hc hd=>⟨bz.fr _ h.1 hc hd,gN.aP AY.fr AY.ce h.2.1 hc hd,h.2.2.1.aP hc hd,h.2.2.2⟩
theorem cG.lt (c:gA):Eu (cG c):=fun h=>⟨bz.lt _ h.1,gN.mono AY.mo AY.ce h.2.1 fun _ hk hd=>⟨hd,hk⟩,h.2.2.1.mono fun _ hk hd=>⟨hd,hk⟩,h.2.2.2⟩
def eN (c:gA) (y:jE):List Value:=[y.r.l,y.r.m,y.r.o,.int .i64 c.ao.bQ,y.f,y.rv,.int .i64 0]
theorem cG.gx {c:gA} {D:Nat→Prop} {w:World} {y:jE} (h:cG c D w y):∃p1 c1 p2 c2 p3 c3 p4 c4 p5 c5,y=⟨⟨.slice p1 c.ao.ts.length c1,.slice p2 c.ao.ps.length c2,.slice p3 c.ao.ps.length c3⟩,.slice p4 c.fs.length c4,.slice p5 c.results.length c5,y.z⟩∧c.fs.length≤c4∧c.fs.length≤1000001∧y.z.length=c.fs.length:=by
 obtain⟨r,f,rv,z⟩:=y
 obtain⟨p1,c1,p2,c2,p3,c3,e,-⟩:=h.1.gx
 obtain⟨p4,c4,e4,h4⟩:=gN.slice h.2.1
 obtain⟨p5,c5,e5,-⟩:=h.2.2.1.slice
 have k4:=h.2.2.2.1
 have kz:z.length=c.fs.length:=by rw[←h.2.2.2.2,PS]
 dsimp only at e e4 e5 k4 h4
 rw[kz]at e4 h4
 subst e e4 e5
 exact⟨p1,c1,p2,c2,p3,c3,p4,c4,p5,c5,rfl,k4,h4,kz⟩
theorem cG.Jv {c:gA} {D:Nat→Prop} {w:World} {y:jE} (h:cG c D w y) {i:Nat} (_hi:i<c.fs.length):(ix y.z i).1=ix c.fs i:=by
 have kz:y.z.length=c.fs.length:=by rw[←h.2.2.2.2,PS]
 rw[←h.2.2.2.2,rm Pc]
theorem yD (c:gA) (y:jE) (w:World) (h:cG c D w y):Calls G.P 71 #[.agg (eN c y).toArray] w fun e w'=>e=.returned y.rv∧Ext w w':=by
 obtain⟨p1,c1,p2,c2,p3,c3,p4,c4,p5,c5,ey,k4,h4,kz⟩:=h.gx
 obtain⟨r,f,rv,z⟩:=y
 cases ey
 refine ae (l:=[_]) func71 rfl ntmps71 rfl (Ok.start w) ?_
 dsimp only[eN]
 repeat'(first|refine ar ?_|(refine aE fun b_=>?_)|fail)
 all_goals exact ci
theorem kg (c:gA) (y:jE) (w:World) (h:cG c D w y) (_h0:0<c.fs.length):Calls G.P 63 #[.agg (eN c y).toArray] w fun e w'=>e=.returned (.agg (wF (ix c.fs (c.fs.length - 1)) (ix y.z (c.fs.length - 1)).2).toArray)∧Ext w w':=by
 rw[←h.Jv (i:=c.fs.length - 1) Pc]
 obtain⟨p1,c1,p2,c2,p3,c3,p4,c4,p5,c5,ey,k4,h4,kz⟩:=h.gx
 obtain⟨r,f,rv,z⟩:=y
 cases ey
 dsimp only at kz h ⊢
 have hz:=h.2.1
 dsimp only at hz
 rw[←kz]at hz
 obtain⟨b,o,rfl,hF,hc⟩:=gN.at hz (i:=c.fs.length - 1) Pc
 obtain⟨hx,hcx⟩:=hc (c.fs.length - 1) Pc
 generalize ix z (c.fs.length - 1)=fx at hx hcx ⊢
 obtain⟨fr,x⟩:=fx
 dsimp only at hx hcx ⊢
 obtain⟨q1,d1,q2,d2,rfl⟩:=hx.gx
 refine ae (l:=[_]) func63 rfl ntmps63 rfl (Ok.start w) ?_
 dsimp only[eN]
 repeat'(first|refine ar ?_|(refine aE fun b_=>?_)|(refine aa.ed (t:=152) ?_;refine aa.alloc (t:=152) [.int .i64 0,.slice none 0 0,.slice none 0 0,.bool false,.bool false] rfl rfl rfl fun b_=>?_)|(refine aa.eM ?_;refine aa.y_ (Yl.idx (i:=c.fs.length - 1) rfl rfl rfl rfl rfl Pc Pc) rfl ?_)|fail)
 refine aa.y_ (Yl.ji (cs:=wF fr (.slice q1 fr.par.length d1,.slice q2 fr.res.length d2)) rfl rfl rfl ak rfl rfl hcx) rfl ?_
 dsimp only[wF]
 repeat'(first|refine ar ?_|fail)
 refine Mj ?_
 exact fun w' hw'=>⟨rfl,hw'.at⟩
theorem eu {n:Nat} {rest:List Oper} {E:Env} {M:List bu} {R:List (World→Prop)} {d:Nat} {ty:TypeId} {pos:String} {aft:Array Edge} (h:∀b:Nat,aa ops Q n rest ((d,.pointer (some ⟨b,0,none⟩))::E) (.aV b [.slice none 0 0,.slice none 0 0,.slice none 0 0,.int .i64 0,.slice none 0 0,.slice none 0 0,.int .i64 0] 119::M) R) (hd:Nat.blt d n=true:=by rfl):aa ops Q n (⟨some d,.alloc 119,ty,pos,aft,none⟩::rest) E M R:=aa.alloc (t:=119) [.slice none 0 0,.slice none 0 0,.slice none 0 0,.int .i64 0,.slice none 0 0,.slice none 0 0,.int .i64 0] rfl rfl hd h
theorem iP (n5 c5:Nat) (e0 e:Int) (w:World):Calls G.P 112 #[.agg #[.slice p1 n1 c1,.slice p2 n2 c2,.slice p3 n3 c3,.int .i64 m,.slice p4 n4 c4,.slice p5 n5 c5,.int .i64 e0],.int .i64 e] w fun ee w'=>ee=.returned (.tuple #[.agg #[.slice p1 n1 c1,.slice p2 n2 c2,.slice p3 n3 c3,.int .i64 m,.slice p4 n4 c4,.slice p5 n5 c5,.int .i64 e],.int .i64 e])∧Ext w w':=by
 refine ae (l:=[_,_]) func112 rfl ntmps112 rfl (Ok.start w) ?_
 repeat'(first|refine ar ?_|(refine aE fun b_=>?_)|(refine eu fun b_=>?_)|fail)
 all_goals(refine ah.aM (.inl rfl) rfl rfl rfl rfl rfl aH rfl rfl ?_;exact fun w' hw'=>⟨rfl,hw'.at⟩)
theorem BK (c:gA) (y:jE) (w:World) (h:cG c D w y) (h0:0<c.fs.length):Calls G.P 36 #[.agg (eN c y).toArray] w fun e w'=>e=.returned (.bool (ix c.fs (c.fs.length - 1)).live)∧Ext w w':=by
 obtain⟨p1,c1,p2,c2,p3,c3,p4,c4,p5,c5,ey,k4,h4,kz⟩:=h.gx
 obtain⟨r,f,rv,z⟩:=y
 cases ey
 have ht:∀w',Ext w w'→Calls G.P 63 #[.agg #[.slice p1 c.ao.ts.length c1,.slice p2 c.ao.ps.length c2,.slice p3 c.ao.ps.length c3,.int .i64 c.ao.bQ,.slice p4 c.fs.length c4,.slice p5 c.results.length c5,.int .i64 0]] w' fun e w2=>e=.returned (.agg #[.int .i64 (ix c.fs (c.fs.length - 1)).op,(ix z (c.fs.length - 1)).2.1,(ix z (c.fs.length - 1)).2.2,.bool (ix c.fs (c.fs.length - 1)).live,.bool (ix c.fs (c.fs.length - 1)).lq])∧Ext w' w2:=fun w' hx=>by
  have:=kg D c ⟨⟨.slice p1 c.ao.ts.length c1,.slice p2 c.ao.ps.length c2,.slice p3 c.ao.ps.length c3⟩,.slice p4 c.fs.length c4,.slice p5 c.results.length c5,z⟩ w' (cG.fr c h hx (fun _ _ _ h=>h)) h0
  exact this
 refine ae (l:=[_]) func36 rfl ntmps36 rfl (Ok.start w) ?_
 dsimp only[eN]
 repeat'(first|refine ar ?_|(refine aE fun b_=>?_)|(refine aa.cQ (f:=63) ?_;refine aa.cH pF rfl rfl rfl (fun w' hw'=>ht w' hw'.at) ?_)|fail)
 refine aa.yg O2 (Yl.iw (T:=4) (o:=3) O5 O5 rfl rfl rfl rfl) rfl ?_
 repeat'(first|refine ar ?_|fail)
 all_goals first|omega|exact ah.aF rfl rfl fun w' hw'=>⟨rfl,hw'.at⟩
abbrev Gb:Nat:=152
theorem gg {n:Nat} {rest:List Oper} {E:Env} {M:List bu} {R:List (World→Prop)} {d:Nat} {ty:TypeId} {pos:String} {aft:Array Edge} (h:∀b:Nat,aa ops Q n rest ((d,.pointer (some ⟨b,0,none⟩))::E) (.aV b [.int .i64 0,.slice none 0 0,.slice none 0 0,.bool false,.bool false] Gb::M) R) (hd:Nat.blt d n=true:=by rfl):aa ops Q n (⟨some d,.alloc Gb,ty,pos,aft,none⟩::rest) E M R:=aa.alloc (t:=Gb) [.int .i64 0,.slice none 0 0,.slice none 0 0,.bool false,.bool false] rfl rfl hd h
theorem cG.frame {c:gA} {D:Nat→Prop} {w:World} {y:jE} (h:cG c D w y) {i:Nat} (hi:i<c.fs.length):∃b o q1 d1 q2 d2 cc,y.f=.slice (some ⟨b,o,none⟩) c.fs.length cc∧(ix y.z i).2=(.slice q1 (ix c.fs i).par.length d1,.slice q2 (ix c.fs i).res.length d2)∧dH (ix c.fs i).fn D w (ix y.z i).2∧∀j,j<5→w.cell? ⟨b,o+i*5+j,none⟩=(wF (ix c.fs i) (ix y.z i).2)[j]?:=by
 have hx:=h.Jv hi
 obtain⟨p1,c1,p2,c2,p3,c3,p4,c4,p5,c5,ey,k4,h4,kz⟩:=h.gx
 have hz:=h.2.1
 have e4:y.f=.slice p4 c.fs.length c4:=by rw[ey]
 rw[e4,←kz]at hz
 obtain⟨b,o,rfl,hF,hc⟩:=gN.at hz (i:=i) Pc
 obtain⟨h1,h2⟩:=hc i Pc
 rw[hx]at h1 h2
 obtain⟨q1,d1,q2,d2,e⟩:=h1.gx
 exact⟨b,o,q1,d1,q2,d2,c4,e4,e,h1,h2⟩
theorem sn (c:gA) (y:jE) (n:Int) (w:World) (h:cG c D w y):Calls G.P 72 #[.agg (eN c y).toArray,.int .i64 n] w fun e w'=>e=.returned (if n<0∨c.fs.length≤n then .tuple #[.slice none 0 0,.int .i64 15]else .tuple #[if(ix c.fs (c.fs.length - 1 - n.toNat)).op=3 then(ix y.z (c.fs.length - 1 - n.toNat)).2.1 else(ix y.z (c.fs.length - 1 - n.toNat)).2.2,.int .i64 0])∧Ext w w':=by
 obtain⟨p1,c1,p2,c2,p3,c3,p4,c4,p5,c5,ey,k4,h4,kz⟩:=h.gx
 by_cases hb:n<0∨(c.fs.length:Int)≤n
 ·rw[if_pos hb]
  obtain⟨r,f,rv,z⟩:=y
  cases ey
  refine ae (l:=[_,_]) func72 rfl ntmps72 rfl (Ok.start w) ?_
  dsimp only[eN]
  repeat'(first|refine ar ?_|(refine aE fun b_=>?_)|(refine bC ?_ ?_<;>intro hc_))
  all_goals first|omega|exact ah.iq rfl rfl rfl fun w' hw'=>⟨rfl,hw'.at⟩
 ·rw[if_neg hb]
  obtain⟨k,hk⟩:∃k,c.fs.length - 1 - n.toNat=k:=⟨_,rfl⟩
  rw[hk]
  obtain⟨b,o,q1,d1,q2,d2,cc,e4,e5,-,hc⟩:=h.frame (i:=k) Pc
  obtain⟨r,f,rv,z⟩:=y
  cases ey
  dsimp only at e4 e5 hc ⊢
  cases e4
  generalize ix z k=fx at e5 hc ⊢
  obtain⟨f0,x⟩:=fx
  dsimp only at e5 hc ⊢
  subst e5
  generalize ix c.fs k=fr at hc ⊢
  obtain⟨o5,ho5⟩:∃o5,o+k*5=o5:=⟨_,rfl⟩
  rw[ho5]at hc
  refine ae (l:=[_,_]) func72 rfl ntmps72 rfl (Ok.start w) ?_
  dsimp only[eN]
  repeat'(first|refine ar ?_|(refine aE fun b_=>?_)|(refine gg fun b_=>?_)|(refine aa.eM ?_;refine aa.y_ (Yl.idx (i:=k) rfl rfl rfl rfl rfl Pc Pc) rfl ?_;rw[ho5];refine aa.y_ (Yl.ji (cs:=wF fr (.slice q1 fr.par.length d1,.slice q2 fr.res.length d2)) rfl rfl rfl ak rfl rfl hc) rfl ?_;dsimp only[wF])|(refine bC ?_ ?_<;>intro hc_))
  all_goals exact ah.iq rfl rfl rfl fun w' hw'=>⟨by first|rw[if_pos hc_]|rw[if_neg hc_],hw'.at⟩
def kY:List vC→List Value
 |[]=>[]
 |z::r=>wF z.1 z.2++kY r
theorem kZ:∀z:List vC,(kY z).length=z.length*5
 |[]=>rfl
 |a::r=>by
  have ih:=kZ r
  show(wF a.1 a.2++kY r).length=(r.length+1)*5
  rw[Pt,ih];show 5+_=_;omega
theorem qT:∀z z':List vC,kY (z++z')=kY z++kY z'
 |[],_=>rfl
 |a::r,z'=>by
  show wF a.1 a.2++kY (r++z')=(wF a.1 a.2++kY r)++kY z'
  rw[qT r z',List.append_assoc]
theorem uT:∀(z:List vC) (i j:Nat),i<z.length→j<5→(kY z)[i*5+j]?=(wF (ix z i).1 (ix z i).2)[j]?
 |[],_,_,h,_=>absurd h Pd
 |a::r,0,j,_,hj=>by
  show(wF a.1 a.2++kY r)[0*5+j]?=_
  rw[Nat.zero_mul,Pm,List.getElem?_append_left (show j<5 from hj)];rfl
 |a::r,i+1,j,h,hj=>by
  show(wF a.1 a.2++kY r)[(i+1)*5+j]?=_
  rw[List.getElem?_append_right (show 5≤_ by omega),show(i+1)*5+j - (wF a.1 a.2).length=i*5+j by show(i+1)*5+j - 5=_;omega]
  exact uT r i j O4 hj
theorem uU {z:List vC} {M:List bu} {R:List (World→Prop)} (h:vF F w (.slice p n c) z) (hR:Ext w∈R):z.length=0∨∃bk o,p=some ⟨bk,o,none⟩∧∀w',Ok M R w'→∀j u,(kY z)[j]?=some u→w'.cell? ⟨bk,o+j,none⟩=some u:=by
 obtain⟨p',c',e,hl,h⟩:=h
 cases e
 rcases h with h|⟨b,o,rfl,hF,h⟩
 ·exact .inl (by rw[h];rfl)
 ·refine .inr ⟨b,o,rfl,fun w' hw' j u hj=>?_⟩
  have hj':j<(kY z).length:=(PL.1 hj).1
  rw[kZ]at hj'
  have h1:=(h (j / 5) Pc).2 (j % 5) Pc
  rw[←uT z (j / 5) (j % 5) Pc Pc,show j / 5*5+j % 5=j by omega,hj,show o+j / 5*5+j % 5=o+j by omega]at h1
  exact(show Ext w w' from hw'.at hR).cell h1
theorem oQ {F:Nat→Prop} {w:World}:∀z:List vC,(∀a∈z,dH a.1.fn F w a.2)→∀u∈kY z,u.oneCell'=true
 |[],_,u,hu=>by cases hu
 |a::r,h,u,hu=>by
  rcases PE.1 (show u∈wF a.1 a.2++kY r from hu)with hu|hu
  ·obtain⟨q1,d1,q2,d2,e⟩:=(h a List.mem_cons_self).gx
   rw[e]at hu
   simp only[wF,List.mem_cons,List.not_mem_nil,or_false]at hu
   rcases hu with rfl|rfl|rfl|rfl|rfl<;>rfl
  ·exact oQ r (fun b hb=>h b (List.mem_cons_of_mem _ hb)) u hu
theorem vF.take {z:List vC} (h:vF F w (.slice p n c) z) (k:Nat) (_hk:k≤z.length):vF F w (.slice p k c) (z.take k):=by
 obtain⟨p',c',e,hl,h⟩:=h
 cases e
 have ht:(z.take k).length=k:=by rw[Ps];omega
 refine⟨p,c,by rw[ht],by omega,?_⟩
 rcases h with h|⟨b,o,rfl,hF,h⟩
 ·exact .inl (by rw[h];simp)
 ·refine .inr ⟨b,o,rfl,hF,fun i hi=>?_⟩
  rw[ht]at hi
  rw[cz Pc,Qf,←cz Pc]
  exact h i Pc
theorem vF.Ge {v:Value} {z:List vC} (h:vF F w v z):∀a∈z,dH a.1.fn F w a.2:=fun a ha=>by
 obtain⟨p',c',e,hl,h⟩:=h
 obtain⟨i,hi,rfl⟩:=List.mem_iff_getElem.1 ha
 rcases h with h|⟨b,o,-,-,h⟩
 ·subst h;cases hi
 ·have:=(h i hi).1
  rw[cz hi]at this;exact this
theorem oP {w w':World} {M:List bu} {R:List (World→Prop)} {B T n:Nat} {v:Value} {cs:List Value} (z:List vC) (hw:Ok M R w') (hR:Ext w∈R) (hm:bu.own B T 5 v n cs∈M) (hn:n=z.length) (hcs:cs=kY z) (hl:z.length≤1000001) (hf:∀a∈z,dH a.1.fn (fun k=>F k∨w.heap.size≤k) w' a.2):vF (fun k=>F k∨w.heap.size≤k) w' v z:=by
 subst hn hcs
 have ho:w'.ownsRow B T 5 v z.length (kY z):=(hw.m _ hm).1
 obtain⟨p,c,rfl,hn,hc,hg⟩:=aw ho
 refine⟨p,c,rfl,hl,?_⟩
 by_cases h0:z.length=0
 ·exact wl
 ·obtain⟨g,rfl,hg1⟩:=hg Pc
  refine .inr ⟨g,0,rfl,.inr ?_,fun i hi=>⟨hf _ (by rw[cz hi];exact List.getElem_mem hi),fun j hj=>?_⟩⟩
  ·rcases PA g w.heap.size with h|h
   ·exact(hw.origin (S:=fun _=>False) hR g ⟨_,hm,rfl⟩ h).elim
   ·exact h
  ·obtain⟨u,hu⟩:=CO (ix z i).1 (ix z i).2 j hj
   rw[hu,Pm]
   exact dO ho (by rw[uT z i j hi hj,hu])
theorem uC (F:Nat→Prop) (c:gA) (y:jE) (f:Ga) (x:Value×Value) (w:World) (h:cG c F w y) (hx:dH f.fn F w x) (_h0:0<c.fs.length) (_hfl:c.fs.length≤1000000):Calls G.P 115 #[.agg (eN c y).toArray,.agg (wF f x).toArray] w (bD (cG {c with fs:=c.fs.take (c.fs.length - 1)++[f]}) (fun y=>.agg (eN {c with fs:=c.fs.take (c.fs.length - 1)++[f]} y).toArray) F w):=by
 obtain⟨p1,c1,p2,c2,p3,c3,p4,c4,p5,c5,ey,k4,h4,kz⟩:=h.gx
 obtain⟨r,fv,rv,z⟩:=y
 cases ey
 dsimp only at kz
 obtain⟨q1,d1,q2,d2,rfl⟩:=hx.gx
 have hz:=h.2.1
 dsimp only at hz
 have htk:=hz.take (c.fs.length - 1) Pc
 have htl:(z.take (c.fs.length - 1)).length=c.fs.length - 1:=by rw[Ps];omega
 refine ae (l:=[_,_]) func115 rfl ntmps115 rfl (Ok.start w) ?_
 dsimp only[eN,wF]
 refine ar ?_
 refine aa.box [.slice p1 c.ao.ts.length c1,.slice p2 c.ao.ps.length c2,.slice p3 c.ao.ps.length c3,.int .i64 c.ao.bQ,.slice p4 c.fs.length c4,.slice p5 c.results.length c5,.int .i64 0] rfl rfl rfl fun b2=>?_
 refine aa.box [.int .i64 f.op,.slice q1 f.par.length d1,.slice q2 f.res.length d2,.bool f.live,.bool f.lq] rfl rfl rfl fun b3=>?_
 repeat'(first|refine ar ?_|(refine eu fun b_=>?_)|fail)
 refine MJ ?_
 intro b6 _
 refine aa.jP (b:=b6) (len:=0) 5 aH rfl (Po _) ?_
 repeat'(first|refine ar ?_|(refine aa.y_ (Yl.cZ (i:=c.fs.length - 1) rfl rfl rfl rfl rfl Pc Pc) rfl ?_)|fail)
 refine aa.he (HE.gP (kY (z.take (c.fs.length - 1))) rfl rfl (fun _=>aH) ((uU htk ak).imp_left fun h=>by omega) (by rw[kZ,htl]) rfl rfl rfl Pe Pe Pe (oQ _ htk.Ge) OJ Pc (fun _ _=>Po _)) rfl ?_
 intro v1 _
 simp only[Pm,Pi]
 refine aa.pure (φ:=∃p cc,v1=.slice p (c.fs.length - 1) cc) (fun w' hw'=>?_) ?_
 ·obtain⟨p,cc,e,_⟩:=aw (hw'.own (v:=v1));exact⟨p,cc,e⟩
 rintro⟨p6,c6,rfl⟩
 repeat'(first|refine ar ?_|fail)
 refine MJ ?_
 intro b7 _
 repeat'(first|refine ar ?_|fail)
 refine MX ?_
 intro v2 _
 refine aa.pure (φ:=∃p cc,v2=.slice p (c.fs.length - 1+1) cc∧c.fs.length - 1+1≤cc) (fun w' hw'=>?_) ?_
 ·obtain⟨p,cc,e,h,_⟩:=aw (hw'.own (v:=v2));exact⟨p,cc,e,h⟩
 rintro⟨p7,c7,rfl,k7⟩
 repeat'(first|refine ar ?_|fail)
 refine Mj ?_
 intro w' hw'
 have hE:Ext w w':=hw'.at
 have hs:cG c (fun k=>F k∨w.heap.size≤k) w' ⟨⟨.slice p1 c.ao.ts.length c1,.slice p2 c.ao.ps.length c2,.slice p3 c.ao.ps.length c3⟩,.slice p4 c.fs.length c4,.slice p5 c.results.length c5,z⟩:=by
  have h2:=cG.fr c h hE (fun _ _ _ h=>h)
  exact⟨h2.1.mono fun _ h=>.inl h,gN.mono AY.mo AY.ce h2.2.1 fun _ _ h=>.inl h,h2.2.2.1.mono fun _ _ h=>.inl h,h2.2.2.2⟩
 have hzn:(z.take (c.fs.length - 1)++[(f,.slice q1 f.par.length d1,.slice q2 f.res.length d2)]:List vC).length=c.fs.length - 1+1:=by rw[Pt,htl];rfl
 have g:=oP (F:=F) (z.take (c.fs.length - 1)++[(f,.slice q1 f.par.length d1,.slice q2 f.res.length d2)]) hw' ak bO hzn.symm (by rw[qT];rfl) Pc (fun a ha=>by
  rcases PE.1 ha with ha|ha
  ·exact hs.2.1.Ge a (List.mem_of_mem_take ha)
  ·rw[PI.1 ha]
   exact dH.GB (dH.fr _ hx hE (fun _ _ _ h=>h)) fun _ _ h=>.inl h)
 refine⟨⟨(⟨⟨.slice p1 c.ao.ts.length c1,.slice p2 c.ao.ps.length c2,.slice p3 c.ao.ps.length c3⟩,.slice p7 (c.fs.length - 1+1) c7,.slice p5 c.results.length c5,z.take (c.fs.length - 1)++[(f,.slice q1 f.par.length d1,.slice q2 f.res.length d2)]⟩:jE),rfl,hs.1,g,hs.2.2.1,k7,?_⟩,hE⟩
 dsimp only
 rw[PT,P5,h.2.2.2.2]
 rfl
section
variable {n:Nat} {E:Env} {M M':List bu} {R:List (World→Prop)} {v:Value} {x y:Operand} {t:TypeId} {w:World}
theorem bU.ir {ti:TI} {b j T:Nat} {old cs out:List Value} (ht:G.ty t=some ti) (hx:ev E x=some (.pointer (some ⟨b,j,none⟩))) (hy:ev E y=some v) (hcs:v.cells=cs.toArray) (hs:ti.size=cs.length) (hv:∀u∈cs,u.oneCell'=true)
  (hb:gO w b old T) (_hl:j+cs.length≤old.length) (ho:old.take j++cs++old.drop (j+cs.length)=out):bU G n (.store t x y) E w (fun _ w'=>gO w' b out T∧bX (fun k=>k=b) w w'∧w'.heap.size=w.heap.size):=by
 have h3:=run_storeCells_at (P:=G.P) b j T cs 0 old.toArray w hb O8 hv
 have e3:(old.toArray.toList.take (j+0)++cs++old.toArray.toList.drop (j+0+cs.length)).toArray=out.toArray:=by
  show(old.take (j+0)++cs++old.drop (j+0+cs.length)).toArray=_
  rw[Nat.add_zero,ho]
 rw[e3]at h3
 have hset:∀k,k≠b→(w.setRow b out.toArray).heap[k]?=w.heap[k]?:=fun k hk=>by
  simp only[World.setRow,Array.getElem?_modify]
  rw[if_neg (fun e=>hk e.symm)]
 refine bU.jm (w':=w.setRow b out.toArray) (fun a ha d ty pos aft gd=>?_) ⟨setRow_heap w b _ _ T _ hb,⟨rfl,rfl,rfl,by simp[World.setRow],fun k _ hk=>hset k hk⟩,by simp[World.setRow]⟩
 have h1:=(G.iR t ti ht).size w
 simp[execOp,ha.eval hx,ha.eval hy,Instr.storeAt,Instr.sureAddr,storeVar,h1,hcs,hs,h3]
theorem gj.ir {ti:TI} {b j T:Nat} {old:List Value} (cs out:List Value) (ht:G.ty t=some ti) (hx:ev E x=some (.pointer (some ⟨b,j,none⟩))) (hy:ev E y=some v) (hcs:v.cells=cs.toArray) (hs:ti.size=cs.length) (hv:(cs.all fun u=>u.oneCell')=true)
  (hM:Up (.aV b old T) (.aV b out T) M M') (hl:Nat.ble (j+cs.length) old.length=true) (ho:old.take j++cs++old.drop (j+cs.length)=out):gj n (.store t x y) E M R (fun _:Unit=>True) (fun _=>M') (fun _=>R):=
 ⟨fun _w hw=>(bU.ir ht hx hy hcs hs (fun u hu=>List.all_eq_true.1 hv u hu) (hw.m _ hM.mem).1 (Nat.le_of_ble_eq_true hl) ho).mono fun _ _w' ⟨hb,hc,_⟩=>⟨(),trivial,xR hw hM hb hc⟩⟩
end
theorem cG.mono {c:gA} {D H:Nat→Prop} {w:World} {y:jE} (h:cG c D w y) (hd:∀k,D k→H k):cG c H w y:=
 ⟨h.1.mono hd,gN.mono AY.mo AY.ce h.2.1 fun k _=>hd k,h.2.2.1.mono fun k _=>hd k,h.2.2.2⟩
def wU (c:gA) (y:jE) (s:ck) (D:Nat→Prop) (w:World) (x:jV):Prop:=cG c D w y∧bz s D w x
theorem wU.fr (c:gA) (y:jE) (s:ck):vE (wU c y s):=fun h hc hd=>⟨cG.fr c h.1 hc hd,bz.fr s h.2 hc hd⟩
theorem wU.lt (c:gA) (y:jE) (s:ck):Eu (wU c y s):=fun h=>⟨cG.lt c h.1,bz.lt s h.2⟩
theorem cG.mo (c:gA):yX (cG c):=fun hd h=>cG.mono h hd
theorem wU.mo (c:gA) (y:jE) (s:ck):yX (wU c y s):=fun hd h=>⟨cG.mono h.1 hd,bz.mono h.2 hd⟩
theorem wU.gives {c:gA} {y:jE} {s:ck} {tf:jV→Value} {D:Nat→Prop} {w w':World} {e:Ending} (h:cG c D w y) (hg:bD (bz s) tf D w e w'):bD (wU c y s) tf D w e w':=by
 obtain⟨⟨x,e1,h1⟩,hx⟩:=hg
 exact⟨⟨x,e1,(cG.fr c h hx (fun _ _ _ h=>h)).mono fun _ h=>.inl h,h1⟩,hx⟩
theorem wU.put {c:gA} {y:jE} {s:ck} {D:Nat→Prop} {w:World} {x:jV} (h:wU c y s D w x):cG {c with ao:=s} D w {y with r:=x}:=⟨h.2,h.1.2.1,h.1.2.2.1,h.1.2.2.2⟩
def o9 (c:gA):gA:={c with ao:=dG c.ao,fs:=c.fs.take (c.fs.length - 1)++[{ix c.fs (c.fs.length - 1)with live:=false}]}
theorem BI (F:Nat→Prop) (c:gA) (y:jE) (w:World) (h:cG c F w y) (h0:0<c.fs.length) (hfl:c.fs.length≤1000000) (hp:0<c.ao.ps.length) (ha:0≤c.ao.at_) (hle:c.ao.at_≤c.ao.ts.length) (hpl:c.ao.ps.length≤1000000):Calls G.P 69 #[.agg (eN c y).toArray] w (bD (cG (o9 c)) (fun y=>.agg (eN (o9 c) y).toArray) F w):=by
 obtain⟨_,_,q1,d1,q2,d2,_,-,e5,-,-⟩:=h.frame (i:=c.fs.length - 1) Pc
 obtain⟨p1,c1,p2,c2,p3,c3,p4,c4,p5,c5,ey,k4,h4,kz⟩:=h.gx
 obtain⟨r,fv,rv,z⟩:=y
 cases ey
 dsimp only at kz e5
 have htop:∀D w',cG c D w' ⟨⟨.slice p1 c.ao.ts.length c1,.slice p2 c.ao.ps.length c2,.slice p3 c.ao.ps.length c3⟩,.slice p4 c.fs.length c4,.slice p5 c.results.length c5,z⟩→Calls G.P 63 #[.agg #[.slice p1 c.ao.ts.length c1,.slice p2 c.ao.ps.length c2,.slice p3 c.ao.ps.length c3,.int .i64 c.ao.bQ,.slice p4 c.fs.length c4,.slice p5 c.results.length c5,.int .i64 0]] w' fun e w2=>e=.returned (.agg #[.int .i64 (ix c.fs (c.fs.length - 1)).op,.slice q1 (ix c.fs (c.fs.length - 1)).par.length d1,.slice q2 (ix c.fs (c.fs.length - 1)).res.length d2,.bool (ix c.fs (c.fs.length - 1)).live,.bool (ix c.fs (c.fs.length - 1)).lq])∧Ext w' w2:=fun D w' hh=>by
  have:=kg D c ⟨⟨.slice p1 c.ao.ts.length c1,.slice p2 c.ao.ps.length c2,.slice p3 c.ao.ps.length c3⟩,.slice p4 c.fs.length c4,.slice p5 c.results.length c5,z⟩ w' hh h0
  dsimp only at this
  rw[e5]at this
  exact this
 refine ae (l:=[_]) func69 rfl ntmps69 rfl (Ok.fg (V:=cG c) (cG.fr c) (cG.lt c) h) ?_
 dsimp only[eN]
 repeat'(first|refine ar ?_|(refine aE fun b_=>?_)|(refine eu fun b_=>?_)|fail)
 all_goals first|omega|skip
 refine aa.he (HE.eK rfl rfl (fun w' hw'=>htop _ w' (hw'.an (V:=cG c) (w0:=w) (F:=F) (D:=fun _=>False) (y:=⟨⟨.slice p1 c.ao.ts.length c1,.slice p2 c.ao.ps.length c2,.slice p3 c.ao.ps.length c3⟩,.slice p4 c.fs.length c4,.slice p5 c.results.length c5,z⟩) ak bO))) rfl ?_
 rintro⟨⟩ _
 refine aa.alloc (t:=Gb) [.int .i64 0,.slice none 0 0,.slice none 0 0,.bool false,.bool false] rfl rfl rfl fun b3=>?_
 repeat'(first|refine ar ?_|fail)
 have hlo:∀D w',cG c D w' ⟨⟨.slice p1 c.ao.ts.length c1,.slice p2 c.ao.ps.length c2,.slice p3 c.ao.ps.length c3⟩,.slice p4 c.fs.length c4,.slice p5 c.results.length c5,z⟩→Calls G.P 117 #[.agg #[.slice p1 c.ao.ts.length c1,.slice p2 c.ao.ps.length c2,.slice p3 c.ao.ps.length c3,.int .i64 c.ao.bQ]] w' (bD (wU c ⟨⟨.slice p1 c.ao.ts.length c1,.slice p2 c.ao.ps.length c2,.slice p3 c.ao.ps.length c3⟩,.slice p4 c.fs.length c4,.slice p5 c.results.length c5,z⟩ (dG c.ao)) (fun x=>.agg (gw (dG c.ao) x).toArray) D w'):=fun D w' hh=>
  (Ah D c.ao ⟨.slice p1 c.ao.ts.length c1,.slice p2 c.ao.ps.length c2,.slice p3 c.ao.ps.length c3⟩ w' hh.1 hp ha hle hpl).mono fun _ _ hg=>wU.gives hh hg
 refine aa.he (HE.bV (V:=cG c) (V2:=wU c ⟨⟨.slice p1 c.ao.ts.length c1,.slice p2 c.ao.ps.length c2,.slice p3 c.ao.ps.length c3⟩,.slice p4 c.fs.length c4,.slice p5 c.results.length c5,z⟩ (dG c.ao)) (w0:=w) (F:=F) (D:=fun _=>False) (y:=⟨⟨.slice p1 c.ao.ts.length c1,.slice p2 c.ao.ps.length c2,.slice p3 c.ao.ps.length c3⟩,.slice p4 c.fs.length c4,.slice p5 c.results.length c5,z⟩) (wU.fr _ _ _) (wU.lt _ _ _) (wU.mo _ _ _) ak bO (fun _=>aH) rfl rfl (fun w' _ h=>hlo _ w' h)) rfl ?_
 rintro⟨D',x⟩ _
 refine aa.pure (φ:=∃p1 n1 c1 p2 n2 c2 p3 n3 c3,x=⟨.slice p1 n1 c1,.slice p2 n2 c2,.slice p3 n3 c3⟩) (fun w' hw'=>?_) ?_
 ·obtain⟨p1,c1,p2,c2,p3,c3,e,-⟩:=(hw'.an (V:=wU c ⟨⟨.slice p1 c.ao.ts.length c1,.slice p2 c.ao.ps.length c2,.slice p3 c.ao.ps.length c3⟩,.slice p4 c.fs.length c4,.slice p5 c.results.length c5,z⟩ (dG c.ao)) (w0:=w) (F:=F) (D:=D') (y:=x) ak bO).2.gx
  exact⟨p1,_,c1,p2,_,c2,p3,_,c3,e⟩
 rintro⟨s1,m1,k1,s2,m2,k2,s3,m3,k3,rfl⟩
 dsimp only[gw]
 repeat'(first|refine ar ?_|fail)
 refine aa.jQ (gj.ir [.slice s1 m1 k1,.slice s2 m2 k2,.slice s3 m3 k3,.int .i64 (dG c.ao).bQ] [.slice s1 m1 k1,.slice s2 m2 k2,.slice s3 m3 k3,.int .i64 (dG c.ao).bQ,.slice p4 c.fs.length c4,.slice p5 c.results.length c5,.int .i64 0] rfl rfl rfl rfl rfl rfl aH rfl rfl) ?_
 rintro⟨⟩ _
 repeat'(first|refine ar ?_|fail)
 have hwi:∀D' w',wU c ⟨⟨.slice p1 c.ao.ts.length c1,.slice p2 c.ao.ps.length c2,.slice p3 c.ao.ps.length c3⟩,.slice p4 c.fs.length c4,.slice p5 c.results.length c5,z⟩ (dG c.ao) D' w' ⟨.slice s1 m1 k1,.slice s2 m2 k2,.slice s3 m3 k3⟩→Calls G.P 115 #[.agg #[.slice s1 m1 k1,.slice s2 m2 k2,.slice s3 m3 k3,.int .i64 (dG c.ao).bQ,.slice p4 c.fs.length c4,.slice p5 c.results.length c5,.int .i64 0],.agg #[.int .i64 (ix c.fs (c.fs.length - 1)).op,.slice q1 (ix c.fs (c.fs.length - 1)).par.length d1,.slice q2 (ix c.fs (c.fs.length - 1)).res.length d2,.bool false,.bool (ix c.fs (c.fs.length - 1)).lq]] w' (bD (cG (o9 c)) (fun y=>.agg (eN (o9 c) y).toArray) D' w'):=fun D' w' hh=>by
  obtain⟨_,_,_,_,_,_,_,-,-,hx,-⟩:=hh.1.frame (i:=c.fs.length - 1) Pc
  dsimp only at hx
  rw[e5]at hx
  have:=uC D' {c with ao:=dG c.ao} ⟨⟨.slice s1 m1 k1,.slice s2 m2 k2,.slice s3 m3 k3⟩,.slice p4 c.fs.length c4,.slice p5 c.results.length c5,z⟩ {ix c.fs (c.fs.length - 1)with live:=false} (.slice q1 (ix c.fs (c.fs.length - 1)).par.length d1,.slice q2 (ix c.fs (c.fs.length - 1)).res.length d2) w' (wU.put hh) hx h0 hfl
  exact this
 refine aa.he (HE.bV (V:=wU c ⟨⟨.slice p1 c.ao.ts.length c1,.slice p2 c.ao.ps.length c2,.slice p3 c.ao.ps.length c3⟩,.slice p4 c.fs.length c4,.slice p5 c.results.length c5,z⟩ (dG c.ao)) (V2:=cG (o9 c)) (w0:=w) (F:=F) (D:=D') (y:=⟨.slice s1 m1 k1,.slice s2 m2 k2,.slice s3 m3 k3⟩) (cG.fr _) (cG.lt _) (cG.mo _) ak bO (fun _=>aH) rfl rfl (fun w' _ h=>hwi _ w' h)) rfl ?_
 rintro⟨D2,y2⟩ _
 refine aa.pure (φ:=∃p1 n1 c1 p2 n2 c2 p3 n3 c3 p4 n4 c4 p5 n5 c5,∃z:List vC,y2=⟨⟨.slice p1 n1 c1,.slice p2 n2 c2,.slice p3 n3 c3⟩,.slice p4 n4 c4,.slice p5 n5 c5,z⟩) (fun w' hw'=>?_) ?_
 ·obtain⟨p1,c1,p2,c2,p3,c3,p4,c4,p5,c5,e,-⟩:=(hw'.an (V:=cG (o9 c)) (w0:=w) (F:=F) (D:=D2) (y:=y2) ak bO).gx
  exact⟨p1,_,c1,p2,_,c2,p3,_,c3,p4,_,c4,p5,_,c5,_,e⟩
 rintro⟨t1,e1,l1,t2,e2,l2,t3,e3,l3,t4,e4,l4,t5,e5',l5,z5,rfl⟩
 dsimp only[eN]
 repeat'(first|refine ar ?_|fail)
 refine Mj ?_
 exact fun w' hw'=>bD.sC (V:=cG (o9 c)) (D:=D2) (y:=⟨⟨.slice t1 e1 l1,.slice t2 e2 l2,.slice t3 e3 l3⟩,.slice t4 e4 l4,.slice t5 e5' l5,z5⟩) (cG.mo _) hw' ak bO
theorem bA.ix {n fuel i:Nat} {listed:Array Bool} {E:Env} {M:List bu} {R:List (World→Prop)} (k:Nat) (h:bA z l Q Mc Rc n fuel listed i E M R) (_:Nat.beq i k=true:=by decide):bA z l Q Mc Rc n fuel listed i E M R:=h
theorem db.map {n fuel:Nat} {listed:Array Bool} {E:Env} {M M':List bu} {R R':List (World→Prop)} (hp:∀w,Ok M R w→Ok M' R' w) (h:db z l Q Mc Rc n fuel listed E M' R'):db z l Q Mc Rc n fuel listed E M R:=⟨fun w hw=>h.h w (hp w hw)⟩
def fG (l:List Value):Prop:=∃p1 n1 c1 p2 n2 c2 p3 n3 c3 m p4 n4 c4 p5 n5 c5 b,l=[.slice p1 n1 c1,.slice p2 n2 c2,.slice p3 n3 c3,.int .i64 m,.slice p4 n4 c4,.slice p5 n5 c5,.int .i64 b]
theorem fG.mk (n5 c5:Nat) (b:Int):fG [.slice p1 n1 c1,.slice p2 n2 c2,.slice p3 n3 c3,.int .i64 m,.slice p4 n4 c4,.slice p5 n5 c5,.int .i64 b]:=⟨p1,n1,c1,p2,n2,c2,p3,n3,c3,m,p4,n4,c4,p5,n5,c5,b,rfl⟩
theorem cG.v7 {c:gA} {D:Nat→Prop} {w:World} {y:jE} (h:cG c D w y):fG (eN c y):=by
 obtain⟨p1,c1,p2,c2,p3,c3,p4,c4,p5,c5,e,-⟩:=h.gx
 rw[e]
 exact fG.mk ..
def fX (r:gA×Int) (D:Nat→Prop) (w:World) (x:jE×List Value):Prop:=fG x.2∧(r.2=0→x.2=eN r.1 x.1∧cG r.1 D w x.1)
def gC (r:gA×Int) (F:Nat→Prop) (w:World):Ending→World→Prop:=bD (fX r) (fun x=>.tuple #[.agg x.2.toArray,.int .i64 r.2]) F w
theorem fX.fr (r:gA×Int):vE (fX r):=fun h hc hd=>⟨h.1,fun e=>⟨(h.2 e).1,cG.fr _ (h.2 e).2 hc hd⟩⟩
theorem fX.lt (r:gA×Int):Eu (fX r):=fun h=>⟨h.1,fun e=>⟨(h.2 e).1,cG.lt _ (h.2 e).2⟩⟩
theorem fX.mo (r:gA×Int):yX (fX r):=fun hd h=>⟨h.1,fun e=>⟨(h.2 e).1,cG.mono (h.2 e).2 hd⟩⟩
theorem gC.err {c:gA} {e:Int} {F:Nat→Prop} {w w':World} {l:List Value} (hl:fG l) (he:e≠0) (hx:Ext w w'):gC (c,e) F w (.returned (.tuple #[.agg l.toArray,.int .i64 e])) w':=⟨⟨(⟨⟨.slice none 0 0,.slice none 0 0,.slice none 0 0⟩,.slice none 0 0,.slice none 0 0,[]⟩,l),rfl,hl,fun h=>absurd h he⟩,hx⟩
theorem gC.ok {c:gA} {F:Nat→Prop} {w w':World} (y:jE) (h:cG c (fun k=>F k∨w.heap.size≤k) w' y) (hx:Ext w w'):gC (c,0) F w (.returned (.tuple #[.agg (eN c y).toArray,.int .i64 0])) w':=⟨⟨(y,eN c y),rfl,h.v7,fun _=>⟨rfl,h⟩⟩,hx⟩
theorem cG.at {c:gA} {F D:Nat→Prop} {s:ck} {w w':World} {y:jE} {x:jV} (h:cG c F w y) (hx:Ext w w') (hr:bz s D w' x):cG {c with ao:=s} (fun _=>True) w' {y with r:=x}:=by
 have h2:=(cG.fr c h hx (fun _ _ _ h=>h)).mono (H:=fun _=>True) fun _ _=>trivial
 exact⟨hr.mono fun _ _=>trivial,h2.2⟩
theorem Ok.new {β:Type} {V:(Nat→Prop)→World→β→Prop} {w w':World} {F D:Nat→Prop} {y:β} (hm:yX V) (hw:Ok M R w') (hR:Ext w∈R) (hM:bu.an V w F D y∈M):V (fun k=>F k∨w.heap.size≤k) w' y:=by
 obtain⟨⟨x,e,h⟩,_⟩:=bD.sC (V:=V) (tf:=fun _=>.bool true) hm hw hR hM
 exact hm (fun k hk=>hk.elim (fun h=>.inl h.1) fun h=>by
  rcases PA k w.heap.size with hlt|hge
  ·exact(hw.origin (S:=fun _=>False) hR k ⟨_,hM,h⟩ hlt).elim
  ·exact .inr hge) (hw.an hR hM)
def nZ (c:gA) (op:Int) (f:aO):gA×Int:=
 if op≠2∧op≠3∧op≠4 then(c,1)else if c.fs.length=0 then(c,16)else
  if(if op=4 then aK c.ao [1]else(c.ao,0)).2≠0 then(c,(if op=4 then aK c.ao [1]else(c.ao,0)).2)else
   if(aK (if op=4 then aK c.ao [1]else(c.ao,0)).1 f.params).2≠0 then(c,(aK (if op=4 then aK c.ao [1]else(c.ao,0)).1 f.params).2)else
    ({c with ao:=aS (aW (aK (if op=4 then aK c.ao [1]else(c.ao,0)).1 f.params).1) f.params,fs:=c.fs++[⟨op,f.params,f.results,(ix c.fs (c.fs.length - 1)).live,(ix c.fs (c.fs.length - 1)).live⟩]},0)
theorem oy (F:Nat→Prop) (c:gA) (y:jE) (op:Int) (f:aO) (fp fq:Option Addr) (fc fd:Nat) (w:World) (h:cG c F w y) (_hf:dH f F w (.slice fp f.params.length fc,.slice fq f.results.length fd)) (hs:c.ao.Wf) (_hfl:c.fs.length≤1000000) (_hpl:c.ao.ps.length≤1000000) (hb:c.ao.ts.length+f.params.length≤17592186044416) (he:(op≠2∧op≠3∧op≠4)∨c.fs.length=0):Calls G.P 66 #[.agg (eN c y).toArray,.int .i64 op,.agg #[.slice fp f.params.length fc,.slice fq f.results.length fd]] w (gC (c,if op≠2∧op≠3∧op≠4 then 1 else 16) F w):=by
 have:=hb;clear this
 have hps:=hs.some
 have hat:=hs.at_
 obtain⟨p1,c1,p2,c2,p3,c3,p4,c4,p5,c5,ey,k4,h4,kz⟩:=h.gx
 obtain⟨r,fv,rv,z⟩:=y
 cases ey
 refine Mq ?_
 dsimp only[eN]
 by_cases ho:op≠2∧op≠3∧op≠4
 ·rw[if_pos ho]
  obtain⟨o2,o3,o4⟩:=ho
  repeat'(first|refine ar ?_|(refine aE fun b_=>?_)|(refine eu fun b_=>?_)|(refine dy fun b_=>?_)|(refine bC ?_ ?_<;>intro hc_))
  all_goals exact rt
 ·rw[if_neg ho]
  have hn:c.fs.length=0:=he.resolve_left ho
  have hn':(c.fs.length:Int)=0:=by omega
  repeat'(first|refine ar ?_|(refine aE fun b_=>?_)|(refine eu fun b_=>?_)|(refine dy fun b_=>?_)|(refine bC ?_ ?_<;>intro hc_))
  all_goals exact rt
theorem cG.Kl {c:gA} {F D:Nat→Prop} {s:ck} {w w':World} {y:jE} {x:jV} (h:cG c F w y) (hx:Ext w w') (hr:bz s (AF F w D) w' x):cG {c with ao:=s} (AF F w D) w' {y with r:=x}:=by
 have h2:=(cG.fr c (cG.lt c h) hx (fun _ _ _ h=>h)).mono (H:=AF F w D) fun _ hk=>.inl hk
 exact⟨hr,h2.2⟩
def xd (c:gA):gA×Int:=
 if c.fs.length=0∨(ix c.fs (c.fs.length - 1)).op≠4 then(c,16)else if(cP c.ao (ix c.fs (c.fs.length - 1)).res).2≠0 then(c,(cP c.ao (ix c.fs (c.fs.length - 1)).res).2)else
  ({c with ao:=aS (aW (cP c.ao (ix c.fs (c.fs.length - 1)).res).1) (ix c.fs (c.fs.length - 1)).par,fs:=c.fs.take (c.fs.length - 1)++[{ix c.fs (c.fs.length - 1)with op:=5,live:=(ix c.fs (c.fs.length - 1)).lq}]},0)
theorem sL (F:Nat→Prop) (c:gA) (y:jE) (w:World) (h:cG c F w y) (hs:c.ao.Wf) (_hfl:c.fs.length≤1000000) (_hpl:c.ao.ps.length≤1000000) (_hn:c.fs.length=0):Calls G.P 67 #[.agg (eN c y).toArray] w (gC (c,16) F w):=by
 have hp0:=hs.some
 have ha0:=hs.at_.1
 have hle0:=hs.at_.2
 obtain⟨p1,c1,p2,c2,p3,c3,p4,c4,p5,c5,ey,k4,h4,kz⟩:=h.gx
 obtain⟨y,fv,rv,z⟩:=y
 cases ey
 refine M3 ?_
 dsimp only[eN]
 have hn':(c.fs.length:Int)=0:=by omega
 repeat'(first|refine ar ?_|(refine NQ fun b_=>?_)|fail)
 all_goals exact rt
theorem we (F:Nat→Prop) (c:gA) (y:jE) (w:World) (h:cG c F w y) (hs:c.ao.Wf) (_hfl:c.fs.length≤1000000) (_hpl:c.ao.ps.length≤1000000) (_hn:c.fs.length≠0) (_ho:(ix c.fs (c.fs.length - 1)).op≠4):Calls G.P 67 #[.agg (eN c y).toArray] w (gC (c,16) F w):=by
 have hp0:=hs.some
 have ha0:=hs.at_.1
 have hle0:=hs.at_.2
 obtain⟨p1,c1,p2,c2,p3,c3,p4,c4,p5,c5,ey,k4,h4,kz⟩:=h.gx
 obtain⟨_,_,g1,k1,g2,k2,_,-,e5,hfx,-⟩:=h.frame (i:=c.fs.length - 1) Pc
 have hz:=h.2.1
 have htop:∀w',Ext w w'→Calls G.P 63 #[.agg (eN c y).toArray] w' fun e w2=>e=.returned (.agg #[.int .i64 (ix c.fs (c.fs.length - 1)).op,.slice g1 (ix c.fs (c.fs.length - 1)).par.length k1,.slice g2 (ix c.fs (c.fs.length - 1)).res.length k2,.bool (ix c.fs (c.fs.length - 1)).live,.bool (ix c.fs (c.fs.length - 1)).lq])∧Ext w' w2:=fun w' hx=>by
  have:=kg F c y w' (cG.fr c h hx (fun _ _ _ h=>h)) Pc
  rw[e5]at this
  exact this
 obtain⟨y,fv,rv,z⟩:=y
 cases ey
 dsimp only[eN]at e5 hz kz hfx htop
 rw[e5]at hfx
 have hI:∀l v,ai F w v l→∀D w',Ext w w'→ai (AF F w D) w' v l:=fun l v hv D w' hx=>(((hv.mono (fun k hk hF=>⟨hF,hk⟩):ai (fun k=>F k∧k<w.heap.size) w _ _)).aP hx (fun _ _ _ h=>h)).mono fun k _ h=>.inl h
 refine M3 ?_
 dsimp only[eN]
 have hn':¬(c.fs.length:Int)=0:=by omega
 repeat'(first|refine ar ?_|(refine NQ fun b_=>?_)|refine Oc ?_|(refine aa.yg O2 (Yl.iw (T:=63) (o:=0) O5 O5 rfl rfl rfl rfl) rfl ?_)|fail)
 all_goals exact rt
theorem yB (F:Nat→Prop) (c:gA) (y:jE) (w:World) (h:cG c F w y) (hs:c.ao.Wf) (hfl:c.fs.length≤1000000) (_hpl:c.ao.ps.length≤1000000) (_hn:c.fs.length≠0) (ho:(ix c.fs (c.fs.length - 1)).op=4) (hp2:2≤c.ao.ps.length) (_hb:c.ao.ts.length+(ix c.fs (c.fs.length - 1)).par.length≤17592186044416):Calls G.P 67 #[.agg (eN c y).toArray] w (gC (if(cP c.ao (ix c.fs (c.fs.length - 1)).res).2≠0 then(c,(cP c.ao (ix c.fs (c.fs.length - 1)).res).2)else
  ({c with ao:=aS (aW (cP c.ao (ix c.fs (c.fs.length - 1)).res).1) (ix c.fs (c.fs.length - 1)).par,fs:=c.fs.take (c.fs.length - 1)++[{ix c.fs (c.fs.length - 1)with op:=5,live:=(ix c.fs (c.fs.length - 1)).lq}]},0)) F w):=by
 have:=ho;clear this
 have hp0:=hs.some
 have ha0:=hs.at_.1
 have hle0:=hs.at_.2
 obtain⟨p1,c1,p2,c2,p3,c3,p4,c4,p5,c5,ey,k4,h4,kz⟩:=h.gx
 obtain⟨_,_,g1,k1,g2,k2,_,-,e5,hfx,-⟩:=h.frame (i:=c.fs.length - 1) Pc
 have hz:=h.2.1
 have htop:∀w',Ext w w'→Calls G.P 63 #[.agg (eN c y).toArray] w' fun e w2=>e=.returned (.agg #[.int .i64 (ix c.fs (c.fs.length - 1)).op,.slice g1 (ix c.fs (c.fs.length - 1)).par.length k1,.slice g2 (ix c.fs (c.fs.length - 1)).res.length k2,.bool (ix c.fs (c.fs.length - 1)).live,.bool (ix c.fs (c.fs.length - 1)).lq])∧Ext w' w2:=fun w' hx=>by
  have:=kg F c y w' (cG.fr c h hx (fun _ _ _ h=>h)) Pc
  rw[e5]at this
  exact this
 obtain⟨y,fv,rv,z⟩:=y
 cases ey
 dsimp only[eN]at e5 hz kz hfx htop
 rw[e5]at hfx
 have hI:∀l v,ai F w v l→∀D w',Ext w w'→ai (AF F w D) w' v l:=fun l v hv D w' hx=>(((hv.mono (fun k hk hF=>⟨hF,hk⟩):ai (fun k=>F k∧k<w.heap.size) w _ _)).aP hx (fun _ _ _ h=>h)).mono fun k _ h=>.inl h
 refine M3 ?_
 dsimp only[eN]
 have hn':¬(c.fs.length:Int)=0:=by omega
 obtain⟨r1,hr1⟩:∃r,cP c.ao (ix c.fs (c.fs.length - 1)).res=r:=⟨_,rfl⟩
 obtain⟨s1,e1⟩:=r1
 rw[hr1]
 have hts1:s1.ts.length≤c.ao.ts.length:=by have:=mS c.ao (ix c.fs (c.fs.length - 1)).res;rw[hr1]at this;exact this
 dsimp only
 repeat'(first|refine ar ?_|(refine NQ fun b_=>?_)|(refine aa.aj (f:=63) ?_;refine aa.au rfl rfl rfl (fun w' hw'=>htop w' hw'.at) ?_)|refine Oc ?_|(refine aa.yg O2 (Yl.iw (T:=63) (o:=0) O5 O5 rfl rfl rfl rfl) rfl ?_)|fail)
 all_goals first|omega|skip
 obtain⟨b4,rfl⟩:∃y:Nat,y=b_:=⟨_,rfl⟩
 by_cases he1:e1=0
 ·subst he1
  rw[if_neg (fun h=>h rfl)]
  obtain⟨hpa,hpb⟩:0<s1.ps.length∧s1.ps.length≤c.ao.ps.length:=by have:=vj c.ao (ix c.fs (c.fs.length - 1)).res hp2 (by rw[hr1]);rw[hr1]at this;exact this
  refine aa.he (HE.bV (V:=bz c.ao) (V2:=bz s1) (w0:=w) (F:=F) (D:=fun _=>False) (y:=⟨.slice p1 c.ao.ts.length c1,.slice p2 c.ao.ps.length c2,.slice p3 c.ao.ps.length c3⟩) (bz.fr _) (bz.lt _) (bz.mo _) ak bO (fun _=>aH) rfl rfl (fun w' hw' hh=>by have:=np _ F c.ao ⟨.slice p1 c.ao.ts.length c1,.slice p2 c.ao.ps.length c2,.slice p3 c.ao.ps.length c3⟩ (.slice g2 (ix c.fs (c.fs.length - 1)).res.length k2) (ix c.fs (c.fs.length - 1)).res w' hh (hfx.2.aP (show Ext w w' from hw'.at) (fun _ _ _ h=>h)) hp2 ha0 hle0;rw[hr1]at this;exact this.mono fun _ _ g=>oK.to g)) rfl ?_
  rintro⟨D1,x1⟩ _
  refine aa.pure (φ:=∃q1 d1 q2 d2 q3 d3,x1=⟨.slice q1 s1.ts.length d1,.slice q2 s1.ps.length d2,.slice q3 s1.ps.length d3⟩) (fun w' hw'=>by obtain⟨q1,d1,q2,d2,q3,d3,e,-⟩:=(hw'.an (V:=bz s1) (w0:=w) (F:=F) (D:=D1) (y:=x1) ak bO).gx;exact⟨q1,d1,q2,d2,q3,d3,e⟩) ?_
  rintro⟨r1,rc1,r2,rc2,r3,rc3,rfl⟩
  dsimp only[gw]
  repeat'(first|refine ar ?_|(refine NS fun b_=>?_)|fail)
  obtain⟨b5,rfl⟩:∃y:Nat,y=b_:=⟨_,rfl⟩
  refine bh.iA 7 [.aV b5 [.slice r1 s1.ts.length rc1,.slice r2 s1.ps.length rc2,.slice r3 s1.ps.length rc3,.int .i64 s1.bQ] nR,.aV b4 [.int .i64 (ix c.fs (c.fs.length - 1)).op,.slice g1 (ix c.fs (c.fs.length - 1)).par.length k1,.slice g2 (ix c.fs (c.fs.length - 1)).res.length k2,.bool (ix c.fs (c.fs.length - 1)).live,.bool (ix c.fs (c.fs.length - 1)).lq] Gb] [Ext w] bw aU ?_
  repeat'(first|refine CV ?_|(refine bA.dz 61 ?_;refine bA.he rfl rfl (HE.bV (V:=bz s1) (V2:=bz (aW s1)) (tf:=fun y=>.agg (gw (aW s1) y).toArray) (w0:=w) (F:=F) (D:=D1) (y:=⟨.slice r1 s1.ts.length rc1,.slice r2 s1.ps.length rc2,.slice r3 s1.ps.length rc3⟩) (bz.fr _) (bz.lt _) (bz.mo _) ak bO (fun _=>aH) rfl rfl (fun w' hw' hh=>nm _ s1 ⟨.slice r1 s1.ts.length rc1,.slice r2 s1.ps.length rc2,.slice r3 s1.ps.length rc3⟩ w' hh Pc)) (fun _=>bw) (fun _=>aU) ?_;rintro⟨D3,x3⟩ _;refine db.pure (φ:=∃q1 d1 q2 d2 q3 d3,x3=⟨.slice q1 (aW s1).ts.length d1,.slice q2 (aW s1).ps.length d2,.slice q3 (aW s1).ps.length d3⟩) (fun w' hw'=>by obtain⟨q1,d1,q2,d2,q3,d3,e,-⟩:=(hw'.an (V:=bz (aW s1)) (w0:=w) (F:=F) (D:=D3) (y:=x3) ak bO).gx;exact⟨q1,d1,q2,d2,q3,d3,e⟩) ?_;rintro⟨u1,uc1,u2,uc2,u3,uc3,rfl⟩;dsimp only[gw])|(refine bA.dz 113 ?_;refine bA.he rfl rfl (HE.bV (V:=bz (aW s1)) (V2:=bz (aS (aW s1) (ix c.fs (c.fs.length - 1)).par)) (tf:=fun y=>.agg (gw (aS (aW s1) (ix c.fs (c.fs.length - 1)).par) y).toArray) (w0:=w) (F:=F) (D:=D3) (y:=⟨.slice u1 (aW s1).ts.length uc1,.slice u2 (aW s1).ps.length uc2,.slice u3 (aW s1).ps.length uc3⟩) (bz.fr _) (bz.lt _) (bz.mo _) ak bO (fun _=>aH) rfl rfl (fun w' hw' hh=>kf _ (aW s1) ⟨.slice u1 (aW s1).ts.length uc1,.slice u2 (aW s1).ps.length uc2,.slice u3 (aW s1).ps.length uc3⟩ (.slice g1 (ix c.fs (c.fs.length - 1)).par.length k1) (ix c.fs (c.fs.length - 1)).par w' hh (hI _ _ hfx.1 _ w' hw'.at) (by show s1.ts.length+_≤_;omega))) (fun _=>bw) (fun _=>aU) ?_;rintro⟨D4,x4⟩ _;refine db.pure (φ:=∃q1 d1 q2 d2 q3 d3,x4=⟨.slice q1 (aS (aW s1) (ix c.fs (c.fs.length - 1)).par).ts.length d1,.slice q2 (aS (aW s1) (ix c.fs (c.fs.length - 1)).par).ps.length d2,.slice q3 (aS (aW s1) (ix c.fs (c.fs.length - 1)).par).ps.length d3⟩) (fun w' hw'=>by obtain⟨q1,d1,q2,d2,q3,d3,e,-⟩:=(hw'.an (V:=bz (aS (aW s1) (ix c.fs (c.fs.length - 1)).par)) (w0:=w) (F:=F) (D:=D4) (y:=x4) ak bO).gx;exact⟨q1,d1,q2,d2,q3,d3,e⟩) ?_;rintro⟨v1,vc1,v2,vc2,v3,vc3,rfl⟩;dsimp only[gw])|(refine bA.iM rfl (gj.ir [.slice v1 (aS (aW s1) (ix c.fs (c.fs.length - 1)).par).ts.length vc1,.slice v2 (aS (aW s1) (ix c.fs (c.fs.length - 1)).par).ps.length vc2,.slice v3 (aS (aW s1) (ix c.fs (c.fs.length - 1)).par).ps.length vc3,.int .i64 (aS (aW s1) (ix c.fs (c.fs.length - 1)).par).bQ] [.slice v1 (aS (aW s1) (ix c.fs (c.fs.length - 1)).par).ts.length vc1,.slice v2 (aS (aW s1) (ix c.fs (c.fs.length - 1)).par).ps.length vc2,.slice v3 (aS (aW s1) (ix c.fs (c.fs.length - 1)).par).ps.length vc3,.int .i64 (aS (aW s1) (ix c.fs (c.fs.length - 1)).par).bQ,.slice p4 c.fs.length c4,.slice p5 c.results.length c5,.int .i64 0] rfl rfl rfl rfl rfl rfl aH rfl rfl) ?_;rintro⟨⟩ _)|refine db.any O3 ?_|exact cw.fin rfl|refine cw.skip O3 ?_|refine cw.go ?_ ?_)
  obtain⟨s4,hs4⟩:∃s,aS (aW s1) (ix c.fs (c.fs.length - 1)).par=s:=⟨_,rfl⟩
  rw[hs4]
  repeat'(first|refine ar ?_|fail)
  refine aa.he (HE.bV (V:=bz s4) (V2:=cG {c with ao:=s4,fs:=c.fs.take (c.fs.length - 1)++[{ix c.fs (c.fs.length - 1)with op:=5,live:=(ix c.fs (c.fs.length - 1)).lq}]}) (tf:=fun y=>.agg (eN {c with ao:=s4,fs:=c.fs.take (c.fs.length - 1)++[{ix c.fs (c.fs.length - 1)with op:=5,live:=(ix c.fs (c.fs.length - 1)).lq}]} y).toArray) (w0:=w) (F:=F) (D:=D4) (y:=⟨.slice v1 s4.ts.length vc1,.slice v2 s4.ps.length vc2,.slice v3 s4.ps.length vc3⟩) (cG.fr _) (cG.lt _) (cG.mo _) ak bO (fun _=>aH) rfl rfl (fun w' hw' hh=>by have:=uC _ {c with ao:=s4} ⟨⟨.slice v1 s4.ts.length vc1,.slice v2 s4.ps.length vc2,.slice v3 s4.ps.length vc3⟩,.slice p4 c.fs.length c4,.slice p5 c.results.length c5,z⟩ {ix c.fs (c.fs.length - 1)with op:=5,live:=(ix c.fs (c.fs.length - 1)).lq} (.slice g1 (ix c.fs (c.fs.length - 1)).par.length k1,.slice g2 (ix c.fs (c.fs.length - 1)).res.length k2) w' (cG.Kl h hw'.at hh) ⟨hI _ _ hfx.1 _ w' hw'.at,hI _ _ hfx.2 _ w' hw'.at⟩ (by show 0<c.fs.length;omega) hfl;exact this)) rfl ?_
  rintro⟨D5,y5⟩ _
  refine aa.pure (φ:=∃a1 n1 c1 a2 n2 c2 a3 n3 c3 a4 n4 c4 a5 n5 c5,∃z:List vC,y5=⟨⟨.slice a1 n1 c1,.slice a2 n2 c2,.slice a3 n3 c3⟩,.slice a4 n4 c4,.slice a5 n5 c5,z⟩) (fun w' hw'=>by obtain⟨p1,c1,p2,c2,p3,c3,p4,c4,p5,c5,e,-⟩:=(hw'.an (V:=cG {c with ao:=s4,fs:=c.fs.take (c.fs.length - 1)++[{ix c.fs (c.fs.length - 1)with op:=5,live:=(ix c.fs (c.fs.length - 1)).lq}]}) (w0:=w) (F:=F) (D:=D5) (y:=y5) ak bO).gx;exact⟨p1,_,c1,p2,_,c2,p3,_,c3,p4,_,c4,p5,_,c5,_,e⟩) ?_
  rintro⟨t1,m1,l1,t2,m2,l2,t3,m3,l3,t4,m4,l4,t5,m5,l5,z5,rfl⟩
  dsimp only[eN]
  repeat'(first|refine ar ?_|fail)
  refine Mv ?_
  exact fun w' hw'=>gC.ok (c:={c with ao:=s4,fs:=c.fs.take (c.fs.length - 1)++[{ix c.fs (c.fs.length - 1)with op:=5,live:=(ix c.fs (c.fs.length - 1)).lq}]}) ⟨⟨.slice t1 m1 l1,.slice t2 m2 l2,.slice t3 m3 l3⟩,.slice t4 m4 l4,.slice t5 m5 l5,z5⟩ (hw'.new (V:=cG {c with ao:=s4,fs:=c.fs.take (c.fs.length - 1)++[{ix c.fs (c.fs.length - 1)with op:=5,live:=(ix c.fs (c.fs.length - 1)).lq}]}) (w:=w) (F:=F) (D:=D5) (y:=⟨⟨.slice t1 m1 l1,.slice t2 m2 l2,.slice t3 m3 l3⟩,.slice t4 m4 l4,.slice t5 m5 l5,z5⟩) (cG.mo _) ak bO) hw'.at
 ·rw[if_pos he1]
  refine aa.he (HE.bV (V:=bz c.ao) (V2:=ky) (w0:=w) (F:=F) (D:=fun _=>False) (y:=⟨.slice p1 c.ao.ts.length c1,.slice p2 c.ao.ps.length c2,.slice p3 c.ao.ps.length c3⟩) ky.fr ky.lt ky.mo ak bO (fun _=>aH) rfl rfl (fun w' hw' hh=>by have:=np _ F c.ao ⟨.slice p1 c.ao.ts.length c1,.slice p2 c.ao.ps.length c2,.slice p3 c.ao.ps.length c3⟩ (.slice g2 (ix c.fs (c.fs.length - 1)).res.length k2) (ix c.fs (c.fs.length - 1)).res w' hh (hfx.2.aP (show Ext w w' from hw'.at) (fun _ _ _ h=>h)) hp2 ha0 hle0;rw[hr1]at this;exact this.mono fun _ _ g=>oK.qW g)) rfl ?_
  rintro⟨D2,x2⟩ _
  refine Mw ?_
  rintro⟨q1,n1,d1,q2,n2,d2,q3,n3,d3,rfl⟩
  dsimp only[gw]
  repeat'(first|refine ar ?_|(refine NS fun b_=>?_)|(refine aa.aj (f:=112) ?_;refine aa.he (HE.eK rfl rfl (fun w' _=>iP _ _ _ _ _ _ _ _ _ _ _ _ _ _ _ _ _ _ w')) rfl ?_;rintro⟨⟩ _)|fail)
  all_goals first|omega|skip
  all_goals(refine ah.aM (.inl rfl) rfl rfl rfl rfl rfl aH rfl rfl ?_;exact fun w' hw'=>gC.err (e:=_) (fG.mk ..) OU hw'.at)
theorem HE.Gz {n:Nat} {E:Env} {M:List bu} {R:List (World→Prop)} {β2:Type} {V2:(Nat→Prop)→World→β2→Prop} (hV2:vE V2) (hl:Eu V2) {tf:β2→Value} {f:Nat} {args:List Operand} {tys:Array TypeId} {vs:List Value}
  (hf:G.fb[f]?=some true) (ha:kI E args=some vs) (hc:∀w,Ok M R w→Calls G.P f vs.toArray w (bD V2 tf (fun _=>False) w)):
  HE n (.call ⟨.value (.func f),args.toArray,tys⟩) E M R (fun _:(Nat→Prop)×β2=>True) (fun x=>tf x.2) (fun x=>.kr V2 hV2 x.1 x.2::M) (fun _=>R):=
 ⟨fun w hw=>(bU.call hf ha (hc w hw) (fun e w' h=>by obtain⟨⟨x,e1,_⟩,_⟩:=h;exact⟨_,e1⟩)).mono fun v w' ⟨⟨x,e1,hv⟩,hx⟩=>by
  cases e1
  refine⟨(fun k=>(False∨w.heap.size≤k)∧k<w'.heap.size,x),trivial,rfl,hw.push hx (hl hv) ?_⟩
  rintro k ⟨hk,hlt⟩
  exact⟨hk.elim (fun h=>h.elim) (fun h=>h),hlt⟩⟩
def DM (l:List Int):gA:=⟨aW ⟨[],[(0,false)],0⟩,[⟨11,[],l,true,true⟩],l⟩
theorem D8 (F:Nat→Prop) (l:List Int) (v:Value) (w:World) (h:ai F w v l):Calls G.P 35 #[v] w (bD (cG (DM l)) (fun y=>.agg (eN (DM l) y).toArray) F w):=by
 obtain⟨q,d,rfl,hl⟩:=h.slice
 refine ae (l:=[_]) func35 rfl ntmps35 rfl (Ok.start w) ?_
 repeat'(first|refine ar ?_|(refine eu fun b_=>?_)|fail)
 refine aa.alloc (t:=Gb) [.int .i64 0,.slice none 0 0,.slice none 0 0,.bool false,.bool false] rfl rfl rfl fun b3=>?_
 repeat'(first|refine ar ?_|fail)
 refine bh.iA 6 [.aV b3 [.int .i64 11,.slice none 0 0,.slice q l.length d,.bool true,.bool true] Gb] [Ext w] bw aU ?_
 repeat'(first|refine CV ?_|(refine bA.dz 62 ?_;refine bA.he rfl rfl (HE.Gz (V2:=bz ⟨[],[(0,false)],0⟩) (bz.fr _) (bz.lt _) (tf:=fun y=>.agg (gw ⟨[],[(0,false)],0⟩ y).toArray) rfl rfl (fun w' hw'=>DZ w')) (fun _=>bw) (fun _=>aU) ?_;rintro⟨D1,y1⟩ _;dsimp only)|(refine bA.dz 61 ?_;refine bA.he rfl rfl (HE.HR (V:=bz ⟨[],[(0,false)],0⟩) (V2:=bz (aW ⟨[],[(0,false)],0⟩)) (bz.fr _) (bz.fr _) (bz.lt _) (tf:=fun y=>.agg (gw (aW ⟨[],[(0,false)],0⟩) y).toArray) (fun _=>aH) rfl rfl (fun w' hw'=>nm D1 ⟨[],[(0,false)],0⟩ y1 w' (show bz ⟨[],[(0,false)],0⟩ D1 w' y1 from(hw'.m (.kr (bz ⟨[],[(0,false)],0⟩) (bz.fr _) D1 y1) bO).1) Pb)) (fun _=>bw) (fun _=>aU) ?_;rintro⟨D2,y2⟩ _;dsimp only;refine db.pure (φ:=∃p1 c1 p2 c2 p3 c3,y2=⟨.slice p1 0 c1,.slice p2 2 c2,.slice p3 2 c3⟩) (fun w' hw'=>?_) ?_;(·obtain⟨p1,c1,p2,c2,p3,c3,e,-⟩:=(show bz (aW ⟨[],[(0,false)],0⟩) D2 w' y2 from(hw'.m (.kr (bz (aW ⟨[],[(0,false)],0⟩)) (bz.fr _) D2 y2) bO).1).gx;exact⟨p1,c1,p2,c2,p3,c3,e⟩);rintro⟨r1,k1,r2,k2,r3,k3,rfl⟩;dsimp only[gw])|(refine bA.lD ?_;refine bA.he rfl rfl (HE.jJ rfl rfl rfl rfl rfl ep Pe Pe) (fun _=>bw) (fun _=>aU) ?_;intro b7 _)|(refine bA.iM rfl (gj.bn [.slice r1 0 k1,.slice r2 2 k2,.slice r3 2 k3,.int .i64 0,.slice (some ⟨b7,0,none⟩) 1 1,.slice q l.length d,.int .i64 0] rfl rfl rfl rfl rfl rfl aH rfl) ?_;rintro⟨⟩ _)|refine db.any O3 ?_|exact cw.fin rfl|refine cw.skip O3 ?_|refine cw.go ?_ ?_)
 all_goals
  repeat'(first|refine ar ?_|fail)
  refine Mj ?_
  intro w' hw'
  have g1:bz (aW ⟨[],[(0,false)],0⟩) (fun k=>F k∨w.heap.size≤k) w' ⟨.slice r1 0 k1,.slice r2 2 k2,.slice r3 2 k3⟩:=bz.mono (show bz (aW ⟨[],[(0,false)],0⟩) D2 w' ⟨.slice r1 0 k1,.slice r2 2 k2,.slice r3 2 k3⟩from(hw'.m (.kr (bz (aW ⟨[],[(0,false)],0⟩)) (bz.fr _) D2 _) bO).1) fun k hk=>by
   rcases PA k w.heap.size with h|h
   ·exact(hw'.origin (S:=fun _=>False) (show Ext w∈_ from ak) k ⟨.kr (bz (aW ⟨[],[(0,false)],0⟩)) (bz.fr _) D2 ⟨.slice r1 0 k1,.slice r2 2 k2,.slice r3 2 k3⟩,bO,hk⟩ h).elim
   ·exact .inr h
  have g2:vF (fun k=>F k∨w.heap.size≤k) w' (.slice (some ⟨b7,0,none⟩) 1 1) [(⟨11,[],l,true,true⟩,.slice none 0 0,.slice q l.length d)]:=oP (n:=1) (cs:=[.int .i64 11,.slice none 0 0,.slice q l.length d,.bool true,.bool true]) _ (hw'.jP (b:=b7) (len:=1) (s:=5) (T:=Gb) aH rfl OY) ak bO rfl rfl (show 1≤1000001 by omega) (fun a ha=>by
   rw[PI.1 ha]
   exact⟨ai.cI _ _,h.kc hw' ak⟩)
  exact⟨⟨(⟨⟨.slice r1 0 k1,.slice r2 2 k2,.slice r3 2 k3⟩,.slice (some ⟨b7,0,none⟩) 1 1,.slice q l.length d,[(⟨11,[],l,true,true⟩,.slice none 0 0,.slice q l.length d)]⟩:jE),rfl,g1,g2,h.kc hw' ak,Pr _,rfl⟩,hw'.at⟩
end Go.Proofs.YtdkcljdfbemnbaaGreatDoor
