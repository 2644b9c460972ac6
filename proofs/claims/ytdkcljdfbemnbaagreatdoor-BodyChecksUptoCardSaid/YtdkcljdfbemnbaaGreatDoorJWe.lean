/- What the index spaces answer: signatures. -/
import Derived.Test.YtdkcljdfbemnbaaGreatDoorJGh
import Derived.Test.YtdkcljdfbemnbaaGreatDoorJRt
import Derived.Test.YtdkcljdfbemnbaaGreatDoorJAw
import Derived.Test.YtdkcljdfbemnbaaGreatDoorJTz
namespace Go.Proofs.YtdkcljdfbemnbaaGreatDoor
open Go.RowKit _root_.Go.Proofs.Tryz
set_option maxHeartbeats 64000000
open Int renaming eq_ofNat_of_zero_le→PD
open List renaming cons_append→Pj,length_map→PS,nil_append→Pi,take_length→Pu
open Nat renaming le_trans→Py,zero_add→Pm
open Value renaming bool→Ph,int→Pf,slice→Pg,string→Pk
set_option maxRecDepth 100000
def Gf (B:Nat) (f:aO) (x:Value×Value):List bu:=[.own B nU 1 x.1 f.params.length (f.params.map (Pf .i64)),.own B nU 1 x.2 f.results.length (f.results.map (Pf .i64))]
variable {l:List cv} (B:Nat) (B0:Nat) (F:Nat→Prop) (m:af) (k:Int) (v:Value) (x:cv) (pt pl:Option Addr) (i:Int) (cs:List Value) (w:World)
theorem pA (B:Nat) (f:aO) (u0 u1:Value) (w:World) (h0:ai F w u0 f.params) (h1:ai F w u1 f.results) (hB:B≤w.heap.size):Calls G.P 20 #[.agg #[u0,u1]] w (aC [] w (fun x:Value×Value=>.agg #[x.1,x.2]) (fun _=>True) (Gf B f)):=by
 obtain⟨p0,c0,rfl,l0⟩:=h0.slice
 obtain⟨p1,c1,rfl,l1⟩:=h1.slice
 refine ae (l:=[.agg #[.slice p0 f.params.length c0,.slice p1 f.results.length c1]]) func20 rfl ntmps20 rfl (Ok.start w) ?_
 refine cq ?_
 refine aa.box [.slice p0 f.params.length c0,.slice p1 f.results.length c1] rfl rfl rfl fun b1=>?_
 refine cq ?_
 refine aa.alloc [Pg none 0 0,Pg none 0 0] rfl rfl rfl fun b2=>?_
 refine cq ?_
 refine bh.iN B nU 1 ?_
 refine bh.iN B nU 1 ?_
 refine bh.dP [0,1,3,4,2,5,6] 7 [.aV b1 [.slice p0 f.params.length c0,.slice p1 f.results.length c1] sw] [Ext w] O5 bw aU ?_
 refine mX ?_
 refine bF.he (HE.gP (f.params.map (Pf .i64)) rfl rfl (fun _=>aH) (jL h0 ak) Pd rfl rfl rfl Pe Pe Pe (fj _) OP Pc (fun w' hw'=>Py hB (show Ext w w' from hw'.at).size)) rfl (fun _=>bw) (fun _=>aU) ?_
 intro v1 _
 refine bF.he (HE.gP (f.results.map (Pf .i64)) rfl rfl (fun _=>aH) (jL h1 ak) Pd rfl rfl rfl Pe Pe Pe (fj _) (by show(0+f.results.length)*8≤_;omega) Pc (fun w' hw'=>Py hB (show Ext w w' from hw'.at).size)) rfl (fun _=>bw) (fun _=>aU) ?_
 intro v2 _
 refine bF.pure (φ:=(∃p c,v1=.slice p (0+f.params.length) c)∧∃p c,v2=.slice p (0+f.results.length) c) (fun w' hw'=>⟨?_,?_⟩) ?_
 ·obtain⟨p,c,e,_⟩:=aw (hw'.own (v:=v1));exact⟨p,c,e⟩
 ·obtain⟨p,c,e,_⟩:=aw (hw'.own (v:=v2));exact⟨p,c,e⟩
 rintro⟨⟨q1,d1,rfl⟩,⟨q2,d2,rfl⟩⟩
 refine mX ?_
 refine bF.iM (gj.bn _ rfl rfl rfl rfl rfl rfl aH rfl) rfl ?_
 rintro⟨⟩ _
 simp only[Pm,Pi]
 refine cq ?_
 refine ah.bB (.inl rfl) rfl rfl rfl rfl rfl aH rfl fun w' hw'=>aC.tP (x:=(Pg q1 f.params.length d1,Pg q2 f.results.length d2)) trivial hw' ?_ ak
 dsimp only[Gf]
 exact bw
theorem A3 (b o n c j n0 n1 y0 y1:Nat) (x0 x1:Option Addr) (w:World) (hj:j<n) (g0:w.cell? ⟨b,o+j*2,none⟩=some (.slice x0 n0 y0)) (g1:w.cell? ⟨b,o+j*2+1,none⟩=some (.slice x1 n1 y1)):Calls G.P 77 #[.slice (some ⟨b,o,none⟩) n c,.int .i64 j] w fun e w'=>e=.returned (.tuple #[.agg #[.slice x0 n0 y0,.slice x1 n1 y1],.bool true])∧Ext w w':=by
 refine ae (l:=[_,_]) func77 rfl ntmps77 rfl (Ok.start w) ?_
 refine bh.lj (Cs b (o+j*2) [Pg x0 n0 y0,Pg x1 n1 y1]) (fun w' hw'=>by
  intro k hk
  have hx:Ext w w':=hw' _ ak
  match k,hk with
  |0,_=>exact hx.cell g0
  |1,_=>exact hx.cell g1) ?_
 repeat'(first|refine ar ?_|(refine NR fun b_=>?_)|fail)
 all_goals exact mp
theorem zt (p:Option Addr) (n c:Nat) (i:Int) (w:World) (hin:¬(0≤i∧i<n)):Calls G.P 77 #[.slice p n c,.int .i64 i] w fun e w'=>e=.returned (.tuple #[.agg #[.slice none 0 0,.slice none 0 0],.bool false])∧Ext w w':=by
 refine ae (l:=[_,_]) func77 rfl ntmps77 rfl (Ok.start w) ?_
 repeat'(first|refine ar ?_|(refine NR fun b_=>?_)|(refine bC ?_ ?_<;>intro hc_))
 all_goals exact mt
theorem Hq {m:af} {i:Int} {B:Nat} {w:World} {tc:List Value} {tv:Value} (hr:oS 2 w tv m.types.length tc) (ht:mw B tc m.types w):∃p c,tv=.slice p m.types.length c∧((¬(0≤i∧i<m.types.length)∧cJ m.types i=none)∨∃(j b o:Nat) (x0 x1:Option Addr) (y0 y1:Nat),i=j∧j<m.types.length∧p=some ⟨b,o,none⟩∧cJ m.types i=some (ix m.types j)∧
  w.cell? ⟨b,o+j*2,none⟩=some (.slice x0 (ix m.types j).params.length y0)∧w.cell? ⟨b,o+j*2+1,none⟩=some (.slice x1 (ix m.types j).results.length y1)∧ai (fun k=>B≤k) w (.slice x0 (ix m.types j).params.length y0) (ix m.types j).params∧ai (fun k=>B≤k) w (.slice x1 (ix m.types j).results.length y1) (ix m.types j).results):=by
 obtain⟨p,c,rfl,hl,hr⟩:=hr
 refine⟨p,c,rfl,?_⟩
 by_cases hin:0≤i∧i<m.types.length
 ·obtain⟨j,rfl⟩:=PD hin.1
  have hj:j<m.types.length:=by omega
  obtain⟨b,o,rfl,hc⟩:=hr.resolve_left Pc
  obtain⟨u0,u1,e1,e2,q0,q1⟩:=ht.2 j hj
  obtain⟨x0,y0,rfl,z0⟩:=q0.slice
  obtain⟨x1,y1,rfl,z1⟩:=q1.slice
  have hlt:j*2+1<tc.length:=(List.getElem?_eq_some_iff.1 e2).1
  exact .inr ⟨j,b,o,x0,x1,y0,y1,rfl,hj,rfl,jX hj,by rw[hc _ Pc,e1],by rw[Nat.add_assoc,hc _ hlt,e2],q0,q1⟩
 ·exact .inl ⟨hin,iL hin⟩
def EB (B:Nat) (w:World) (r:Option aO):Ending→World→Prop:=aC [] w (fun x:Value×Value=>.tuple #[.agg #[x.1,x.2],.bool r.isSome]) (fun _=>True) (Gf B (r.getD dF))
theorem so (B0 B:Nat) (m:af) (v:Value) (i:Int) (w:World) (h:bN B0 m w v) (hB:B≤w.heap.size):Calls G.P 43 #[v,.int .i64 i] w (EB B w (cJ m.types i)):=by
 obtain⟨bS,sp,im,dm,vs,tc,ig,dg,rfl,-,h⟩:=h
 have hb:=kt h.ts
 have c2:w.cell? ⟨sp,0,none⟩=some vs.tv:=h.x.cell rfl
 obtain⟨p,c,e,hh⟩:=Hq (i:=i) hb h.ty
 rw[e]at c2
 unfold EB
 rcases hh with⟨hin,hat⟩|⟨j,b,o,x0,x1,y0,y1,rfl,hj,rfl,hat,g0,g1,q0,q1⟩
 ·rw[hat]
  refine ae (l:=[_,_]) func43 rfl ntmps43 rfl (Ok.start w) ?_
  repeat'(first|refine ar ?_|(refine NR fun b_=>?_)|refine N4 ?_|(refine aa.aj (f:=77) ?_;refine aa.au rfl rfl rfl (fun w' hw'=>zt p m.types.length c i w' hin) ?_)|fail)
  refine aa.he (HE.tu (M0:=[]) rfl rfl (fun w' hw'=>pA (fun _=>False) B dF _ _ w' (ai.cI _ _) (ai.cI _ _) (Py hB (show Ext w w' from hw'.at).size))) rfl ?_
  rintro⟨v1,v2⟩ _
  dsimp only[Gf,Pj,Pi]
  refine aa.pure (φ:=(∃p c,v1=.slice p dF.params.length c)∧∃p c,v2=.slice p dF.results.length c) (fun w' hw'=>⟨?_,?_⟩) ?_
  ·obtain⟨p,c,e,_⟩:=aw (hw'.own (v:=v1));exact⟨p,c,e⟩
  ·obtain⟨p,c,e,_⟩:=aw (hw'.own (v:=v2));exact⟨p,c,e⟩
  rintro⟨⟨q1,d1,rfl⟩,⟨q2,d2,rfl⟩⟩
  repeat'(first|refine ar ?_|fail)
  exact ah.aM (.inl rfl) rfl rfl rfl rfl rfl aH rfl rfl fun w' hw'=>aC.tP (x:=(Pg q1 dF.params.length d1,Pg q2 dF.results.length d2)) trivial hw' (by dsimp only[Gf];exact bw) ak
 ·rw[hat]
  refine ae (l:=[_,_]) func43 rfl ntmps43 rfl (Ok.start w) ?_
  repeat'(first|refine ar ?_|(refine NR fun b_=>?_)|refine N4 ?_|(refine aa.aj (f:=77) ?_;refine aa.au rfl rfl rfl (fun w' hw'=>A3 b o m.types.length c j _ _ y0 y1 x0 x1 w' hj ((show Ext w w' from hw'.at).cell g0) ((show Ext w w' from hw'.at).cell g1)) ?_)|fail)
  refine aa.he (HE.tu (M0:=[]) rfl rfl (fun w' hw'=>pA (fun k=>B0≤k) B (ix m.types j) _ _ w' (q0.aP (show Ext w w' from hw'.at) (fun _ _ _ h=>h)) (q1.aP (show Ext w w' from hw'.at) (fun _ _ _ h=>h)) (Py hB (show Ext w w' from hw'.at).size))) rfl ?_
  rintro⟨v1,v2⟩ _
  dsimp only[Gf,Pj,Pi]
  refine aa.pure (φ:=(∃p c,v1=.slice p (ix m.types j).params.length c)∧∃p c,v2=.slice p (ix m.types j).results.length c) (fun w' hw'=>⟨?_,?_⟩) ?_
  ·obtain⟨p,c,e,_⟩:=aw (hw'.own (v:=v1));exact⟨p,c,e⟩
  ·obtain⟨p,c,e,_⟩:=aw (hw'.own (v:=v2));exact⟨p,c,e⟩
  rintro⟨⟨q1,d1,rfl⟩,⟨q2,d2,rfl⟩⟩
  repeat'(first|refine ar ?_|fail)
  exact ah.aM (.inl rfl) rfl rfl rfl rfl rfl aH rfl rfl fun w' hw'=>aC.tP (x:=(Pg q1 (ix m.types j).params.length d1,Pg q2 (ix m.types j).results.length d2)) trivial hw' (by dsimp only[Gf];exact bw) ak
def Le:bY:=⟨⟨#[]⟩,⟨#[]⟩,0,0,Bt,Iv,JB⟩
theorem js {w:World} {R:List (World→Prop)} {b o s:Nat} {cs:List Value} (hc:∀j,j<s→w.cell? ⟨b,o+j,none⟩=cs[j]?) (hl:cs.length=s) (hR:Ext w∈R):∀w',(∀r,r∈R→r w')→Cs b o cs w':=fun w' hw' k hk=>by
 have h:=hc k Pc
 rw[List.getElem?_eq_getElem hk]at h ⊢
 exact(show Ext w w' from hw' _ hR).cell h
theorem Dp {F:Nat→Prop} {w:World} {b o:Nat} {x:gU} (h:cV F w b o x):∀j,j<2→w.cell? ⟨b,o+j,none⟩=(pS x.dI)[j]?:=by
 obtain⟨cs,hV,hc⟩:=h
 obtain⟨v0,rfl,-⟩:=hV
 intro j hj
 match j,hj with
 |0,_=>exact hc 0 Pc
 |1,_=>exact hc 1 Pc
theorem H3 {F:Nat→Prop} {w:World} {b o:Nat} {x:bY} (h:dA F w b o x):∀j,j<13→w.cell? ⟨b,o+j,none⟩=(mG x)[j]?:=by
 obtain⟨cs,hV,hc⟩:=h
 obtain⟨rfl,-⟩:=hV
 exact hc
theorem iH (hm:av F w cs m):Calls G.P 44 #[.agg cs.toArray,.int .i64 i] w (bD (dH ((cJ m.types i).getD dF)) (fun x=>.tuple #[.agg #[x.1,x.2],.bool (cJ m.types i).isSome]) F w):=by
 obtain⟨v0,v1,v2,v3,v4,v5,v6,v7,v8,v9,rfl,r0,r1,r2,r3,r4,r5,r6,r7,r8,r9,g0⟩:=hm
 obtain⟨p0,c0,rfl,l0⟩:=r0.slice
 by_cases hin:0≤i∧i<m.types.length
 ·obtain⟨j,rfl⟩:=PD hin.1
  have hj:j<m.types.length:=by omega
  obtain⟨b,o,rfl,hF,cs2,⟨u0,u1,rfl,q0,q1⟩,hc⟩:=r0.el hj
  obtain⟨x0,y0,rfl,z0⟩:=q0.slice
  obtain⟨x1,y1,rfl,z1⟩:=q1.slice
  rw[jX hj]
  refine ae (l:=[_,_]) func44 rfl ntmps44 rfl (Ok.start w) ?_
  refine bh.lj (Cs b (o+j*2) _) (js hc rfl ak) ?_
  repeat'(first|refine ar ?_|(refine NP fun b_=>?_)|(refine aa.ed (t:=iD) ?_;refine aa.alloc (t:=iD) [Pk ⟨#[]⟩,Pk ⟨#[]⟩,Pf .i64 0,Pf .i64 0,Pf .i64 0,Pf .i64 0,Pf .i64 0,Ph false,Pf .i64 0,Pf .i64 0,Ph false,Pf .i64 0,Ph false] rfl rfl rfl fun b_=>?_)|(refine bC ?_ ?_<;>intro hc_))
  all_goals exact ah.aM (.inl rfl) rfl rfl rfl rfl rfl aH rfl rfl fun w' hw'=>⟨⟨(_,_),rfl,dH.mono (D:=F) ⟨q0.aP (show Ext w w' from hw'.at) (fun _ _ _ h=>h),q1.aP (show Ext w w' from hw'.at) (fun _ _ _ h=>h)⟩ (fun _ h=>.inl h)⟩,hw'.at⟩
 ·rw[iL hin]
  refine ae (l:=[_,_]) func44 rfl ntmps44 rfl (Ok.start w) ?_
  repeat'(first|refine ar ?_|(refine NP fun b_=>?_)|(refine aa.ed (t:=iD) ?_;refine aa.alloc (t:=iD) [Pk ⟨#[]⟩,Pk ⟨#[]⟩,Pf .i64 0,Pf .i64 0,Pf .i64 0,Pf .i64 0,Pf .i64 0,Ph false,Pf .i64 0,Pf .i64 0,Ph false,Pf .i64 0,Ph false] rfl rfl rfl fun b_=>?_)|(refine bC ?_ ?_<;>intro hc_))
  all_goals first|omega|exact ah.aM (.inl rfl) rfl rfl rfl rfl rfl aH rfl rfl fun w' hw'=>⟨⟨(_,_),rfl,dH.nil _ _⟩,hw'.at⟩
theorem CA:(m.imports.filter fun x=>decide (x.kind=k)).length=kS m k:=by unfold kS vM;rw[List.take_length]
theorem CB:kS m k≤m.imports.length:=xZ _ _ _
theorem DO:∀(l:List bY) (j:Nat) (r:Int),j<l.length→kV (l.drop j) k r=if(ix l j).kind≠k then kV (l.drop (j+1)) k r else if r=0 then some (ix l j)else kV (l.drop (j+1)) k (r - 1):=fun l j r hj=>by
 rw[List.drop_eq_getElem_cons hj,kV,cz hj]
theorem Fy (l:List bY) (r:Int):kV (l.drop l.length) k r=none:=by rw[List.drop_length];rfl
theorem fU (k i:Int) (cs:List Value) (w:World) (hm:av F w cs m) (h0:0≤i) (hi:eO i):Calls G.P 194 #[.agg cs.toArray,.int .i64 k,.int .i64 i] w fun e w'=>e=.returned (.tuple #[.agg (mG ((kV m.imports k i).getD Le)).toArray,.bool (kV m.imports k i).isSome])∧Ext w w':=by
 obtain⟨v0,v1,v2,v3,v4,v5,v6,v7,v8,v9,rfl,r0,r1,r2,r3,r4,r5,r6,r7,r8,r9,g0⟩:=hm
 obtain⟨p1,c1,rfl,l1⟩:=r1.slice
 refine ae (l:=[_,_,_]) func194 rfl ntmps194 rfl (Ok.start w) ?_
 refine cq ?_
 refine aa.box ([v0,Pg p1 m.imports.length c1,v2,v3,v4,v5,v6,Ph m.aI,Pf .i64 m.start,v7,v8,v9]:List Value) rfl rfl rfl fun b=>?_
 refine cq ?_
 refine aa.alloc (t:=iD) [Pk ⟨#[]⟩,Pk ⟨#[]⟩,Pf .i64 0,Pf .i64 0,Pf .i64 0,Pf .i64 0,Pf .i64 0,Ph false,Pf .i64 0,Pf .i64 0,Ph false,Pf .i64 0,Ph false] rfl rfl rfl fun b2=>?_
 refine cq ?_
 unfold eO at hi
 refine bh.loop (σ:=Nat×Int) (fun s=>[(1,.int .i64 k),(2,.int .i64 s.2),(3,.pointer (some ⟨b,0,none⟩)),(6,.pointer (some ⟨b2,0,none⟩)),(8,.int .i64 s.1)]) (fun _=>[.aV b2 [Pk ⟨#[]⟩,Pk ⟨#[]⟩,Pf .i64 0,Pf .i64 0,Pf .i64 0,Pf .i64 0,Pf .i64 0,Ph false,Pf .i64 0,Pf .i64 0,Ph false,Pf .i64 0,Ph false] iD,.aV b ([v0,Pg p1 m.imports.length c1,v2,v3,v4,v5,v6,Ph m.aI,Pf .i64 m.start,v7,v8,v9]:List Value) jF]) (fun _=>[Ext w]) (fun s=>s.1≤m.imports.length∧0≤s.2∧s.2≤i∧kV (m.imports.drop s.1) k s.2=kV m.imports k i) (fun s=>m.imports.length - s.1) (0,i) bH bw aU ⟨by dsimp only;omega,h0,Int.le_refl _,rfl⟩ ?_
 rintro⟨j,r⟩ ⟨hj,hr0,hri,heq⟩
 dsimp only at hj hr0 hri heq ⊢
 by_cases hlt:j<m.imports.length
 ·obtain⟨b1,o1,rfl,hF,he⟩:=r1.el hlt
  have c:=he.kind
  have hcc:=H3 he
  have hs:=DO k m.imports j r hlt
  by_cases hk:(ix m.imports j).kind=k
  ·rw[if_neg (by simp[hk])]at hs
   by_cases hr:r=0
   ·rw[if_pos hr]at hs
    rw[heq]at hs
    rw[hs]
    refine bh.lj (Cs b1 (o1+j*13) [Pk (ix m.imports j).module,Pk (ix m.imports j).name,Pf .i64 (ix m.imports j).kind,Pf .i64 (ix m.imports j).func,Pf .i64 (ix m.imports j).table.elem,Pf .i64 (ix m.imports j).table.mZ.min,Pf .i64 (ix m.imports j).table.mZ.max,Ph (ix m.imports j).table.mZ.has,Pf .i64 (ix m.imports j).mem.min,Pf .i64 (ix m.imports j).mem.max,Ph (ix m.imports j).mem.has,Pf .i64 (ix m.imports j).ff.nQ,Ph (ix m.imports j).ff.sB]) (js hcc rfl ak) ?_
    refine cq ?_
    exact mp
   ·rw[if_neg hr]at hs
    refine cq ?_
    exact ah.next (j+1,r - 1) bH bw aU ⟨by dsimp only;omega,by dsimp only;omega,by dsimp only;omega,by rw[←hs];exact heq⟩ O0
  ·rw[if_pos hk]at hs
   refine cq ?_
   exact ah.next (j+1,r) bH bw aU ⟨by dsimp only;omega,hr0,hri,by rw[←hs];exact heq⟩ O0
 ·obtain rfl:j=m.imports.length:=by omega
  rw[Fy]at heq
  rw[←heq]
  refine cq ?_
  exact mp
def vR (m:af) (k i n:Int):Int:=if 0≤i - kS m k∧i - kS m k<n then i - kS m k else -1
theorem jB (k i n:Int) (cs:List Value) (w:World) (hm:av F w cs m) (h0:0≤i) (hi:eO i):Calls G.P 195 #[.agg cs.toArray,.int .i64 k,.int .i64 i,.int .i64 n] w fun e w'=>e=.returned (.int .i64 (vR m k i n))∧Ext w w':=by
 have hm0:=hm
 obtain⟨v0,v1,v2,v3,v4,v5,v6,v7,v8,v9,rfl,r0,r1,r2,r3,r4,r5,r6,r7,r8,r9,g0⟩:=hm
 obtain⟨p1,c1,rfl,l1⟩:=r1.slice
 have hle:=CB m k
 unfold eO at hi
 have hd:∃z:Nat,kS m k=z:=⟨_,rfl⟩
 obtain⟨z,hz⟩:=hd
 unfold vR
 rw[hz]at hle ⊢
 refine ae (l:=[_,_,_,_]) func195 rfl ntmps195 rfl (Ok.start w) ?_
 repeat'(first|refine ar ?_|(refine aE fun b_=>?_)|(refine aa.aj (f:=208) ?_;refine aa.au (v:=.int .i64 (z:Nat)) rfl rfl rfl (fun w' hw'=>by have:=om F m k _ w' (hm0.aP (show Ext w w' from hw'.at) (fun _ _ _ h=>h));rw[hz]at this;exact this) ?_)|(refine bC ?_ ?_<;>intro hc_))
 all_goals first|omega|exact ah.aF rfl rfl fun w' hw'=>⟨by rw[if_pos Pc],hw'.at⟩|exact ah.aF rfl rfl fun w' hw'=>⟨by rw[if_neg Pc],hw'.at⟩
theorem sZ {α:Type} [Inhabited α] (f:bY→α) (m:af) (k:Int) (own:List α) {i:Int} (h:0≤i):cJ ((m.imports.filter fun x=>decide (x.kind=k)).map f++own) i=match kV m.imports k i with
  |some x=>some (f x)
  |none=>cJ own (i - kS m k):=by
 rw[Gq f m.imports k own i,CA]
 cases kV m.imports k i with
 |some x=>rfl
 |none=>rw[if_pos h]
theorem pW (hm:av F w cs m):Calls G.P 160 #[.agg cs.toArray,.int .i64 i] w fun e w'=>e=.returned (.tuple #[.int .i64 ((cJ (dN m) i).getD 0),.bool (cJ (dN m) i).isSome])∧Ext w w':=by
 obtain⟨v0,v1,v2,v3,v4,v5,v6,v7,v8,v9,rfl,r0,r1,r2,r3,r4,r5,r6,r7,r8,r9,g0⟩:=hm
 obtain⟨p7,c7,rfl,l7⟩:=r7.slice
 by_cases hin:0≤i∧i<m.elems.length
 ·obtain⟨j,rfl⟩:=PD hin.1
  have hj:j<m.elems.length:=by omega
  obtain⟨b,o,rfl,hF,he⟩:=r7.el hj
  have hc:=he.dI
  have e:cJ (dN m) (j:Nat)=some (ix m.elems j).dI:=by unfold dN;rw[jX (by simpa using hj),rm hj]
  rw[e]
  refine ae (l:=[_,_]) func160 rfl ntmps160 rfl (Ok.start w) ?_
  repeat'(first|refine ar ?_|(refine aE fun b_=>?_)|(refine bC ?_ ?_<;>intro hc_))
  all_goals exact ah.iq rfl rfl rfl fun w' hw'=>⟨by rfl,hw'.at⟩
 ·have e:cJ (dN m) i=none:=iL (by unfold dN;simpa using hin)
  rw[e]
  refine ae (l:=[_,_]) func160 rfl ntmps160 rfl (Ok.start w) ?_
  repeat'(first|refine ar ?_|(refine aE fun b_=>?_)|(refine bC ?_ ?_<;>intro hc_))
  all_goals first|omega|exact ah.iq rfl rfl rfl fun w' hw'=>⟨by rfl,hw'.at⟩
theorem sj (hm:av F w cs m):Calls G.P 162 #[.agg cs.toArray] w fun e w'=>e=.returned (.int .i64 m.bg.length)∧Ext w w':=by
 obtain⟨v0,v1,v2,v3,v4,v5,v6,v7,v8,v9,rfl,r0,r1,r2,r3,r4,r5,r6,r7,r8,r9,g0⟩:=hm
 obtain⟨p8,c8,rfl,l8⟩:=r8.slice
 refine ae (l:=[_]) func162 rfl ntmps162 rfl (Ok.start w) ?_
 repeat'(first|refine ar ?_|(refine aE fun b_=>?_)|fail)
 all_goals exact rd
theorem Be:(gI m).length=kS m 0+m.funcs.length:=by unfold gI rn;rw[List.length_append,List.length_map,List.length_map,CA]
theorem Ae (hm:av F w cs m):Calls G.P 196 #[.agg cs.toArray] w fun e w'=>e=.returned (.int .i64 (gI m).length)∧Ext w w':=by
 have hm0:=hm
 obtain⟨v0,v1,v2,v3,v4,v5,v6,v7,v8,v9,rfl,r0,r1,r2,r3,r4,r5,r6,r7,r8,r9,g0⟩:=hm
 obtain⟨p1,c1,rfl,l1⟩:=r1.slice
 obtain⟨p2,c2,rfl,l2⟩:=r2.slice
 have hle:=CB m 0
 have hfl:=Be m
 obtain⟨z,hz⟩:∃z,kS m 0=z:=⟨_,rfl⟩
 obtain⟨y,hy⟩:∃y,(gI m).length=y:=⟨_,rfl⟩
 rw[hz]at hle hfl
 rw[hy]at hfl ⊢
 subst hfl
 refine ae (l:=[_]) func196 rfl ntmps196 rfl (Ok.start w) ?_
 refine cq ?_
 refine aa.box _ rfl rfl rfl fun b=>?_
 refine cq ?_
 refine M6 ?_
 refine cq ?_
 refine aq.nW (v:=.int .i64 (z:Nat)) rfl rfl rfl (fun w' hw'=>by have:=om F m 0 _ w' (hm0.aP (show Ext w w' from hw'.at) (fun _ _ _ h=>h));rw[hz]at this;exact this) ?_
 refine cq ?_
 exact ah.aF rfl rfl fun w' hw'=>⟨by rw[Int.natCast_add],hw'.at⟩
theorem Bs {k:Int} {j:Nat} (hj:j<l.length):named (l.take (j+1)) k=(named (l.take j) k || (decide ((ix l j).op=210) && decide ((ix l j).a=k))):=by
 rw[bM hj,xq];unfold named;simp
theorem DI {k:Int} {j:Nat} (h:named (l.take j) k=true):named l k=true:=by
 unfold named at*
 rw[List.any_eq_true]at h ⊢
 obtain⟨x,hx,h⟩:=h
 exact⟨x,List.mem_of_mem_take hx,h⟩
theorem mc (xs:List cv) (v:Value) (i:Int) (w:World) (h:fE F w v xs):Calls G.P 197 #[v,.int .i64 i] w fun e w'=>e=.returned (.bool (named xs i))∧Ext w w':=by
 obtain⟨p,c,rfl,hl⟩:=h.slice
 refine ae (l:=[_,_]) func197 rfl ntmps197 rfl (Ok.start w) ?_
 refine cq ?_
 refine bh.loop (σ:=Nat) (fun j=>[(0,.slice p xs.length c),(1,.int .i64 i),(5,.int .i64 j)]) (fun _=>[]) (fun _=>[Ext w]) (fun j=>j≤xs.length∧named (xs.take j) i=false) (fun j=>xs.length - j) 0 bH bw aU ⟨by omega,by simp[named]⟩ ?_
 rintro j ⟨hj,hnot⟩
 by_cases hjl:j<xs.length
 ·obtain⟨b7,o7,rfl,-,hall⟩:=h.at hjl
  have hop:=(hall j hjl).op
  have ha:=(hall j hjl).a
  have hst:=Bs (k:=i) hjl
  rw[hnot,Bool.false_or]at hst
  by_cases h1:(ix xs j).op=210
  ·by_cases h2:(ix xs j).a=i
   ·repeat'(first|refine ar ?_|fail)
    all_goals refine ah.aF rfl rfl fun w' hw'=>⟨?_,hw'.at⟩
    all_goals rw[DI (j:=j+1) (by rw[hst];simp[h1,h2])]
   ·repeat'(first|refine ar ?_|fail)
    all_goals exact ah.next (j+1) bH bw aU ⟨by omega,by rw[hst];simp[h1,h2]⟩ Pc
  ·repeat'(first|refine ar ?_|fail)
   all_goals exact ah.next (j+1) bH bw aU ⟨by omega,by rw[hst];simp[h1]⟩ Pc
 ·obtain rfl:j=xs.length:=by omega
  rw[Pu]at hnot
  refine cq ?_
  exact ah.aF rfl rfl fun w' hw'=>⟨by rw[hnot],hw'.at⟩
theorem dH.shape {f:aO} {D:Nat→Prop} {w:World} {u0 u1:Value} (h:dH f D w (u0,u1)):(∃p c,u0=.slice p f.params.length c)∧∃p c,u1=.slice p f.results.length c:=by
 obtain⟨p,c,e,_⟩:=h.1.slice
 obtain⟨p2,c2,e2,_⟩:=h.2.slice
 exact⟨⟨p,c,e⟩,⟨p2,c2,e2⟩⟩
structure C1 where
 D:Nat→Prop
 p:Option Addr
 c:Nat
 q:Option Addr
 d:Nat
def sW (f:aO) (x:C1):World→Prop:=fun w=>dH f x.D w (.slice x.p f.params.length x.c,.slice x.q f.results.length x.d)
section
variable {n:Nat} {E:Env} {M M':List bu} {R R':List (World→Prop)} {w:World}
theorem HE.EV {f0:aO} {tf:Value→Value→Value} {F:Nat→Prop} {w0:World} {f:Nat} {args:List Operand} {tys:Array TypeId} {vs:List Value} (hR:Ext w0∈R) (hF:∀k,F k→k<w0.heap.size) (hf:G.fb[f]?=some true) (ha:kI E args=some vs)
  (hc:∀w,Ok M R w→Calls G.P f vs.toArray w (bD (dH f0) (fun y:Value×Value=>tf y.1 y.2) F w)):
  HE n (.call ⟨.value (.func f),args.toArray,tys⟩) E M R (fun x:C1=>∀k,x.D k→F k∨w0.heap.size≤k) (fun x=>tf (.slice x.p f0.params.length x.c) (.slice x.q f0.results.length x.d)) (fun _=>M) (fun x=>sW f0 x::R):=
 ⟨fun w hw=>(bU.call hf ha (hc w hw) (fun e w' h=>by obtain⟨⟨x,e1,_⟩,_⟩:=h;exact⟨_,e1⟩)).mono fun v w' ⟨⟨⟨x1,x2⟩,e1,hv⟩,hx⟩=>by
  cases e1
  obtain⟨⟨p,c,rfl⟩,⟨q,d,rfl⟩⟩:=hv.shape
  refine⟨⟨fun k=>F k∨w.heap.size≤k,p,c,q,d⟩,?_,rfl,(hw.ext hx).add fun w2 h2=>dH.fr f0 hv h2 fun k hk1 hk hm=>?_⟩
  ·rintro k (h|h)
   ·exact .inl h
   ·exact .inr (Py (show Ext w0 w from hw.get hR).size h)
  ·rcases hk with hk|hk
   ·exact hw.origin (S:=fun _=>False) hR k hm (hF k hk)
   ·obtain⟨q,hq,hk'⟩:=hm
    have:=(hw.m q hq).2 k hk';omega⟩
theorem bD.jm {f0:aO} {tf:Value×Value→Value} {F:Nat→Prop} {w0 w':World} (x:C1) (h:Ok M R w') (hr:sW f0 x∈R) (hR:Ext w0∈R) (hD:∀k,x.D k→F k∨w0.heap.size≤k):bD (dH f0) tf F w0 (.returned (tf (.slice x.p f0.params.length x.c,.slice x.q f0.results.length x.d))) w':=
 ⟨⟨_,rfl,dH.mono (D:=x.D) (h.get hr) hD⟩,h.get hR⟩
theorem bD.JC {tf:Value×Value→Value} {F:Nat→Prop} {w0 w':World} (h:Ok M R w') (hR:Ext w0∈R):bD (dH dF) tf F w0 (.returned (tf (.slice none 0 0,.slice none 0 0))) w':=⟨⟨_,rfl,dH.nil _ _⟩,h.get hR⟩
theorem bD.HG {β:Type} {V:(Nat→Prop)→World→β→Prop} (hm:∀{D H:Nat→Prop} {w:World} {x:β},V D w x→(∀k,D k→H k)→V H w x) {tf:β→Value} {F H:Nat→Prop} {w w':World} {e:Ending} (h:bD V tf F w e w') (hF:∀k,F k→H k):bD V tf H w e w':=by
 obtain⟨⟨x,e1,hv⟩,hx⟩:=h
 exact⟨⟨x,e1,hm hv fun k hk=>hk.imp (hF k) id⟩,hx⟩
theorem HY {B:Nat} {f:aO} {x:Value×Value} {w:World} (h1:w.ownsRow B nU 1 x.1 f.params.length (f.params.map (Pf .i64))) (h2:w.ownsRow B nU 1 x.2 f.results.length (f.results.map (Pf .i64))) (l1:f.params.length≤17592186044416) (l2:f.results.length≤17592186044416):dH f (fun k=>B≤k) w x:=⟨kW h1 l1,kW h2 l2⟩
end
def iU (r:Option aO) (F:Nat→Prop) (w:World):Ending→World→Prop:=bD (dH (r.getD dF)) (fun x:Value×Value=>.tuple #[.agg #[x.1,x.2],.bool r.isSome]) F w
section
variable {n:Nat} {E:Env} {M:List bu} {R:List (World→Prop)} {w0:World} {f:Nat} {args:List Operand} {tys:Array TypeId} {vs:List Value} {F:Nat→Prop}
theorem HE.yZ {r:Option aO} (hR:Ext w0∈R) (hF:∀k,F k→k<w0.heap.size) (hf:G.fb[f]?=some true) (ha:kI E args=some vs) (hc:∀w,Ok M R w→Calls G.P f vs.toArray w (iU r F w)):
  HE n (.call ⟨.value (.func f),args.toArray,tys⟩) E M R (fun x:C1=>∀k,x.D k→F k∨w0.heap.size≤k) (fun x=>.tuple #[.agg #[.slice x.p (r.getD dF).params.length x.c,.slice x.q (r.getD dF).results.length x.d],.bool r.isSome]) (fun _=>M) (fun x=>sW (r.getD dF) x::R):=
 HE.EV (tf:=fun u v=>.tuple #[.agg #[u,v],.bool r.isSome]) hR hF hf ha hc
theorem HE.mR {r:Option aO} (hR:Ext w0∈R) (hf:G.fb[f]?=some true) (ha:kI E args=some vs) (hc:∀w,Ok M R w→Calls G.P f vs.toArray w (iU r (fun _=>False) w)):
  HE n (.call ⟨.value (.func f),args.toArray,tys⟩) E M R (fun x:C1=>∀k,x.D k→False∨w0.heap.size≤k) (fun x=>.tuple #[.agg #[.slice x.p (r.getD dF).params.length x.c,.slice x.q (r.getD dF).results.length x.d],.bool r.isSome]) (fun _=>M) (fun x=>sW (r.getD dF) x::R):=HE.yZ hR (fun _ h=>h.elim) hf ha hc
theorem HE.Lg {r:aO×Int} (hR:Ext w0∈R) (hF:∀k,F k→k<w0.heap.size) (hf:G.fb[f]?=some true) (ha:kI E args=some vs) (hc:∀w,Ok M R w→Calls G.P f vs.toArray w (jx r F w)):
  HE n (.call ⟨.value (.func f),args.toArray,tys⟩) E M R (fun x:C1=>∀k,x.D k→F k∨w0.heap.size≤k) (fun x=>.tuple #[.agg #[.slice x.p r.1.params.length x.c,.slice x.q r.1.results.length x.d],.int .i64 r.2]) (fun _=>M) (fun x=>sW r.1 x::R):=
 HE.EV (tf:=fun u v=>.tuple #[.agg #[u,v],.int .i64 r.2]) hR hF hf ha hc
theorem HE.FZ {r:aO×Int} (hR:Ext w0∈R) (hf:G.fb[f]?=some true) (ha:kI E args=some vs) (hc:∀w,Ok M R w→Calls G.P f vs.toArray w (jx r (fun _=>False) w)):
  HE n (.call ⟨.value (.func f),args.toArray,tys⟩) E M R (fun x:C1=>∀k,x.D k→False∨w0.heap.size≤k) (fun x=>.tuple #[.agg #[.slice x.p r.1.params.length x.c,.slice x.q r.1.results.length x.d],.int .i64 r.2]) (fun _=>M) (fun x=>sW r.1 x::R):=HE.Lg hR (fun _ h=>h.elim) hf ha hc
end
theorem kh (h:bN B0 m w v):Calls G.P 43 #[v,.int .i64 i] w (iU (cJ m.types i) (fun _=>False) w):=by
 have hl:((cJ m.types i).getD dF).params.length≤17592186044416∧((cJ m.types i).getD dF).results.length≤17592186044416:=by
  obtain⟨bS,sp,im,dm,vs,tc,ig,dg,rfl,-,h⟩:=h
  obtain⟨p,c,e,hh⟩:=Hq (i:=i) (kt h.ts) h.ty
  rcases hh with⟨-,hat⟩|⟨j,b,o,x0,x1,y0,y1,rfl,hj,rfl,hat,-,-,q0,q1⟩
  ·rw[hat];exact⟨by show 0≤_;omega,by show 0≤_;omega⟩
  ·rw[hat]
   obtain⟨_,_,_,h0⟩:=q0.slice
   obtain⟨_,_,_,h1⟩:=q1.slice
   exact⟨h0,h1⟩
 refine(so B0 w.heap.size m v i w h (Nat.le_refl _)).mono fun e w' ⟨x,e1,_,hok,hch,_⟩=>?_
 subst e1
 have hx:Ext w w':=hch.mono (fun k _ hk=>by obtain⟨q,hq,-⟩:=hk;simp at hq)
 refine⟨⟨x,rfl,dH.mono (HY ?_ ?_ hl.1 hl.2) fun k hk=>.inr hk⟩,hx⟩
 ·exact(hok.m (.own w.heap.size nU 1 x.1 _ _) (by simp[Gf])).1
 ·exact(hok.m (.own w.heap.size nU 1 x.2 _ _) (by simp[Gf])).1
theorem ns (h:bN B0 m w v):Calls G.P 135 #[v,.int .i64 i] w (iU (gH m i) (fun _=>False) w):=by
 have h0:=h
 obtain⟨bS,sp,im,dm,vs,tc,ig,dg,rfl,-,h⟩:=h
 have hb:=kt h.fs
 have c2:w.cell? ⟨sp,1,none⟩=some vs.fv:=h.x.cell rfl
 have et:(wN m).funcs=gI m:=by rw[pZ]
 rw[et]at hb
 cases hat:cJ (gI m) i with
 |none=>
  rw[show gH m i=none from by unfold gH;rw[hat];rfl]
  refine ae (l:=[_,_]) func135 rfl ntmps135 rfl (Ok.start w) ?_
  repeat'(first|refine ar ?_|(refine NR fun b_=>?_)|refine N4 ?_|(refine aa.aj (f:=167) ?_;refine aa.au (v:=.tuple #[.int .i64 0,.bool false]) rfl rfl rfl (fun w' hw'=>by have:=EN _ _ i w' (hb.ext hw'.at);rw[hat]at this;exact this) ?_)|fail)
  all_goals exact ah.aM (.inl rfl) rfl rfl rfl rfl rfl aH rfl rfl fun w' hw'=>bD.JC (tf:=fun x:Value×Value=>.tuple #[.agg #[x.1,x.2],.bool false]) hw' ak
 |some t=>
  rw[show gH m i=cJ m.types t from by unfold gH;rw[hat];rfl]
  refine ae (l:=[_,_]) func135 rfl ntmps135 rfl (Ok.start w) ?_
  repeat'(first|refine ar ?_|(refine NR fun b_=>?_)|refine N4 ?_|(refine aa.aj (f:=167) ?_;refine aa.au (v:=.tuple #[.int .i64 t,.bool true]) rfl rfl rfl (fun w' hw'=>by have:=EN _ _ i w' (hb.ext hw'.at);rw[hat]at this;exact this) ?_)|(refine aa.aj (f:=43) ?_;refine aa.he (HE.mR ak rfl rfl (fun w' hw'=>kh B0 m _ t w' (h0.aP (show Ext w w' from hw'.at) (fun _ _ h=>h)))) rfl ?_;rintro⟨D_,p_,c_,q_,d_⟩ hD_;dsimp only)|fail)
  all_goals exact ah.aM (.inl rfl) rfl rfl rfl rfl rfl aH rfl rfl fun w' hw'=>bD.jm (tf:=fun x:Value×Value=>.tuple #[.agg #[x.1,x.2],.bool (cJ m.types t).isSome]) ⟨D_,p_,c_,q_,d_⟩ hw' ak ak hD_
def cX (m:af) (k v i:Int):Option aO:=if k=0 then some dF else if k=1 then(if kj v=true then some ⟨[],[v]⟩else none)else if k=2 then cJ m.types i else none
theorem zW {g g':Prop} (h:g') (hw:eI g'→g:=by(intro hk_;(first|refine Oy ?_|(refine aa.aG ?_;refine aa.yg Pe (Yl.oU Tryz.underlying76 rfl rfl) rfl ?_));exact hk_.out)):g:=hw ⟨h⟩
theorem oC (k t i:Int) (w:World) (h:bN B0 m w v):Calls G.P 49 #[v,.agg #[.int .i64 k,.int .i64 t,.int .i64 i]] w (iU (cX m k t i) (fun _=>False) w):=by
 have h0:=h
 obtain⟨bS,sp,im,dm,vs,tc,ig,dg,rfl,-,h⟩:=h
 have c0:w.cell? ⟨bS,0,none⟩=some (.pointer (some ⟨sp,0,none⟩)):=h.s.cell rfl
 by_cases k0:k=0
 ·subst k0
  rw[show cX m 0 t i=some dF from rfl]
  refine M7 ?_
  repeat'(first|refine ar ?_|(refine NP fun b_=>?_)|(refine fB fun b_ _=>?_)|refine zW ?_|fail)
  all_goals exact gt
 ·by_cases k1:k=1
  ·subst k1
   cases hv:kj t with
   |true=>
    rw[show cX m 1 t i=some ⟨[],[t]⟩from by unfold cX;rw[if_neg Pc,if_pos rfl,if_pos hv]]
    refine M7 ?_
    repeat'(first|refine ar ?_|(refine NP fun b_=>?_)|(refine fB fun b_ _=>?_)|refine zW ?_|(refine aa.aj (f:=81) ?_;refine aa.au (v:=.bool true) rfl rfl rfl (fun w' hw'=>by have:=xI t w';rw[hv]at this;exact this) ?_)|fail)
    all_goals exact gt
   |false=>
    rw[show cX m 1 t i=none from by unfold cX;rw[if_neg Pc,if_pos rfl,if_neg (by rw[hv];decide)]]
    refine M7 ?_
    repeat'(first|refine ar ?_|(refine NP fun b_=>?_)|(refine fB fun b_ _=>?_)|refine zW ?_|(refine aa.aj (f:=81) ?_;refine aa.au (v:=.bool false) rfl rfl rfl (fun w' hw'=>by have:=xI t w';rw[hv]at this;exact this) ?_)|fail)
    all_goals exact gt
  ·by_cases k2:k=2
   ·subst k2
    rw[show cX m 2 t i=cJ m.types i from by unfold cX;rw[if_neg Pc,if_neg Pc,if_pos rfl]]
    refine M7 ?_
    repeat'(first|refine ar ?_|(refine NP fun b_=>?_)|(refine fB fun b_ _=>?_)|refine zW ?_|(refine aa.aj (f:=43) ?_;refine aa.he (HE.mR ak rfl rfl (fun w' hw'=>kh B0 m _ i w' (h0.aP (show Ext w w' from hw'.at) (fun _ _ h=>h)))) rfl ?_;rintro⟨D_,p_,c_,q_,d_⟩ hD_;dsimp only)|fail)
    all_goals(refine ah.aM (.inl rfl) rfl rfl rfl rfl rfl aH rfl rfl ?_;exact fun w' hw'=>bD.jm (tf:=fun x:Value×Value=>.tuple #[.agg #[x.1,x.2],.bool (cJ m.types i).isSome]) ⟨D_,p_,c_,q_,d_⟩ hw' ak ak hD_)
   ·rw[show cX m k t i=none from by unfold cX;rw[if_neg k0,if_neg k1,if_neg k2]]
    refine M7 ?_
    repeat'(first|refine ar ?_|(refine NP fun b_=>?_)|(refine fB fun b_ _=>?_)|refine zW ?_|fail)
    all_goals exact gt
def dY (m:af) (x:cv):aO×Int:=match gH m x.a with
 |none=>(dF,11)
 |some f=>if x.op=16 then(f,0)else if nF m x.a=true then(⟨[],[3]⟩,0)else(dF,22)
theorem wH (ct cl:Nat) (w:World) (h:bN B m w v) (ha:eO x.a):Calls G.P 96 #[v,.agg #[Pf .i64 x.op,Pf .i64 x.a,Pf .i64 x.b,Pf .u64 x.n,Pf .i64 x.kind,Pf .i64 x.val,Pf .i64 x.index,Pg pt x.types.length ct,Pg pl x.labels.length cl]] w (jx (dY m x) (fun _=>False) w):=by
 obtain⟨op,a,b,n,kind,val,index,types,labels⟩:=x
 dsimp only at ha ⊢
 cases hf:gH m a with
 |none=>
  rw[show dY m ⟨op,a,b,n,kind,val,index,types,labels⟩=(dF,11)from by unfold dY;dsimp only;rw[hf]]
  refine M8 ?_
  repeat'(first|refine ar ?_|(refine NP fun b_=>?_)|(refine fB fun b_ _=>?_)|refine oe ?_|(refine aa.aj (f:=135) ?_;refine aa.he (HE.mR (r:=none) ak rfl rfl (fun w' hw'=>by have:=ns B m v a w' (h.aP (show Ext w w' from hw'.at) (fun _ _ h=>h));rw[hf]at this;exact this)) rfl ?_;rintro⟨D_,p_,c_,q_,d_⟩ hD_;dsimp only)|fail)
  all_goals exact gt
 |some f=>
  by_cases h1:op=16
  ·subst h1
   rw[show dY m ⟨16,a,b,n,kind,val,index,types,labels⟩=(f,0)from by unfold dY;dsimp only;rw[hf];rfl]
   refine M8 ?_
   repeat'(first|refine ar ?_|(refine NP fun b_=>?_)|(refine fB fun b_ _=>?_)|refine oe ?_|(refine aa.aj (f:=135) ?_;refine aa.he (HE.mR (r:=some f) ak rfl rfl (fun w' hw'=>by have:=ns B m v a w' (h.aP (show Ext w w' from hw'.at) (fun _ _ h=>h));rw[hf]at this;exact this)) rfl ?_;rintro⟨D_,p_,c_,q_,d_⟩ hD_;dsimp only)|fail)
   all_goals(refine ah.aM (.inl rfl) rfl rfl rfl rfl rfl aH rfl rfl ?_;exact fun w' hw'=>bD.jm (f0:=(some f).getD dF) (tf:=fun x:Value×Value=>.tuple #[.agg #[x.1,x.2],.int .i64 0]) ⟨D_,p_,c_,q_,d_⟩ hw' ak ak hD_)
  ·cases hd:nF m a with
   |true=>
    rw[show dY m ⟨op,a,b,n,kind,val,index,types,labels⟩=(⟨[],[3]⟩,0)from by unfold dY;dsimp only;rw[hf];dsimp only;rw[if_neg h1,if_pos hd]]
    refine M8 ?_
    repeat'(first|refine ar ?_|(refine NP fun b_=>?_)|(refine fB fun b_ _=>?_)|refine oe ?_|(refine aa.aj (f:=135) ?_;refine aa.he (HE.mR (r:=some f) ak rfl rfl (fun w' hw'=>by have:=ns B m v a w' (h.aP (show Ext w w' from hw'.at) (fun _ _ h=>h));rw[hf]at this;exact this)) rfl ?_;rintro⟨D_,p_,c_,q_,d_⟩ hD_;dsimp only)|(refine aa.aj (f:=136) ?_;refine aa.au (v:=.bool true) rfl rfl rfl (fun w' hw'=>by have:=oD B m v a w' (h.aP (show Ext w w' from hw'.at) (fun _ _ h=>h)) ha;rw[hd]at this;exact this) ?_)|fail)
    all_goals exact gt
   |false=>
    rw[show dY m ⟨op,a,b,n,kind,val,index,types,labels⟩=(dF,22)from by unfold dY;dsimp only;rw[hf];dsimp only;rw[if_neg h1,if_neg (by rw[hd];decide)]]
    refine M8 ?_
    repeat'(first|refine ar ?_|(refine NP fun b_=>?_)|(refine fB fun b_ _=>?_)|refine oe ?_|(refine aa.aj (f:=135) ?_;refine aa.he (HE.mR (r:=some f) ak rfl rfl (fun w' hw'=>by have:=ns B m v a w' (h.aP (show Ext w w' from hw'.at) (fun _ _ h=>h));rw[hf]at this;exact this)) rfl ?_;rintro⟨D_,p_,c_,q_,d_⟩ hD_;dsimp only)|(refine aa.aj (f:=136) ?_;refine aa.au (v:=.bool false) rfl rfl rfl (fun w' hw'=>by have:=oD B m v a w' (h.aP (show Ext w w' from hw'.at) (fun _ _ h=>h)) ha;rw[hd]at this;exact this) ?_)|fail)
    all_goals exact gt
theorem AD (ct cl:Nat) (w:World) (h:bN B m w v) (hop:x.op=37∨x.op=38∨x.op=64528∨x.op=64527∨x.op=64529):Calls G.P 101 #[v,.agg #[Pf .i64 x.op,Pf .i64 x.a,Pf .i64 x.b,Pf .u64 x.n,Pf .i64 x.kind,Pf .i64 x.val,Pf .i64 x.index,Pg pt x.types.length ct,Pg pl x.labels.length cl]] w (jx (dr m x) (fun _=>False) w):=by
 obtain⟨op,a,b,n,kind,val,index,types,labels⟩:=x
 dsimp only at hop ⊢
 cases hg:cJ (bL m) a with
 |none=>
  rw[show dr m ⟨op,a,b,n,kind,val,index,types,labels⟩=(dF,11)from by unfold dr;dsimp only;rw[hg]]
  refine ae (l:=[_,_]) func101 rfl ntmps101 rfl (Ok.start w) ?_
  repeat'(first|refine ar ?_|(refine NP fun b_=>?_)|(refine fB fun b_ _=>?_)|refine oe ?_|(refine aa.aj (f:=137) ?_;refine aa.au (v:=.tuple #[.agg #[.int .i64 0,.int .i64 0,.int .i64 0,.bool false],.bool false]) rfl rfl rfl (fun w' hw'=>by have:=gR B m v a w' (h.aP (show Ext w w' from hw'.at) (fun _ _ h=>h));rw[hg]at this;exact this) ?_)|fail)
  all_goals exact gt
 |some g=>
  obtain⟨te,l1,l2,l3⟩:=g
  rcases hop with rfl|rfl|rfl|rfl|rfl
  all_goals
   first|rw[show dr m ⟨37,a,b,n,kind,val,index,types,labels⟩=(⟨[1],[te]⟩,0)from by unfold dr;dsimp only;rw[hg];rfl]|rw[show dr m ⟨38,a,b,n,kind,val,index,types,labels⟩=(⟨[1,te],[]⟩,0)from by unfold dr;dsimp only;rw[hg];rfl]|rw[show dr m ⟨64528,a,b,n,kind,val,index,types,labels⟩=(⟨[],[1]⟩,0)from by unfold dr;dsimp only;rw[hg];rfl]|rw[show dr m ⟨64527,a,b,n,kind,val,index,types,labels⟩=(⟨[te,1],[1]⟩,0)from by unfold dr;dsimp only;rw[hg];rfl]|rw[show dr m ⟨64529,a,b,n,kind,val,index,types,labels⟩=(⟨[1,te,1],[]⟩,0)from by unfold dr;dsimp only;rw[hg];rfl]
   refine ae (l:=[_,_]) func101 rfl ntmps101 rfl (Ok.start w) ?_
   repeat'(first|refine ar ?_|(refine NP fun b_=>?_)|(refine fB fun b_ _=>?_)|refine oe ?_|(refine aa.aj (f:=137) ?_;refine aa.au (v:=.tuple #[.agg #[.int .i64 te,.int .i64 l1,.int .i64 l2,.bool l3],.bool true]) rfl rfl rfl (fun w' hw'=>by have:=gR B m v a w' (h.aP (show Ext w w' from hw'.at) (fun _ _ h=>h));rw[hg]at this;exact this) ?_)|fail)
   all_goals exact gt
theorem EO {M:List bu} {R:List (World→Prop)} {b T:Nat} {cs:List Value} (hM:bu.aV b cs T∈M):∀w,Ok M R w→∀j u,cs[j]?=some u→w.cell? ⟨b,0+j,none⟩=some u:=fun w hw j u hj=>by rw[Pm];exact gO.cell (hw.m (.aV b cs T) hM).1 hj
def bZ (m:af) (x:cv):aO×Int:=match cJ m.types x.a,cJ (bL m) x.b with
 |some f,some t=>if t.elem≠3 then(dF,12)else(⟨f.params++[1],f.results⟩,0)
 |_,_=>(dF,11)
theorem Ec (ct cl:Nat) (w:World) (h:bN B m w v) (hp:∀w',Ext w w'→Calls G.P 80 #[.agg #[Pf .i64 x.op,Pf .i64 x.a,Pf .i64 x.b,Pf .u64 x.n,Pf .i64 x.kind,Pf .i64 x.val,Pf .i64 x.index,Pg pt x.types.length ct,Pg pl x.labels.length cl]] w' fun e w2=>e=.returned (.bool (cW x))∧Ext w' w2):Calls G.P 48 #[v,.agg #[Pf .i64 x.op,Pf .i64 x.a,Pf .i64 x.b,Pf .u64 x.n,Pf .i64 x.kind,Pf .i64 x.val,Pf .i64 x.index,Pg pt x.types.length ct,Pg pl x.labels.length cl]] w fun e w'=>e=.returned (.int .i64 (if cW x=false then 10 else 0))∧Ext w w':=by
 cases hx:cW x with
 |true=>
  rw[hx]at hp
  refine ae (l:=[_,_]) func48 rfl ntmps48 rfl (Ok.start w) ?_
  repeat'(first|refine ar ?_|(refine NP fun b_=>?_)|(refine aa.aj (f:=49) ?_;refine aa.he (HE.mR (r:=some dF) ak rfl rfl (fun w' hw'=>oC B m v 0 0 0 w' (h.aP (show Ext w w' from hw'.at) (fun _ _ h=>h)))) rfl ?_;rintro⟨D_,p_,c_,q_,d_⟩ hD_;dsimp only)|(refine aa.aj (f:=80) ?_;refine aa.au rfl rfl rfl (fun w' hw'=>hp w' hw'.at) ?_)|fail)
  all_goals exact ci
 |false=>
  rw[hx]at hp
  refine ae (l:=[_,_]) func48 rfl ntmps48 rfl (Ok.start w) ?_
  repeat'(first|refine ar ?_|(refine NP fun b_=>?_)|(refine aa.aj (f:=49) ?_;refine aa.he (HE.mR (r:=some dF) ak rfl rfl (fun w' hw'=>oC B m v 0 0 0 w' (h.aP (show Ext w w' from hw'.at) (fun _ _ h=>h)))) rfl ?_;rintro⟨D_,p_,c_,q_,d_⟩ hD_;dsimp only)|(refine aa.aj (f:=80) ?_;refine aa.au rfl rfl rfl (fun w' hw'=>hp w' hw'.at) ?_)|fail)
  all_goals exact ci
theorem wI (ct cl:Nat) (w:World) (h:bN B m w v) (hL:∀f,cJ m.types x.a=some f→f.params.length≤17592186043904∧f.results.length≤17592186044416):Calls G.P 97 #[v,.agg #[Pf .i64 x.op,Pf .i64 x.a,Pf .i64 x.b,Pf .u64 x.n,Pf .i64 x.kind,Pf .i64 x.val,Pf .i64 x.index,Pg pt x.types.length ct,Pg pl x.labels.length cl]] w (jx (bZ m x) (fun _=>False) w):=by
 obtain⟨op,a,b,n,kind,val,index,types,labels⟩:=x
 dsimp only at hL ⊢
 cases hf:cJ m.types a with
 |none=>
  rw[show bZ m ⟨op,a,b,n,kind,val,index,types,labels⟩=(dF,11)from by unfold bZ;dsimp only;rw[hf]]
  refine M9 ?_
  repeat'(first|refine ar ?_|(refine NP fun b_=>?_)|refine oe ?_|(refine aa.aj (f:=43) ?_;refine aa.he (HE.mR (r:=none) ak rfl rfl (fun w' hw'=>by have:=kh B m v a w' (h.aP (show Ext w w' from hw'.at) (fun _ _ h=>h));rw[hf]at this;exact this)) rfl ?_;rintro⟨D_,p_,c_,q_,d_⟩ hD_;dsimp only)|(refine aa.aj (f:=137) ?_;refine aa.au rfl rfl rfl (fun w' hw'=>gR B m v b w' (h.aP (show Ext w w' from hw'.at) (fun _ _ h=>h))) ?_)|fail)
  all_goals exact ii
 |some f=>
  have hl:=hL f hf
  cases hg:cJ (bL m) b with
  |none=>
   rw[show bZ m ⟨op,a,b,n,kind,val,index,types,labels⟩=(dF,11)from by unfold bZ;dsimp only;rw[hf,hg]]
   refine M9 ?_
   repeat'(first|refine ar ?_|(refine NP fun b_=>?_)|refine oe ?_|(refine aa.aj (f:=43) ?_;refine aa.he (HE.mR (r:=some f) ak rfl rfl (fun w' hw'=>by have:=kh B m v a w' (h.aP (show Ext w w' from hw'.at) (fun _ _ h=>h));rw[hf]at this;exact this)) rfl ?_;rintro⟨D_,p_,c_,q_,d_⟩ hD_;dsimp only)|(refine aa.aj (f:=137) ?_;refine aa.au (v:=.tuple #[.agg #[.int .i64 0,.int .i64 0,.int .i64 0,.bool false],.bool false]) rfl rfl rfl (fun w' hw'=>by have:=gR B m v b w' (h.aP (show Ext w w' from hw'.at) (fun _ _ h=>h));rw[hg]at this;exact this) ?_)|fail)
   all_goals exact ii
  |some g=>
   obtain⟨te,l1,l2,l3⟩:=g
   by_cases h3:te=3
   ·subst h3
    rw[show bZ m ⟨op,a,b,n,kind,val,index,types,labels⟩=(⟨f.params++[1],f.results⟩,0)from by unfold bZ;dsimp only;rw[hf,hg];rfl]
    refine M9 ?_
    repeat'(first|refine ar ?_|(refine NP fun b_=>?_)|(refine aa.aj (f:=137) ?_;refine aa.au (v:=.tuple #[.agg #[.int .i64 3,.int .i64 l1,.int .i64 l2,.bool l3],.bool true]) rfl rfl rfl (fun w' hw'=>by have:=gR B m v b w' (h.aP (show Ext w w' from hw'.at) (fun _ _ h=>h));rw[hg]at this;exact this) ?_)|fail)
    refine aa.he (HE.tu (M0:=[]) rfl rfl (fun w' hw'=>by have:=so B w.heap.size m v a w' (h.aP (show Ext w w' from hw'.at) (fun _ _ h=>h)) (show Ext w w' from hw'.at).size;rw[hf]at this;exact this)) rfl ?_
    rintro⟨v1,v2⟩ _
    dsimp only[Gf,Pj,Pi,Option.getD_some]
    refine aa.pure (φ:=(∃p c,v1=.slice p f.params.length c)∧∃p c,v2=.slice p f.results.length c∧f.results.length≤17592186044416) (fun w' hw'=>⟨?_,?_⟩) ?_
    ·obtain⟨p,c,e,_⟩:=aw (hw'.own (v:=v1));exact⟨p,c,e⟩
    ·obtain⟨p,c,e,_⟩:=aw (hw'.own (v:=v2));exact⟨p,c,e,hl.2⟩
    rintro⟨⟨q1,d1,rfl⟩,⟨q2,d2,rfl,hl2⟩⟩
    repeat'(first|refine ar ?_|(refine NR fun b_=>?_)|(refine aa.aj (f:=137) ?_;refine aa.au (v:=.tuple #[.agg #[.int .i64 3,.int .i64 l1,.int .i64 l2,.bool l3],.bool true]) rfl rfl rfl (fun w' hw'=>by have:=gR B m v b w' (h.aP (show Ext w w' from hw'.at) (fun _ _ h=>h));rw[hg]at this;exact this) ?_)|fail)
    rename_i b6
    refine bh.cF [.aV b6 [.slice q1 f.params.length d1,.slice q2 f.results.length d2] sw] [Ext w] bw aU ?_
    repeat'(first|refine pG ?_|(refine ax.lD ?_;refine ax.he rfl rfl (HE.jJ rfl rfl rfl rfl rfl ep Pe Pe) (fun _=>bw) (fun _=>aU) ?_;rintro b7 _)|(refine ax.rl ?_;refine ax.he rfl rfl (HE.gP [.int .i64 1] rfl rfl (fun _=>aH) (.inr ⟨_,0,rfl,EO bO⟩) rfl rfl rfl rfl Pe Pe Pe (fun u hu=>by rw[List.mem_singleton.1 hu];rfl) (by show(f.params.length+1)*8≤_;omega) Pc (fun w' hw'=>(show Ext w w' from hw'.at).size)) (fun _=>bw) (fun _=>aU) ?_;rintro v9 _;refine aN.pure (φ:=∃p c,v9=.slice p (f.params.length+1) c) (fun w' hw'=>by obtain⟨p,c,e,_⟩:=aw (hw'.own (v:=v9));exact⟨p,c,e⟩) ?_;rintro⟨p9,c9,rfl⟩)|(refine ax.dz 98 ?_;refine ax.he rfl rfl (HE.eK rfl rfl (fun w' hw'=>s8 p9 q2 (f.params.length+1) f.results.length c9 d2 w')) (fun _=>bw) (fun _=>aU) ?_;rintro⟨⟩ _)|(refine ax.nf ?_;refine ax.jQ rfl (gj.bn _ rfl rfl rfl rfl rfl rfl aH rfl) (fun _=>bw) (fun _=>aU) ?_;rintro⟨⟩ _)|refine aN.nil O3 ?_|refine aN.any O3 ?_|exact aB.fin rfl|refine aB.skip O3 ?_|refine aB.go ?_ ?_)
    all_goals
     repeat'(first|refine ar ?_|fail)
     refine Mv ?_
     intro w' hw'
     have g1:ai (fun k=>w.heap.size≤k) w' (.slice p9 (f.params.length+1) c9) (f.params++[1]):=kW (xs:=f.params++[1]) (by have:=hw'.own (B:=w.heap.size) (T:=nU) (s:=1) (v:=.slice p9 (f.params.length+1) c9);simpa using this) O8
     have g2:ai (fun k=>w.heap.size≤k) w' (.slice q2 f.results.length d2) f.results:=kW (hw'.own (B:=w.heap.size) (T:=nU) (s:=1) (v:=.slice q2 f.results.length d2)) hl2
     exact⟨⟨(_,_),rfl,g1.mono fun _ _ h=>.inr h,g2.mono fun _ _ h=>.inr h⟩,hw'.at⟩
   ·rw[show bZ m ⟨op,a,b,n,kind,val,index,types,labels⟩=(dF,12)from by unfold bZ;dsimp only;rw[hf,hg];dsimp only;rw[if_pos h3]]
    refine M9 ?_
    repeat'(first|refine ar ?_|(refine NP fun b_=>?_)|refine oe ?_|(refine aa.aj (f:=43) ?_;refine aa.he (HE.mR (r:=some f) ak rfl rfl (fun w' hw'=>by have:=kh B m v a w' (h.aP (show Ext w w' from hw'.at) (fun _ _ h=>h));rw[hf]at this;exact this)) rfl ?_;rintro⟨D_,p_,c_,q_,d_⟩ hD_;dsimp only)|(refine aa.aj (f:=137) ?_;refine aa.au (v:=.tuple #[.agg #[.int .i64 te,.int .i64 l1,.int .i64 l2,.bool l3],.bool true]) rfl rfl rfl (fun w' hw'=>by have:=gR B m v b w' (h.aP (show Ext w w' from hw'.at) (fun _ _ h=>h));rw[hg]at this;exact this) ?_)|fail)
    all_goals exact ii
def fD (k:Int) (ba bb:Bool) (ta tb:Int) (be:Bool) (te:Int) (ma mb:Bool) (a nd al:Int):Int:=
 if k=10 then(if(ba && bb)=false then 11 else if ta≠tb then 12 else 0)else if k=11 then(if(be && bb)=false then 11 else if te≠tb then 12 else 0)else
 if k=12 then(if be=false then 11 else 0)else if k=16 then(if a<nd then 0 else 11)else if k=15 then(if mb=true∧a<nd then 0 else 11)else
 if k=14 then(if ma=false∨mb=false then 11 else 0)else if k=13 then(if mb=false then 11 else 0)else
 if k=17 then(if mb=true∧al<a then 19 else if mb=false then 11 else 0)else 0
def kG (m:af) (x:cv):Int:=fD (eQ x.op) (cJ (bL m) x.a).isSome (cJ (bL m) x.b).isSome ((cJ (bL m) x.a).getD Bt).elem ((cJ (bL m) x.b).getD Bt).elem (cJ (dN m) x.a).isSome ((cJ (dN m) x.a).getD 0) (cJ (dZ m) x.a).isSome (cJ (dZ m) x.b).isSome x.a m.bg.length (ml x.op)
theorem nJ {g g':Prop} (h:g') (hw:eI g'→g:=by(intro hk_;(first|refine On ?_);exact hk_.out)):g:=hw ⟨h⟩
theorem sd {g g':Prop} (h:g') (hw:eI g'→g:=by(intro hk_;(first|refine nJ ?_|(refine aa.aj (f:=142) ?_;refine aa.au (v:=.tuple #[.agg #[.int .i64 (ML b).min,.int .i64 (ML b).max,.bool (ML b).has],.bool false]) rfl rfl rfl (fun w' hw'=>by have:=gM b w' hw'.at;rw[hz]at this;exact this) ?_));exact hk_.out)):g:=hw ⟨h⟩
theorem se {g g':Prop} (h:g') (hw:eI g'→g:=by(intro hk_;(first|refine nJ ?_|(refine aa.aj (f:=142) ?_;refine aa.au (v:=.tuple #[.agg #[.int .i64 (ML b).min,.int .i64 (ML b).max,.bool (ML b).has],.bool true]) rfl rfl rfl (fun w' hw'=>by have:=gM b w' hw'.at;rw[hz]at this;exact this) ?_));exact hk_.out)):g:=hw ⟨h⟩
theorem wK (op a b n kind val index:Int) (pt pl:Option Addr) (nt nl ct cl:Nat) (k:Int) (al:Int) (w:World) (h:bN B m w v)
  (ho:∀w',Ext w w'→Calls G.P 95 #[.int .i64 op] w' fun e w2=>e=.returned (.int .i64 k)∧Ext w' w2)
  (ha:∀w',Ext w w'→Calls G.P 143 #[.int .i64 op] w' fun e w2=>e=.returned (.int .i64 al)∧Ext w' w2):
  Calls G.P 102 #[v,.agg #[Pf .i64 op,Pf .i64 a,Pf .i64 b,Pf .u64 n,Pf .i64 kind,Pf .i64 val,Pf .i64 index,Pg pt nt ct,Pg pl nl cl]] w fun e w'=>e=.returned (.int .i64 (fD k (cJ (bL m) a).isSome (cJ (bL m) b).isSome ((cJ (bL m) a).getD Bt).elem ((cJ (bL m) b).getD Bt).elem (cJ (dN m) a).isSome ((cJ (dN m) a).getD 0) (cJ (dZ m) a).isSome (cJ (dZ m) b).isSome a m.bg.length al))∧Ext w w':=by
 obtain⟨T,hT⟩:∃T:Int→fH,∀i,(cJ (bL m) i).getD Bt=T i:=⟨_,fun _=>rfl⟩
 obtain⟨S,hS⟩:∃T:Int→Bool,∀i,(cJ (bL m) i).isSome=T i:=⟨_,fun _=>rfl⟩
 obtain⟨ML,hML⟩:∃T:Int→ft,∀i,(cJ (dZ m) i).getD Iv=T i:=⟨_,fun _=>rfl⟩
 obtain⟨MS,hMS⟩:∃T:Int→Bool,∀i,(cJ (dZ m) i).isSome=T i:=⟨_,fun _=>rfl⟩
 obtain⟨te,hte⟩:∃t,(cJ (dN m) a).getD 0=t:=⟨_,rfl⟩
 obtain⟨be,hbe⟩:∃t,(cJ (dN m) a).isSome=t:=⟨_,rfl⟩
 obtain⟨nd,hnd⟩:∃t:Int,(m.bg.length:Int)=t:=⟨_,rfl⟩
 have gT:∀i w',Ext w w'→Calls G.P 137 #[v,.int .i64 i] w' fun e w2=>e=.returned (.tuple #[.agg #[.int .i64 (T i).elem,.int .i64 (T i).mZ.min,.int .i64 (T i).mZ.max,.bool (T i).mZ.has],.bool (S i)])∧Ext w' w2:=fun i w' hx=>by have:=gR B m v i w' (h.aP hx (fun _ _ h=>h));rw[hT,hS]at this;exact this
 have gM:∀i w',Ext w w'→Calls G.P 142 #[v,.int .i64 i] w' fun e w2=>e=.returned (.tuple #[.agg #[.int .i64 (ML i).min,.int .i64 (ML i).max,.bool (ML i).has],.bool (MS i)])∧Ext w' w2:=fun i w' hx=>by have:=Eg B m v i w' (h.aP hx (fun _ _ h=>h));rw[hML,hMS]at this;exact this
 have gE:∀w',Ext w w'→Calls G.P 140 #[v,.int .i64 a] w' fun e w2=>e=.returned (.tuple #[.int .i64 te,.bool be])∧Ext w' w2:=fun w' hx=>by have:=BY B m v a w' (h.aP hx (fun _ _ h=>h));rw[hte,hbe]at this;exact this
 have gnd:∀w',Ext w w'→Calls G.P 141 #[v] w' fun e w2=>e=.returned (.int .i64 nd)∧Ext w' w2:=fun w' hx=>by have:=AI B m v w' (h.aP hx (fun _ _ h=>h));rw[hnd]at this;exact this
 simp only[hT,hS,hMS,hte,hbe,hnd]
 clear hT hS hML hMS hte hbe hnd
 by_cases hk:k=10
 ·obtain rfl:=hk
  skip
  refine Na ?_
  repeat'(first|refine ar ?_|(refine NP fun b_=>?_)|refine nJ ?_|(refine aa.aj (f:=137) ?_;refine aa.au rfl rfl rfl (fun w' hw'=>gT _ w' hw'.at) ?_)|(refine aa.aj (f:=139) ?_;refine aa.au rfl rfl rfl (fun w' hw'=>uZ _ _ _ w') ?_)|(refine bC ?_ ?_<;>intro hc_))
  all_goals exact AC
 by_cases hk:k=11
 ·obtain rfl:=hk
  skip
  refine Na ?_
  repeat'(first|refine ar ?_|(refine NP fun b_=>?_)|refine nJ ?_|(refine aa.aj (f:=140) ?_;refine aa.au rfl rfl rfl (fun w' hw'=>gE w' hw'.at) ?_)|(refine aa.aj (f:=137) ?_;refine aa.au rfl rfl rfl (fun w' hw'=>gT _ w' hw'.at) ?_)|(refine aa.aj (f:=139) ?_;refine aa.au rfl rfl rfl (fun w' hw'=>uZ _ _ _ w') ?_)|(refine bC ?_ ?_<;>intro hc_))
  all_goals exact AC
 by_cases hk:k=12
 ·obtain rfl:=hk
  skip
  refine Na ?_
  repeat'(first|refine ar ?_|(refine NP fun b_=>?_)|refine nJ ?_|(refine aa.aj (f:=140) ?_;refine aa.au rfl rfl rfl (fun w' hw'=>gE w' hw'.at) ?_)|(refine bC ?_ ?_<;>intro hc_))
  all_goals exact AC
 by_cases hk:k=16
 ·obtain rfl:=hk
  by_cases hlt:a<nd
  ·refine Na ?_
   repeat'(first|refine ar ?_|(refine NP fun b_=>?_)|refine nJ ?_|(refine bC ?_ ?_<;>intro hc_))
   refine M6 ?_
   refine cq ?_
   refine aq.nW (v:=.int .i64 nd) rfl rfl rfl (fun w' hw'=>gnd w' hw'.at) ?_
   refine cq ?_
   repeat'(first|refine ar ?_|(refine NP fun b_=>?_)|refine nJ ?_|(refine bC ?_ ?_<;>intro hc_))
   all_goals exact AC
  ·refine Na ?_
   repeat'(first|refine ar ?_|(refine NP fun b_=>?_)|refine nJ ?_|(refine bC ?_ ?_<;>intro hc_))
   refine M6 ?_
   refine cq ?_
   refine aq.nW (v:=.int .i64 nd) rfl rfl rfl (fun w' hw'=>gnd w' hw'.at) ?_
   refine cq ?_
   repeat'(first|refine ar ?_|(refine NP fun b_=>?_)|refine nJ ?_|(refine bC ?_ ?_<;>intro hc_))
   all_goals exact AC
 by_cases hk:k=15
 ·obtain rfl:=hk
  by_cases hlt:a<nd
  ·cases hz:MS b with
   |true=>
    refine Na ?_
    repeat'(first|refine ar ?_|(refine NP fun b_=>?_)|refine se ?_|(refine bC ?_ ?_<;>intro hc_))
    refine M6 ?_
    refine cq ?_
    refine aq.kP (v:=.int .i64 nd) rfl rfl rfl rfl (fun w' hw'=>gnd w' hw'.at) ?_
    refine cq ?_
    repeat'(first|refine ar ?_|(refine NP fun b_=>?_)|refine se ?_|(refine bC ?_ ?_<;>intro hc_))
    all_goals exact AC
   |false=>
    refine Na ?_
    repeat'(first|refine ar ?_|(refine NP fun b_=>?_)|refine sd ?_|(refine bC ?_ ?_<;>intro hc_))
    refine M6 ?_
    refine cq ?_
    repeat'(first|refine ar ?_|(refine NP fun b_=>?_)|refine sd ?_|(refine bC ?_ ?_<;>intro hc_))
    all_goals exact AC
  ·cases hz:MS b with
   |true=>
    refine Na ?_
    repeat'(first|refine ar ?_|(refine NP fun b_=>?_)|refine se ?_|(refine bC ?_ ?_<;>intro hc_))
    refine M6 ?_
    refine cq ?_
    refine aq.kP (v:=.int .i64 nd) rfl rfl rfl rfl (fun w' hw'=>gnd w' hw'.at) ?_
    refine cq ?_
    repeat'(first|refine ar ?_|(refine NP fun b_=>?_)|refine se ?_|(refine bC ?_ ?_<;>intro hc_))
    all_goals exact AC
   |false=>
    refine Na ?_
    repeat'(first|refine ar ?_|(refine NP fun b_=>?_)|refine sd ?_|(refine bC ?_ ?_<;>intro hc_))
    refine M6 ?_
    refine cq ?_
    repeat'(first|refine ar ?_|(refine NP fun b_=>?_)|refine sd ?_|(refine bC ?_ ?_<;>intro hc_))
    all_goals exact AC
 by_cases hk:k=14
 ·obtain rfl:=hk
  skip
  refine Na ?_
  repeat'(first|refine ar ?_|(refine NP fun b_=>?_)|refine nJ ?_|(refine aa.aj (f:=142) ?_;refine aa.au rfl rfl rfl (fun w' hw'=>gM _ w' hw'.at) ?_)|(refine bC ?_ ?_<;>intro hc_))
  all_goals exact AC
 by_cases hk:k=13
 ·obtain rfl:=hk
  skip
  refine Na ?_
  repeat'(first|refine ar ?_|(refine NP fun b_=>?_)|refine nJ ?_|(refine aa.aj (f:=142) ?_;refine aa.au rfl rfl rfl (fun w' hw'=>gM _ w' hw'.at) ?_)|(refine bC ?_ ?_<;>intro hc_))
  all_goals exact AC
 by_cases hk:k=17
 ·obtain rfl:=hk
  by_cases hlt:al<a
  ·cases hz:MS b with
   |true=>
    refine Na ?_
    repeat'(first|refine ar ?_|(refine NP fun b_=>?_)|refine se ?_|(refine bC ?_ ?_<;>intro hc_))
    refine M6 ?_
    refine cq ?_
    refine aq.kP (v:=.int .i64 al) rfl rfl rfl rfl (fun w' hw'=>ha w' hw'.at) ?_
    refine cq ?_
    repeat'(first|refine ar ?_|(refine NP fun b_=>?_)|refine se ?_|(refine bC ?_ ?_<;>intro hc_))
    all_goals exact AC
   |false=>
    refine Na ?_
    repeat'(first|refine ar ?_|(refine NP fun b_=>?_)|refine sd ?_|(refine bC ?_ ?_<;>intro hc_))
    refine M6 ?_
    refine cq ?_
    repeat'(first|refine ar ?_|(refine NP fun b_=>?_)|refine sd ?_|(refine bC ?_ ?_<;>intro hc_))
    all_goals exact AC
  ·cases hz:MS b with
   |true=>
    refine Na ?_
    repeat'(first|refine ar ?_|(refine NP fun b_=>?_)|refine se ?_|(refine bC ?_ ?_<;>intro hc_))
    refine M6 ?_
    refine cq ?_
    refine aq.kP (v:=.int .i64 al) rfl rfl rfl rfl (fun w' hw'=>ha w' hw'.at) ?_
    refine cq ?_
    repeat'(first|refine ar ?_|(refine NP fun b_=>?_)|refine se ?_|(refine bC ?_ ?_<;>intro hc_))
    all_goals exact AC
   |false=>
    refine Na ?_
    repeat'(first|refine ar ?_|(refine NP fun b_=>?_)|refine sd ?_|(refine bC ?_ ?_<;>intro hc_))
    refine M6 ?_
    refine cq ?_
    repeat'(first|refine ar ?_|(refine NP fun b_=>?_)|refine sd ?_|(refine bC ?_ ?_<;>intro hc_))
    all_goals exact AC
 skip
 refine Na ?_
 repeat'(first|refine ar ?_|(refine NP fun b_=>?_)|refine nJ ?_|(refine bC ?_ ?_<;>intro hc_))
 all_goals exact AC
end Go.Proofs.YtdkcljdfbemnbaaGreatDoor
