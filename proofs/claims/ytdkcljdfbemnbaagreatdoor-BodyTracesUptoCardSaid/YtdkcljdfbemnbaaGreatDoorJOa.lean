import Derived.Test.YtdkcljdfbemnbaaGreatDoorJUx
import Derived.Test.YtdkcljdfbemnbaaGreatDoorJWo
import Derived.Test.YtdkcljdfbemnbaaGreatDoorJUu
namespace Go.Proofs.YtdkcljdfbemnbaaGreatDoor
open Go.RowKit _root_.Go.Proofs.Tryz
set_option maxHeartbeats 128000000
open Int renaming eq_ofNat_of_zero_le→PJ
open List renaming Sublist→Pv,cons_append→Pq,eq_nil_of_length_eq_zero→Qc,getElem?_append_left→P7,getElem?_append_right→P9,length_append→Py,mem_append→PI,mem_cons→PF,nil_append→Pp,pairwise_cons→P0,sublist_append_left→Qd
open Nat renaming le_refl→Px,le_trans→PE,lt_of_lt_of_le→PB,sub_self→PU,zero_add→Ps,zero_le→Pu
open Value renaming bool→Po,int→Pm,slice→Pn
set_option maxRecDepth 100000
theorem lZ {g g':Prop} (h:g') (hw:eA g'→g:=by(intro hk_;(first|(refine aa.aj (f:=64) ?_;refine aa.av rfl rfl rfl (fun w' hw'=>hplain w' hw'.at) ?_));exact hk_.out)):g:=hw ⟨h⟩
variable {K k:Nat} {results:List Int} (F:Nat→Prop) {M:List bu} {R:List (World→Prop)} {w:World}
theorem yI (c:gA) (y:jC) (m:af) (cs:List Value) (locals:List Int) (x:cv) (lp pt pl:Option Addr) (lc ct cl:Nat) (w:World) (h:cG c F w y) (hm:au F w cs m) (hl:ai F w (.slice lp locals.length lc) locals) (ht:ai F w (.slice pt x.types.length ct) x.types) (hl2:ai F w (.slice pl x.labels.length cl) x.labels) (hF:∀k,F k→k<w.heap.size) (hT:nb m) (hs:c.ao.Wf) (hfl:c.fs.length≤1000000) (hpl:c.ao.ps.length≤1000000) (hmany:c.ao.ps.length=c.fs.length+1) (hts:c.ao.ts.length≤1000000000000) (_hpar:(ix c.fs (c.fs.length - 1)).par.length≤100000000000) (_hres:(ix c.fs (c.fs.length - 1)).res.length≤100000000000) (hlb:∀n,(eY c n).1.length≤100000000000) (hll:x.labels.length≤10000000) (hbk:∀f,cX m x.kind x.val x.index=some f→c.ao.ts.length+f.params.length≤17592186044416) (htb:cW x=true→jU x.op=false→c.ao.ts.length+(kB m locals x).1.results.length≤17592186044416):Calls G.P 37 #[.agg (eO c y).toArray,.agg cs.toArray,.slice lp locals.length lc,.agg #[Pm .i64 x.op,Pm .i64 x.a,Pm .i64 x.b,Pm .u64 x.n,Pm .i64 x.kind,Pm .i64 x.val,Pm .i64 x.index,Pn pt x.types.length ct,Pn pl x.labels.length cl]] w (gG (pQ c m locals x) F w):=by
 obtain⟨p1,c1,p2,c2,p3,c3,p4,c4,p5,c5,ey,k4,h4,kz⟩:=h.gx;obtain⟨y,fv,rv,z⟩:=y;cases ey;have hm0:=hm;obtain⟨v0,v1,v2,v3,v4,v5,v6,v7,v8,v9,rfl,r0,r1,r2,r3,r4,r5,r6,r7,r8,r9,g0⟩:=hm;have hplain:∀w',Ext w w'→Calls G.P 64 #[.agg #[Pm .i64 x.op,Pm .i64 x.a,Pm .i64 x.b,Pm .u64 x.n,Pm .i64 x.kind,Pm .i64 x.val,Pm .i64 x.index,Pn pt x.types.length ct,Pn pl x.labels.length cl]] w' fun e w2=>e=.returned (.bool (cW x))∧Ext w' w2:=fun w' hx=>sj F x pt pl ct cl w' (ht.aN hx (fun _ _ _ h=>h)) (hl2.aN hx (fun _ _ _ h=>h));have hst:∀w',Ext w w'→cG c (AF F w (fun _=>False)) w' ⟨⟨.slice p1 c.ao.ts.length c1,.slice p2 c.ao.ps.length c2,.slice p3 c.ao.ps.length c3⟩,.slice p4 c.fs.length c4,.slice p5 c.results.length c5,z⟩:=fun w' hx=>(cG.fr c (cG.lt c h) hx (fun _ _ _ h=>h)).mono fun _ hk=>.inl hk
 obtain⟨r,hr⟩:∃r,pQ c m locals x=r:=⟨_,rfl⟩
 rw[hr]
 unfold pQ at hr
 refine ae (l:=[_,.agg ([v0,v1,v2,v3,v4,v5,v6,Po m.aI,Pm .i64 m.start,v7,v8,v9]).toArray,_,_]) func37 rfl ntmps37 rfl (Ok.fg (V:=cG c) (cG.fr c) (cG.lt c) h) ?_
 dsimp only[eO];refine ar ?_;refine aa.box [.slice p1 c.ao.ts.length c1,.slice p2 c.ao.ps.length c2,.slice p3 c.ao.ps.length c3,.int .i64 c.ao.bR,.slice p4 c.fs.length c4,.slice p5 c.results.length c5,.int .i64 0] rfl rfl rfl fun b4=>?_;refine aa.box [v0,v1,v2,v3,v4,v5,v6,Po m.aI,Pm .i64 m.start,v7,v8,v9] rfl rfl rfl fun b5=>?_;refine aa.box [Pm .i64 x.op,Pm .i64 x.a,Pm .i64 x.b,Pm .u64 x.n,Pm .i64 x.kind,Pm .i64 x.val,Pm .i64 x.index,Pn pt x.types.length ct,Pn pl x.labels.length cl] rfl rfl rfl fun b7=>?_;refine aa.alloc (t:=sA) [.slice none 0 0,.slice none 0 0,.slice none 0 0,.int .i64 0,.slice none 0 0,.slice none 0 0,.int .i64 0] rfl rfl rfl fun b8=>?_
 by_cases hp:cW x=false
 ·rw[if_pos hp]at hr
  subst hr
  rw[hp]at hplain
  repeat'(first|refine ar ?_|(refine N1 fun b_=>?_)|refine lZ ?_|fail)
  all_goals exact EQ
 rw[if_neg hp]at hr
 have hp:cW x=true:=by simpa using hp
 rw[hp]at hplain
 by_cases q1:opens x.op
 ·have hop:=q1
  have hb:=hbk
  rw[if_pos q1]at hr
  have hbl:∀w',Ext w w'→Calls G.P 65 #[.agg ([v0,v1,v2,v3,v4,v5,v6,Po m.aI,Pm .i64 m.start,v7,v8,v9]).toArray,.agg #[.int .i64 x.kind,.int .i64 x.val,.int .i64 x.index]] w' (iV (cX m x.kind x.val x.index) (AF F w (fun _=>False)) w'):=fun w' hx=>(Ai F m x.kind x.val x.index _ w' (hm0.aN hx (fun _ _ _ h=>h)) (fun k hk=>PB (hF k hk) hx.size)).mono fun _ _ hg=>bD.HR (V:=dH _) (fun h hd=>h.mono hd) hg (fun k hk=>.inl ⟨hk,hF k hk⟩)
  generalize cX m x.kind x.val x.index=q at hbl hb hr
  unfold opens at hop
  cases q with
  |none=>
   dsimp only at hr
   subst hr
   rcases hop with hop|hop|hop
   all_goals
    repeat'(first|refine ar ?_|(refine N1 fun b_=>?_)|refine lZ ?_|(refine aa.aj (f:=65) ?_;refine aa.he (HE.qG (V:=dH dF) (w0:=w) (F:=F) (tf:=fun y:Value×Value=>.tuple #[.agg #[y.1,y.2],.bool false]) (dH.fr _) (dH.lt _) (dH.mo _) ak rfl rfl (fun w' hw'=>hbl w' hw'.at)) rfl ?_;rintro⟨D_,u1_,u2_⟩ _;dsimp only;refine aa.pure (φ:=(∃p c,u1_=.slice p (dF).params.length c)∧∃p c,u2_=.slice p (dF).results.length c) (fun w' hw'=>dH.shape (hw'.an (V:=dH dF) (w0:=w) (F:=F) (D:=D_) (y:=(u1_,u2_)) ak bO)) ?_;rintro⟨⟨p_,c_,rfl⟩,⟨q_,d_,rfl⟩⟩)|fail)
    all_goals exact EQ
  |some f=>
   dsimp only at hr
   have hb:=hb f rfl
   have hk:∀D w' pa ca pb cb,Ext w w'→cG c (AF F w D) w' ⟨⟨.slice p1 c.ao.ts.length c1,.slice p2 c.ao.ps.length c2,.slice p3 c.ao.ps.length c3⟩,.slice p4 c.fs.length c4,.slice p5 c.results.length c5,z⟩→dH f (AF F w D) w' (.slice pa f.params.length ca,.slice pb f.results.length cb)→Calls G.P 66 #[.agg (eO c ⟨⟨.slice p1 c.ao.ts.length c1,.slice p2 c.ao.ps.length c2,.slice p3 c.ao.ps.length c3⟩,.slice p4 c.fs.length c4,.slice p5 c.results.length c5,z⟩).toArray,.int .i64 x.op,.agg #[.slice pa f.params.length ca,.slice pb f.results.length cb]] w' (gG r (AF F w D) w'):=fun D w' pa ca pb cb hx h1 h2=>by rw[←hr];exact Ao _ c _ x.op f pa pb ca cb w' h1 h2 hs hfl hpl hb
   dsimp only[eO]at hk
   rcases hop with hop|hop|hop
   all_goals
    repeat'(first|refine ar ?_|(refine N1 fun b_=>?_)|refine lZ ?_|(refine aa.aj (f:=65) ?_;refine aa.he (HE.qG (V:=dH f) (w0:=w) (F:=F) (tf:=fun y:Value×Value=>.tuple #[.agg #[y.1,y.2],.bool true]) (dH.fr _) (dH.lt _) (dH.mo _) ak rfl rfl (fun w' hw'=>hbl w' hw'.at)) rfl ?_;rintro⟨D_,u1_,u2_⟩ _;dsimp only;refine aa.pure (φ:=(∃p c,u1_=.slice p (f).params.length c)∧∃p c,u2_=.slice p (f).results.length c) (fun w' hw'=>dH.shape (hw'.an (V:=dH f) (w0:=w) (F:=F) (D:=D_) (y:=(u1_,u2_)) ak bO)) ?_;rintro⟨⟨p_,c_,rfl⟩,⟨q_,d_,rfl⟩⟩)|fail)
    all_goals first|(exfalso;omega)|skip
    refine Ng ?_
    refine Nh ?_
    rintro⟨D1,y1,l1⟩ _;refine aa.pure (φ:=fH l1) (fun w' hw'=>(hw'.an (V:=fY r) (w0:=w) (F:=F) (D:=D1) (y:=(y1,l1)) ak bO).1) ?_;rintro⟨a1,n1,k1,a2,n2,k2,a3,n3,k3,mm,a4,n4,k4',a5,n5,k5,bb,rfl⟩;dsimp only
    repeat'(first|refine ar ?_|fail)
    all_goals exact Fd
 rw[if_neg q1]at hr
 by_cases q2:x.op=5
 ·have hop:=q2
  have hb:c.ao.ts.length+(ix c.fs (c.fs.length - 1)).par.length≤17592186044416:=by omega
  rw[if_pos q2]at hr
  have hk:∀w',Ext w w'→Calls G.P 67 #[.agg (eO c ⟨⟨.slice p1 c.ao.ts.length c1,.slice p2 c.ao.ps.length c2,.slice p3 c.ao.ps.length c3⟩,.slice p4 c.fs.length c4,.slice p5 c.results.length c5,z⟩).toArray] w' (gG r (AF F w (fun _=>False)) w'):=fun w' hx=>by rw[←hr];exact BO _ c _ w' (hst w' hx) hs hfl hpl hmany hb
  dsimp only[eO]at hk
  repeat'(first|refine ar ?_|(refine N1 fun b_=>?_)|refine lZ ?_|fail)
  all_goals first|(exfalso;omega)|skip
  refine Ni ?_
  rintro⟨D1,y1,l1⟩ _;refine aa.pure (φ:=fH l1) (fun w' hw'=>(hw'.an (V:=fY r) (w0:=w) (F:=F) (D:=D1) (y:=(y1,l1)) ak bO).1) ?_;rintro⟨a1,n1,k1,a2,n2,k2,a3,n3,k3,mm,a4,n4,k4',a5,n5,k5,bb,rfl⟩;dsimp only
  repeat'(first|refine ar ?_|fail)
  all_goals exact Fd
 rw[if_neg q2]at hr
 by_cases q3:x.op=11
 ·have hop:=q3
  have hb:c.ao.ts.length+(ix c.fs (c.fs.length - 1)).res.length≤17592186044416:=by omega
  rw[if_pos q3]at hr
  have hk:∀w',Ext w w'→Calls G.P 68 #[.agg (eO c ⟨⟨.slice p1 c.ao.ts.length c1,.slice p2 c.ao.ps.length c2,.slice p3 c.ao.ps.length c3⟩,.slice p4 c.fs.length c4,.slice p5 c.results.length c5,z⟩).toArray] w' (gG r (AF F w (fun _=>False)) w'):=fun w' hx=>by rw[←hr];exact Ap _ c _ w' (hst w' hx) hs hfl hpl hmany hb
  dsimp only[eO]at hk
  repeat'(first|refine ar ?_|(refine N1 fun b_=>?_)|refine lZ ?_|fail)
  all_goals first|(exfalso;omega)|skip
  refine Ni ?_
  rintro⟨D1,y1,l1⟩ _;refine aa.pure (φ:=fH l1) (fun w' hw'=>(hw'.an (V:=fY r) (w0:=w) (F:=F) (D:=D1) (y:=(y1,l1)) ak bO).1) ?_;rintro⟨a1,n1,k1,a2,n2,k2,a3,n3,k3,mm,a4,n4,k4',a5,n5,k5,bb,rfl⟩;dsimp only
  repeat'(first|refine ar ?_|fail)
  all_goals exact Fd
 rw[if_neg q3]at hr
 by_cases q4:x.op=0
 ·have hop:=q4
  rw[if_pos q4]at hr
  obtain⟨cc,hcc⟩:∃cc,gk c=cc:=⟨_,rfl⟩
  have hk:∀w',Ext w w'→Calls G.P 69 #[.agg (eO c ⟨⟨.slice p1 c.ao.ts.length c1,.slice p2 c.ao.ps.length c2,.slice p3 c.ao.ps.length c3⟩,.slice p4 c.fs.length c4,.slice p5 c.results.length c5,z⟩).toArray] w' (bD (cG cc) (fun y=>.agg (eO cc y).toArray) (AF F w (fun _=>False)) w'):=fun w' hx=>by rw[←hcc];exact oG _ c _ w' (hst w' hx) hfl hs hpl
  rw[hcc]at hr
  subst hr
  dsimp only[eO]at hk
  repeat'(first|refine ar ?_|(refine N1 fun b_=>?_)|refine lZ ?_|fail)
  all_goals first|(exfalso;omega)|skip
  refine aa.he (HE.bV (V:=cG c) (V2:=cG cc) (tf:=fun y=>.agg (eO cc y).toArray) (w0:=w) (F:=F) (D:=fun _=>False) (y:=⟨⟨.slice p1 c.ao.ts.length c1,.slice p2 c.ao.ps.length c2,.slice p3 c.ao.ps.length c3⟩,.slice p4 c.fs.length c4,.slice p5 c.results.length c5,z⟩) (cG.fr _) (cG.lt _) (cG.mo _) ak bO (fun _=>aH) rfl rfl (fun w' hw' _=>hk w' hw'.at)) rfl ?_
  rintro⟨D5,y5⟩ _
  refine aa.pure (φ:=∃a1 n1 c1 a2 n2 c2 a3 n3 c3 a4 n4 c4 a5 n5 c5,∃z:List vI,y5=⟨⟨.slice a1 n1 c1,.slice a2 n2 c2,.slice a3 n3 c3⟩,.slice a4 n4 c4,.slice a5 n5 c5,z⟩) (fun w' hw'=>by obtain⟨p1,c1,p2,c2,p3,c3,p4,c4,p5,c5,e,-⟩:=(hw'.an (V:=cG cc) (w0:=w) (F:=F) (D:=D5) (y:=y5) ak bO).gx;exact⟨p1,_,c1,p2,_,c2,p3,_,c3,p4,_,c4,p5,_,c5,_,e⟩) ?_
  rintro⟨t1,m1,j1,t2,m2,j2,t3,m3,j3,t4,m4,j4,t5,m5,j5,z5,rfl⟩
  dsimp only[eO]
  repeat'(first|refine ar ?_|fail)
  all_goals first|(exfalso;omega)|(refine ah.aM (.inl rfl) rfl rfl rfl rfl rfl aH rfl rfl ?_;exact fun w' hw'=>gG.ok (c:=cc) ⟨⟨.slice t1 m1 j1,.slice t2 m2 j2,.slice t3 m3 j3⟩,.slice t4 m4 j4,.slice t5 m5 j5,z5⟩ (hw'.new (V:=cG cc) (w:=w) (F:=F) (D:=D5) (y:=⟨⟨.slice t1 m1 j1,.slice t2 m2 j2,.slice t3 m3 j3⟩,.slice t4 m4 j4,.slice t5 m5 j5,z5⟩) (cG.mo _) ak bO) hw'.at)
 rw[if_neg q4]at hr
 by_cases q5:jumps x.op
 ·rw[if_pos q5]at hr
  unfold s9 at hr
  have q5':=q5
  unfold jumps at q5'
  by_cases r15:x.op=15
  ·have hop:=r15
   have hb:c.ao.ts.length≤17592186044416:=by omega
   rw[if_pos r15]at hr
   have hk:∀w',Ext w w'→Calls G.P 70 #[.agg (eO c ⟨⟨.slice p1 c.ao.ts.length c1,.slice p2 c.ao.ps.length c2,.slice p3 c.ao.ps.length c3⟩,.slice p4 c.fs.length c4,.slice p5 c.results.length c5,z⟩).toArray,.slice p5 c.results.length c5,.int .i64 0] w' (gG r (AF F w (fun _=>False)) w'):=fun w' hx=>by rw[←hr];exact qU _ c _ w' (hst w' hx) c.results p5 c.results.length c5 0 (fun _=>⟨rfl,kk h.2.2.1 hx _⟩) hfl hs hpl hb
   dsimp only[eO]at hk
   repeat'(first|refine ar ?_|(refine N1 fun b_=>?_)|refine lZ ?_|fail)
   all_goals first|(exfalso;omega)|skip
   refine Nj ?_
   repeat'(first|refine pN ?_|(refine ax.dA 71 ?_;refine ax.he rfl rfl (HE.eU rfl rfl (fun w' hw'=>yH _ c ⟨⟨.slice p1 c.ao.ts.length c1,.slice p2 c.ao.ps.length c2,.slice p3 c.ao.ps.length c3⟩,.slice p4 c.fs.length c4,.slice p5 c.results.length c5,z⟩ w' (hst w' hw'.at))) (fun _=>bz) (fun _=>aU) ?_;rintro⟨⟩ _)|(refine ax.dA 70 ?_;refine ax.he rfl rfl (HE.bV (V:=cG c) (V2:=fY r) (tf:=fun x=>.tuple #[.agg x.2.toArray,.int .i64 r.2]) (w0:=w) (F:=F) (D:=fun _=>False) (y:=⟨⟨.slice p1 c.ao.ts.length c1,.slice p2 c.ao.ps.length c2,.slice p3 c.ao.ps.length c3⟩,.slice p4 c.fs.length c4,.slice p5 c.results.length c5,z⟩) (fY.fr _) (fY.lt _) (fY.mo _) ak bO (fun _=>aH) rfl rfl (fun w' hw' _=>hk w' hw'.at)) (fun _=>bz) (fun _=>aU) ?_;rintro⟨D1,y1,l1⟩ _;refine aP.pure (φ:=fH l1) (fun w' hw'=>(hw'.an (V:=fY r) (w0:=w) (F:=F) (D:=D1) (y:=(y1,l1)) ak bO).1) ?_;rintro⟨a1,n1,k1,a2,n2,k2,a3,n3,k3,mm,a4,n4,k4',a5,n5,k5,bb,rfl⟩;dsimp only)|(refine ax.nj ?_;refine ax.jO rfl (gj.bn _ rfl rfl rfl rfl rfl rfl aH rfl) (fun _=>bz) (fun _=>aU) ?_;rintro⟨⟩ _)|refine aP.nil O9 ?_|refine aP.any O9 ?_|exact aB.fin rfl|refine aB.skip O9 ?_|refine aB.go ?_ ?_)
   all_goals
    repeat'(first|refine ar ?_|fail)
    all_goals exact Fd
  rw[if_neg r15]at hr
  by_cases r14:x.op=14
  ·have hop:=r14
   rw[if_pos r14]at hr
   have hk:∀w',Ext w w'→Calls G.P 74 #[.agg (eO c ⟨⟨.slice p1 c.ao.ts.length c1,.slice p2 c.ao.ps.length c2,.slice p3 c.ao.ps.length c3⟩,.slice p4 c.fs.length c4,.slice p5 c.results.length c5,z⟩).toArray,.agg #[Pm .i64 x.op,Pm .i64 x.a,Pm .i64 x.b,Pm .u64 x.n,Pm .i64 x.kind,Pm .i64 x.val,Pm .i64 x.index,Pn pt x.types.length ct,Pn pl x.labels.length cl]] w' (gG r (AF F w (fun _=>False)) w'):=fun w' hx=>by rw[←hr];exact uI _ c _ w' (hst w' hx) x pt pl ct cl (kk hl2 hx _) hll hfl hs hpl hlb
   dsimp only[eO]at hk
   repeat'(first|refine ar ?_|(refine N1 fun b_=>?_)|refine lZ ?_|fail)
   all_goals first|(exfalso;omega)|skip
   refine Ni ?_
   rintro⟨D1,y1,l1⟩ _;refine aa.pure (φ:=fH l1) (fun w' hw'=>(hw'.an (V:=fY r) (w0:=w) (F:=F) (D:=D1) (y:=(y1,l1)) ak bO).1) ?_;rintro⟨a1,n1,k1,a2,n2,k2,a3,n3,k3,mm,a4,n4,k4',a5,n5,k5,bb,rfl⟩;dsimp only
   repeat'(first|refine ar ?_|fail)
   all_goals exact Fd
  rw[if_neg r14]at hr
  by_cases r13:x.op=13
  ·have hop:=r13
   have hb:=hts
   rw[if_pos r13]at hr
   obtain⟨u,hu,hcall⟩:=ny F c ⟨⟨.slice p1 c.ao.ts.length c1,.slice p2 c.ao.ps.length c2,.slice p3 c.ao.ps.length c3⟩,.slice p4 c.fs.length c4,.slice p5 c.results.length c5,z⟩ w h x.a
   have hlb:=hlb x.a
   obtain⟨q,hq⟩:∃q,eY c x.a=q:=⟨_,rfl⟩
   rw[hq]at hu hcall hlb hr
   obtain⟨l,e⟩:=q
   dsimp only at hu hcall hlb hr
   obtain⟨pu,cu,rfl,_⟩:=hu.slice
   dsimp only[eO]at hcall
   by_cases he:e=0
   ·subst he
    rw[if_neg (fun h=>h rfl)]at hr
    have hk:∀D w' pb cb,Ext w w'→cG c (AF F w D) w' ⟨⟨.slice p1 c.ao.ts.length c1,.slice p2 c.ao.ps.length c2,.slice p3 c.ao.ps.length c3⟩,.slice p4 c.fs.length c4,.slice p5 c.results.length c5,z⟩→ai (AF F w D) w' (.slice pb (l++[(1:Int)]).length cb) (l++[(1:Int)])→Calls G.P 73 #[.agg (eO c ⟨⟨.slice p1 c.ao.ts.length c1,.slice p2 c.ao.ps.length c2,.slice p3 c.ao.ps.length c3⟩,.slice p4 c.fs.length c4,.slice p5 c.results.length c5,z⟩).toArray,.agg #[.slice pb (l++[(1:Int)]).length cb,.slice pu l.length cu]] w' (gG r (AF F w D) w'):=fun D w' pb cb hx h1 h2=>by rw[←hr];exact oI _ c _ w' h1 ⟨l++[(1:Int)],l⟩ pb pu cb cu ⟨h2,kk hu hx _⟩ hs (by show c.ao.ts.length+l.length≤_;omega)
    dsimp only[eO]at hk
    repeat'(first|refine ar ?_|(refine N1 fun b_=>?_)|refine lZ ?_|refine Ol ?_|fail)
    all_goals first|(exfalso;omega)|skip
    (try simp only[List.getElem_toArray,List.getElem_cons_zero,List.getElem_cons_succ])
    refine Nj ?_
    repeat'(first|refine pN ?_|(refine ax.lD ?_;refine ax.he rfl rfl (HE.jG rfl rfl rfl rfl rfl er Pk Pk) (fun _=>bz) (fun _=>aU) ?_;rintro bl0 _;refine aP.map (fun w' hw'=>hw'.jN (b:=bl0) (len:=0) (s:=1) aH rfl O4) ?_)|(refine ax.lD ?_;refine ax.he rfl rfl (HE.jG rfl rfl rfl rfl rfl er Pk Pk) (fun _=>bz) (fun _=>aU) ?_;rintro bl _)|(refine ax.rr ?_;refine ax.he rfl rfl (HE.app rfl rfl (fun _=>aH) aH rfl rfl rfl Pk Pk Pk Pk Pk Pk Pi (fun _ _=>Pu _)) (fun _=>bz) (fun _=>aU) ?_;rintro vb _;refine aP.pure (φ:=∃p cc,vb=.slice p (l++[(1:Int)]).length cc) (fun w' hw'=>by obtain⟨p,cc,e,_⟩:=aw (hw'.own (v:=vb));exact⟨p,cc,by rw[e,Py];rfl⟩) ?_;rintro⟨pb,cb,rfl⟩;refine aP.Jn (B:=0) (T:=fR) (m:=l.length+1) (v:=.slice pb (l++[(1:Int)]).length cb) (cs:=aY l++[.int .i64 1]) (w0:=w) (F:=F) (l++[(1:Int)]) aH (by rw[Py];rfl) (qk l 1).symm (by rw[Py];show l.length+1≤_;omega) ?_;refine aP.yA (V:=cG c) (V2:=IC (l++[(1:Int)])) (w0:=w) (F:=F) (D:=fun _=>False) (D2:=fun k=>(Pn pb (l++[(1:Int)]).length cb).ownBlock=some k) (y:=⟨⟨.slice p1 c.ao.ts.length c1,.slice p2 c.ao.ps.length c2,.slice p3 c.ao.ps.length c3⟩,.slice p4 c.fs.length c4,.slice p5 c.results.length c5,z⟩) (y2:=.slice pb (l++[(1:Int)]).length cb) (cG.mo _) (IC.mo _) jH jH ?_)|(refine ax.rr ?_;refine ax.he rfl rfl (HE.gR (aY l) rfl rfl (fun _=>aH) (jJ hu ak) Pg rfl rfl rfl Pk Pk Pk (fj _) (by show(0+l.length)*8≤_;omega) Pi (fun _ _=>Pu _)) (fun _=>bz) (fun _=>aU) ?_;rintro va _;simp only[Ps,Pp];refine aP.pure (φ:=∃p cc,va=.slice p l.length cc) (fun w' hw'=>by obtain⟨p,cc,e,_⟩:=aw (hw'.own (v:=va));exact⟨p,cc,e⟩) ?_;rintro⟨pa,ca,rfl⟩)|(refine ax.dA 73 ?_;refine ax.he rfl rfl (HE.bV (V:=HU (cG c) (IC (l++[(1:Int)]))) (V2:=fY r) (tf:=fun x=>.tuple #[.agg x.2.toArray,.int .i64 r.2]) (w0:=w) (F:=F) (D:=fun k=>False∨(Pn pb (l++[(1:Int)]).length cb).ownBlock=some k) (y:=(⟨⟨.slice p1 c.ao.ts.length c1,.slice p2 c.ao.ps.length c2,.slice p3 c.ao.ps.length c3⟩,.slice p4 c.fs.length c4,.slice p5 c.results.length c5,z⟩,.slice pb (l++[(1:Int)]).length cb)) (fY.fr _) (fY.lt _) (fY.mo _) ak bO (fun _=>aH) rfl rfl (fun w' hw' hh=>hk _ w' pb cb hw'.at hh.1 hh.2)) (fun _=>bz) (fun _=>aU) ?_;rintro⟨D1,y1,l1⟩ _;refine aP.pure (φ:=fH l1) (fun w' hw'=>(hw'.an (V:=fY r) (w0:=w) (F:=F) (D:=D1) (y:=(y1,l1)) ak bO).1) ?_;rintro⟨a1,n1,k1,a2,n2,k2,a3,n3,k3,mm,a4,n4,k4',a5,n5,k5,bb,rfl⟩;dsimp only)|(refine ax.nj ?_;refine ax.jO rfl (gj.bn _ rfl rfl rfl rfl rfl rfl aH rfl) (fun _=>bz) (fun _=>aU) ?_;rintro⟨⟩ _)|refine aP.nil O9 ?_|refine aP.any O9 ?_|exact aB.fin rfl|refine aB.skip O9 ?_|refine aB.go ?_ ?_)
    all_goals
     repeat'(first|refine ar ?_|fail)
     all_goals exact Fd
   ·rw[if_pos he]at hr
    subst hr
    repeat'(first|refine ar ?_|(refine N1 fun b_=>?_)|refine lZ ?_|refine Ol ?_|fail)
    all_goals exact FS
  rw[if_neg r13]at hr
  have hop:x.op=12:=by omega
  have hb:c.ao.ts.length≤17592186044416:=by omega
  obtain⟨u,hu,hcall⟩:=ny F c ⟨⟨.slice p1 c.ao.ts.length c1,.slice p2 c.ao.ps.length c2,.slice p3 c.ao.ps.length c3⟩,.slice p4 c.fs.length c4,.slice p5 c.results.length c5,z⟩ w h x.a
  have hlb:=hlb x.a
  obtain⟨q,hq⟩:∃q,eY c x.a=q:=⟨_,rfl⟩
  rw[hq]at hu hcall hlb hr
  obtain⟨l,e⟩:=q
  dsimp only at hu hcall hlb hr
  obtain⟨pu,cu,rfl,_⟩:=hu.slice
  have hk:∀w',Ext w w'→Calls G.P 70 #[.agg (eO c ⟨⟨.slice p1 c.ao.ts.length c1,.slice p2 c.ao.ps.length c2,.slice p3 c.ao.ps.length c3⟩,.slice p4 c.fs.length c4,.slice p5 c.results.length c5,z⟩).toArray,.slice pu l.length cu,.int .i64 e] w' (gG r (AF F w (fun _=>False)) w'):=fun w' hx=>by rw[←hr];exact qU _ c _ w' (hst w' hx) l pu l.length cu e (fun _=>⟨rfl,kk hu hx _⟩) hfl hs hpl hb
  dsimp only[eO]at hk hcall
  repeat'(first|refine ar ?_|(refine N1 fun b_=>?_)|refine lZ ?_|refine Ol ?_|fail)
  all_goals first|(exfalso;omega)|skip
  refine Ni ?_
  rintro⟨D1,y1,l1⟩ _;refine aa.pure (φ:=fH l1) (fun w' hw'=>(hw'.an (V:=fY r) (w0:=w) (F:=F) (D:=D1) (y:=(y1,l1)) ak bO).1) ?_;rintro⟨a1,n1,k1,a2,n2,k2,a3,n3,k3,mm,a4,n4,k4',a5,n5,k5,bb,rfl⟩;dsimp only
  repeat'(first|refine ar ?_|fail)
  all_goals exact Fd
 rw[if_neg q5]at hr
 by_cases q6:ku x.op
 ·have hop:=q6
  have hb:c.ao.ts.length+1≤17592186044416:=by omega
  rw[if_pos q6]at hr
  have hk:∀w',Ext w w'→Calls G.P 75 #[.agg (eO c ⟨⟨.slice p1 c.ao.ts.length c1,.slice p2 c.ao.ps.length c2,.slice p3 c.ao.ps.length c3⟩,.slice p4 c.fs.length c4,.slice p5 c.results.length c5,z⟩).toArray,.int .i64 x.op] w' (gG r (AF F w (fun _=>False)) w'):=fun w' hx=>by rw[←hr];exact Av _ c _ w' (hst w' hx) x.op hop hs hb
  dsimp only[eO]at hk
  unfold ku at hop
  rcases hop with hop|hop|hop
  all_goals
   repeat'(first|refine ar ?_|(refine N1 fun b_=>?_)|refine lZ ?_|fail)
   all_goals first|(exfalso;omega)|skip
   refine Ni ?_
   rintro⟨D1,y1,l1⟩ _;refine aa.pure (φ:=fH l1) (fun w' hw'=>(hw'.an (V:=fY r) (w0:=w) (F:=F) (D:=D1) (y:=(y1,l1)) ak bO).1) ?_;rintro⟨a1,n1,k1,a2,n2,k2,a3,n3,k3,mm,a4,n4,k4',a5,n5,k5,bb,rfl⟩;dsimp only
   repeat'(first|refine ar ?_|fail)
   all_goals exact Fd
 rw[if_neg q6]at hr
 have ha:=tq q1 q2 q3 q4 q5 q6
 have hb:=htb hp ha
 have hop:x.op≠2∧x.op≠3∧x.op≠4∧x.op≠5∧x.op≠11∧x.op≠0∧x.op≠12∧x.op≠13∧x.op≠14∧x.op≠15∧x.op≠26∧x.op≠27∧x.op≠209:=by simpa[jU,and_assoc]using ha
 have hwa:∀w',Ext w w'→Calls G.P 76 #[.agg ([v0,v1,v2,v3,v4,v5,v6,Po m.aI,Pm .i64 m.start,v7,v8,v9]).toArray,.slice lp locals.length lc,.agg #[Pm .i64 x.op,Pm .i64 x.a,Pm .i64 x.b,Pm .u64 x.n,Pm .i64 x.kind,Pm .i64 x.val,Pm .i64 x.index,Pn pt x.types.length ct,Pn pl x.labels.length cl]] w' (jw (kB m locals x) (AF F w (fun _=>False)) w'):=fun w' hx=>(At F m _ locals x lp pt pl lc ct cl w' (hm0.aN hx (fun _ _ _ h=>h)) (hl.aN hx (fun _ _ _ h=>h)) (ht.aN hx (fun _ _ _ h=>h)) (fun k hk=>PB (hF k hk) hx.size) hT (hl2.aN hx (fun _ _ _ h=>h))).mono fun _ _ hg=>bD.HR (V:=dH _) (fun h hd=>h.mono hd) hg (fun k hk=>.inl ⟨hk,hF k hk⟩)
 obtain⟨q,hq⟩:∃q,kB m locals x=q:=⟨_,rfl⟩
 rw[hq]at hwa hb hr
 obtain⟨f,e⟩:=q
 dsimp only at hwa hb hr
 by_cases he:e=0
 ·subst he
  rw[if_neg (fun h=>h rfl)]at hr
  have hk:∀D w' pa ca pb cb,Ext w w'→cG c (AF F w D) w' ⟨⟨.slice p1 c.ao.ts.length c1,.slice p2 c.ao.ps.length c2,.slice p3 c.ao.ps.length c3⟩,.slice p4 c.fs.length c4,.slice p5 c.results.length c5,z⟩→dH f (AF F w D) w' (.slice pa f.params.length ca,.slice pb f.results.length cb)→Calls G.P 73 #[.agg (eO c ⟨⟨.slice p1 c.ao.ts.length c1,.slice p2 c.ao.ps.length c2,.slice p3 c.ao.ps.length c3⟩,.slice p4 c.fs.length c4,.slice p5 c.results.length c5,z⟩).toArray,.agg #[.slice pa f.params.length ca,.slice pb f.results.length cb]] w' (gG r (AF F w D) w'):=fun D w' pa ca pb cb hx h1 h2=>by rw[←hr];exact oI _ c _ w' h1 f pa pb ca cb h2 hs hb
  dsimp only[eO]at hk
  repeat'(first|refine ar ?_|(refine N1 fun b_=>?_)|refine lZ ?_|(refine aa.aj (f:=76) ?_;refine aa.he (HE.qG (V:=dH f) (w0:=w) (F:=F) (tf:=fun y:Value×Value=>.tuple #[.agg #[y.1,y.2],.int .i64 0]) (dH.fr f) (dH.lt f) (dH.mo f) ak rfl rfl (fun w' hw'=>hwa w' hw'.at)) rfl ?_;rintro⟨D_,u1_,u2_⟩ _;dsimp only;refine aa.pure (φ:=(∃p c,u1_=.slice p f.params.length c)∧∃p c,u2_=.slice p f.results.length c) (fun w' hw'=>dH.shape (hw'.an (V:=dH f) (w0:=w) (F:=F) (D:=D_) (y:=(u1_,u2_)) ak bO)) ?_;rintro⟨⟨p_,c_,rfl⟩,⟨q_,d_,rfl⟩⟩)|fail)
  all_goals first|(exfalso;omega)|skip
  refine Ng ?_
  refine Nh ?_
  rintro⟨D1,y1,l1⟩ _;refine aa.pure (φ:=fH l1) (fun w' hw'=>(hw'.an (V:=fY r) (w0:=w) (F:=F) (D:=D1) (y:=(y1,l1)) ak bO).1) ?_;rintro⟨a1,n1,k1,a2,n2,k2,a3,n3,k3,mm,a4,n4,k4',a5,n5,k5,bb,rfl⟩;dsimp only
  repeat'(first|refine ar ?_|fail)
  all_goals exact Fd
 ·rw[if_pos he]at hr
  subst hr
  repeat'(first|refine ar ?_|(refine N1 fun b_=>?_)|refine lZ ?_|(refine aa.aj (f:=76) ?_;refine aa.he (HE.qG (V:=dH f) (w0:=w) (F:=F) (tf:=fun y:Value×Value=>.tuple #[.agg #[y.1,y.2],.int .i64 e]) (dH.fr f) (dH.lt f) (dH.mo f) ak rfl rfl (fun w' hw'=>hwa w' hw'.at)) rfl ?_;rintro⟨D_,u1_,u2_⟩ _;dsimp only;refine aa.pure (φ:=(∃p c,u1_=.slice p f.params.length c)∧∃p c,u2_=.slice p f.results.length c) (fun w' hw'=>dH.shape (hw'.an (V:=dH f) (w0:=w) (F:=F) (D:=D_) (y:=(u1_,u2_)) ak bO)) ?_;rintro⟨⟨p_,c_,rfl⟩,⟨q_,d_,rfl⟩⟩)|fail)
  all_goals exact FS
structure IJ (c:dv) (m:af) (locals:List Int) (x:cv):Prop where
 fs:c.fs.length≤1000
 ts:c.ao.ts.length≤1000000000000
 res:c.results.length≤100000000000
 kU:∀n,(cT c n).1.length≤100000000000
 par:c.top.par.length≤100000000000
 rs:c.top.res.length≤100000000000
 ll:x.labels.length≤10000000
 aW:∀f,cX m x.kind x.val x.index=some f→(c.ao.ts.length+f.params.length)*8≤140737488355328
 KH:(c.ao.ts.length+(fO m locals x).1.results.length)*8≤140737488355328
theorem BW (B:Nat) (F:Nat→Prop) (cp:Nat) (c:dv) (v:jF) (m:af) (locals:List Int) (sv:Value) (x:cv) (lp pt pl:Option Addr) (lc ct cl:Nat) (w:World) (hw:Ok (aT cp c v) (qm B F m sv locals (.slice lp locals.length lc) x (.slice pt x.types.length ct) (.slice pl x.labels.length cl)) w) (hg:v.Good c) (hwf:c.Wf) (hb:c.broken=0) (hT:nb m) (hB:IJ c m locals x):
  Calls G.P 32 #[.pointer (some ⟨cp,0,none⟩),sv,.slice lp locals.length lc,.agg #[Pm .i64 x.op,Pm .i64 x.a,Pm .i64 x.b,Pm .u64 x.n,Pm .i64 x.kind,Pm .i64 x.val,Pm .i64 x.index,Pn pt x.types.length ct,Pn pl x.labels.length cl]] w (aK (aT cp c v) cp (fD c m locals x) w):=by
 have h1:=hB.fs
 have h2:=hB.ts
 have h3:=hB.par
 have h4:=hB.rs
 unfold fD
 cases hp:cW x with
 |false=>rw[if_pos rfl];exact wL B F cp c v m locals sv x lp pt pl lc ct cl w hw hp
 |true=>
  rw[if_neg Ph]
  by_cases q1:opens x.op
  ·rw[if_pos q1];exact sS B F cp c v m locals sv x lp pt pl lc ct cl w hw hg hwf hb hp q1 h1 hB.aW
  rw[if_neg q1]
  by_cases q2:x.op=5
  ·rw[if_pos q2];exact sQ B F cp c v m locals sv x lp pt pl lc ct cl w hw hg hwf hb hp q2 h1 Pi
  rw[if_neg q2]
  by_cases q3:x.op=11
  ·rw[if_pos q3];exact vg B F cp c v m locals sv x lp pt pl lc ct cl w hw hg hwf hb hp q3 h1 Pi
  rw[if_neg q3]
  by_cases q4:x.op=0
  ·rw[if_pos q4];exact vh B F cp c v m locals sv x lp pt pl lc ct cl w hw hg hwf hb hp q4
  rw[if_neg q4]
  by_cases q5:jumps x.op
  ·rw[if_pos q5];exact sR B F cp c v m locals sv x lp pt pl lc ct cl w hw hg hwf hb hp q5 hB.res hB.kU hB.ll h2
  rw[if_neg q5]
  by_cases q6:ku x.op
  ·rw[if_pos q6];exact sU B F cp c v m locals sv x lp pt pl lc ct cl w hw hg hwf hb hp q6 Pi
  rw[if_neg q6]
  exact rL B F cp c v m locals sv x lp pt pl lc ct cl w hw hg hwf hp (tq q1 q2 q3 q4 q5 q6) hT (HA _ hB.KH)
theorem Bp {c:dv} (hb:c.broken=0) (hk:c.Ok) {k:Nat} (h:∀n,(cT c n).1.length≤k) (n:Int):(eY (bP c) n).1.length≤k:=by rw[←rz c n hb hk];exact h n
theorem As (c:dv) (y:jC) (m:af) (cs:List Value) (locals:List Int) (x:cv) (lp pt pl:Option Addr) (lc ct cl:Nat) (w:World) (h:cG (bP c) F w y) (hm:au F w cs m) (hl:ai F w (.slice lp locals.length lc) locals) (ht:ai F w (.slice pt x.types.length ct) x.types) (hl2:ai F w (.slice pl x.labels.length cl) x.labels) (hF:∀k,F k→k<w.heap.size) (hT:nb m) (hwf:c.Wf) (hok:c.Ok) (hb:c.broken=0) (hB:IJ c m locals x):
  Calls G.P 37 #[.agg (eO (bP c) y).toArray,.agg cs.toArray,.slice lp locals.length lc,.agg #[Pm .i64 x.op,Pm .i64 x.a,Pm .i64 x.b,Pm .u64 x.n,Pm .i64 x.kind,Pm .i64 x.val,Pm .i64 x.index,Pn pt x.types.length ct,Pn pl x.labels.length cl]] w (gG (pQ (bP c) m locals x) F w):=by
 have h1:=hB.fs
 have h2:=hB.ts
 have h3:=hB.par
 have h4:=hB.rs
 have hts:(bP c).ao.ts.length=c.ao.ts.length:=rfl
 have hs:(bP c).ao.Wf:=hwf.ao
 have hfl:(bP c).fs.length≤1000000:=by rw[cU];omega
 have hmany:(bP c).ao.ps.length=(bP c).fs.length+1:=by rw[cU];exact hwf.many
 have hpl:(bP c).ao.ps.length≤1000000:=by rw[hmany,cU];omega
 have hlb:∀n,(eY (bP c) n).1.length≤100000000000:=Bp hb hok hB.kU
 have htop:(bP c).fs.length≠0→(ix (bP c).fs ((bP c).fs.length - 1)).par=c.top.par∧(ix (bP c).fs ((bP c).fs.length - 1)).res=c.top.res:=fun hn=>by
  rw[cU]at hn ⊢
  rw[iS c Pi];exact⟨rfl,rfl⟩
 have hpar:(ix (bP c).fs ((bP c).fs.length - 1)).par.length≤100000000000:=by
  by_cases hn:(bP c).fs.length=0
  ·rw[hn];have:(bP c).fs=[]:=Qc hn;rw[this];exact Pu _
  ·rw[(htop hn).1];exact h3
 have hres:(ix (bP c).fs ((bP c).fs.length - 1)).res.length≤100000000000:=by
  by_cases hn:(bP c).fs.length=0
  ·rw[hn];have:(bP c).fs=[]:=Qc hn;rw[this];exact Pu _
  ·rw[(htop hn).2];exact h4
 exact yI F (bP c) y m cs locals x lp pt pl lc ct cl w h hm hl ht hl2 hF hT hs hfl hpl hmany Pi hpar hres hlb hB.ll (fun f hf=>by have:=hB.aW f hf;omega) (fun hp ha=>by
  have e:=vF m locals x
  unfold ql at e
  rw[if_neg (by rw[hp];decide),ha,if_neg Ph]at e
  rw[←e];have:=hB.KH;omega)
theorem GZ {F:Nat→Prop} {w w':World} {cs:List Value} {m:af} (h:au F w cs m) (hx:Ext w w') (D:Nat→Prop):au (AF F w D) w' cs m:=((h.mono fun _ hk hF=>⟨hF,hk⟩:au (fun k=>F k∧k<w.heap.size) w cs m).aN hx (fun _ _ _ h=>h)).mono fun _ _ h=>.inl h
theorem cG.sh {c:gA} {D:Nat→Prop} {w:World} {y:jC} (h:cG c D w y):∃a1 n1 c1 a2 n2 c2 a3 n3 c3 a4 n4 c4 a5 n5 c5,∃z:List vI,y=⟨⟨.slice a1 n1 c1,.slice a2 n2 c2,.slice a3 n3 c3⟩,.slice a4 n4 c4,.slice a5 n5 c5,z⟩:=by
 obtain⟨p1,c1,p2,c2,p3,c3,p4,c4,p5,c5,e,-⟩:=h.gx
 exact⟨p1,_,c1,p2,_,c2,p3,_,c3,p4,_,c4,p5,_,c5,_,e⟩
theorem Ar (D:Nat→Prop) (c:dv) (y:jC) (w:World) (h:cG (bP c) D w y) (hb:c.broken=0) (hn:0<c.fs.length):Calls G.P 36 #[.agg (eO (bP c) y).toArray] w fun e w'=>e=.returned (.bool c.live)∧Ext w w':=by
 have:=BP D (bP c) y w h (by rw[cU];exact hn)
 rw[GU c hb hn]at this;exact this
def Gi (K:Nat) (m:af):Prop:=∀f∈m.types,f.params.length≤K∧f.results.length≤K
theorem Gi.b {K:Nat} {m:af} (h:Gi K m) (hK:K≤17592186043904):nb m:=fun f hf=>⟨Nat.le_trans (h f hf).1 hK,PE (h f hf).2 hK⟩
theorem n9 {K:Nat} {m:af} (h1:1≤K) (hT:Gi K m) {k v i:Int} {f:aO} (h:cX m k v i=some f):f.params.length≤K∧f.results.length≤K:=by
 unfold cX at h
 split at h
 ·cases h;exact⟨Nat.zero_le _,Pu _⟩
 ·split at h
  ·split at h
   ·cases h;exact⟨Nat.zero_le _,h1⟩
   ·cases h
  ·split at h
   ·exact hT _ (nf h)
   ·cases h
theorem qi {K:Nat} {m:af} {locals:List Int} {x:cv} {f:aO} {e:Int} (_h1:100≤K) (hT:Gi K m) (h:fO m locals x=(f,e)):f.results.length≤K:=by
 have hfun:∀g,gK m x.a=some g→g∈m.types:=fun g hg=>by
  unfold gK at hg
  cases ha:cJ (gL m) x.a with
  |none=>rw[ha]at hg;cases hg
  |some t=>rw[ha]at hg;exact nf hg
 have hs:=Hi x.op
 unfold fO dZ bZ eQ dt dr at h
 dsimp only at h
 repeat' split at h
 all_goals cases h
 all_goals first
  |(dsimp only[dF,List.length_cons,List.length_nil];omega)
  |(have:=hT _ (hfun _ Pc);omega)
  |(have:=hT _ (nf Pc);dsimp only;omega)
  |omega
theorem DP {K:Nat} (results:List Int) (h:results.length≤K):km K 0 (jP results):=by
 refine⟨G1 _,rfl,by unfold ck.Fit;exact Pu _,fun f hf=>?_,Px 0⟩
 have:f=⟨0,[],results,false,true⟩:=by simpa[jP]using hf
 subst this
 exact⟨Nat.zero_le _,h⟩
def nX (m:af) (i:Int):Option aO:=match cJ m.funcs i with|none=>none|some c=>cJ m.types c.dI
def kr (m:af) (i:Int) (f:aO):List Int:=f.params++(ix m.funcs i.toNat).locals
section
variable (m:af) (locals:List Int) (xs:List cv)
def Dv:Nat→Nat→dv→Int×Int
 |0,_,_=>(0,0)
 |n+1,k,c=>if(fD c m locals (ix xs k)).2≠0 then(k,(fD c m locals (ix xs k)).2)else if dB (fD c m locals (ix xs k)).1.ao then(k,6)else Dv n (k+1) (fD c m locals (ix xs k)).1
def A0:Nat→Nat→dv→List (Bool×List Int)
 |0,_,_=>[]
 |n+1,k,c=>(c.live,c.ao.ts)::A0 n (k+1) (fD c m locals (ix xs k)).1
end
structure pO (K:Nat) (results:List Int) (k:Nat) (c:dv):Prop where
 wf:c.Wf
 bk:c.broken=0
 fit:c.ao.Fit
 fr:Cp K c.fs
 ov:c.ao.bR≤256
 fs:c.fs.length≤k+1
 rs:c.results=results
theorem pO.new {K:Nat} (results:List Int) (h:results.length≤K):pO K results 0 (jP results):=by
 have h1:=DP results h
 exact⟨h1.wf,h1.bk,h1.fit,h1.fr,Pu _,Px 1,rfl⟩
theorem pO.ka {c:dv} (h:pO K results k c):km K 256 c:=⟨h.wf,h.bk,h.fit,h.fr,PE h.fit h.ov⟩
theorem pO.bounds {c:dv} (h:pO K results k c) {m:af} {locals:List Int} {x:cv} (hT:Gi K m) (hK:100≤K) (_hK2:K≤1048576) (hr:results.length≤K) (_hk:k≤900) (_hll:x.labels.length≤1048576):IJ c m locals x:=by
 have hts:c.ao.ts.length≤256:=PE h.fit h.ov
 have hfs:=h.fs
 refine⟨by omega,by omega,by rw[h.rs];omega,fun n=>PE (h.fr.label n) Pi,PE h.fr.top.1 Pi,PE h.fr.top.2 Pi,by omega,fun f hf=>?_,?_⟩
 ·have:=(n9 Pi hT hf).1;omega
 ·obtain⟨r,hr⟩:∃r,fO m locals x=r:=⟨_,rfl⟩
  obtain⟨f,e⟩:=r
  have:=qi hK hT hr
  rw[hr];dsimp only;omega
theorem pO.next {c:dv} (h:pO K results k c) {m:af} {locals:List Int} {x:cv} (hT:Gi K m) (hK:100≤K) (e:(fD c m locals x).2=0) (ho:dB (fD c m locals x).1.ao=false):pO K results (k+1) (fD c m locals x).1:=by
 obtain⟨h1,h2,h3,-⟩:=qB h.ka (m:=m) (locals:=locals) (x:=x) Pi (fun f hf=>n9 Pi hT hf) (by
  obtain⟨r,hr⟩:∃r,fO m locals x=r:=⟨_,rfl⟩
  obtain⟨f,e⟩:=r
  rw[hr];exact qi hK hT hr) e
 have hfs:=h.fs
 have hov:¬256<(fD c m locals x).1.ao.bR:=of_decide_eq_false ho
 exact⟨h1.wf,h1.bk,h1.fit,h1.fr,by omega,by omega,by rw[←h.rs];exact h2⟩
theorem B8 (sp:Nat) (s:ck) (x:Value×Value) (w:World) (hw:Ok (aX sp s x) [] w) (hp:0<s.ps.length):Calls G.P 33 #[.pointer (some ⟨sp,0,none⟩)] w fun e w'=>e=.returned (.bool (dB s))∧Ext w w':=by
 obtain⟨v1,v2⟩:=x;obtain⟨⟨p1,c1,e1,hcap,hg1⟩,⟨p2,c2,e2,hg2⟩,hn1,hn2⟩:=yW sp s (v1,v2) hw (Pv.refl _);dsimp only at e1 e2;subst e1;subst e2;obtain⟨g2,rfl⟩:=hg2 hp
 have k1:w.cell? ⟨sp,1,none⟩=some (.slice (some ⟨g2,0,none⟩) s.ps.length c2):=hw.c1 (T:=jE) (cs:=[.slice p1 s.ts.length c1,.slice (some ⟨g2,0,none⟩) s.ps.length c2,.bool (dB s)]) Up.head rfl
 have k2:w.cell? ⟨sp,2,none⟩=some (.bool (dB s)):=hw.c1 (T:=jE) (cs:=[.slice p1 s.ts.length c1,.slice (some ⟨g2,0,none⟩) s.ps.length c2,.bool (dB s)]) Up.head rfl
 refine ae (l:=[_]) func33 rfl ntmps33 rfl (Ok.start w) ?_
 repeat'(first|refine ar ?_|refine N3 ?_|fail)
 all_goals first|omega|exact ah.aG rfl rfl fun w' hw'=>⟨rfl,hw'.at⟩
theorem BM (s:ck) (y:jT) (w:World) (h:bw s F w y):Calls G.P 38 #[.agg (gw s y).toArray] w fun e w'=>e=.returned (.bool (dB s))∧Ext w w':=by
 obtain⟨p1,c1,p2,c2,p3,c3,rfl,-⟩:=h.gx
 refine ae (l:=[_]) func38 rfl ntmps38 rfl (Ok.start w) ?_
 dsimp only[gw]
 repeat'(first|refine ar ?_|(refine aF fun b_=>?_)|fail)
 all_goals exact ah.aG rfl rfl fun w' hw'=>⟨by rw[show decide ((256:Int)<(s.bR:Int))=dB s from by unfold dB;exact decide_eq_decide.2 Pi],hw'.at⟩
theorem Up.J8 {q q':bu} {M M':List bu} (h:Up q q' M M'):q'∈M':=by induction h with|head=>simp|tail _ ih=>simp[ih]
theorem Fl {D:Nat→Prop} {w:World} {p:Option Addr} {c:Nat} {ys:List Int} {M:List bu} {R:List (World→Prop)} (hw:Ok M R w) (hI:∀w,Ok M R w→ai D w (.slice p ys.length c) ys):ys.length=0∨∃bk o,p=some ⟨bk,o,none⟩∧∀w',Ok M R w'→∀j u,(aY ys)[j]?=some u→w'.cell? ⟨bk,o+j,none⟩=some u:=by
 rcases tL (hI w hw)with h|⟨bk,o,rfl,-⟩
 ·exact .inl h
 ·refine .inr ⟨bk,o,rfl,fun w' hw' j u hj=>?_⟩
  rcases tL (hI w' hw')with h|⟨bk',o',e,h⟩
  ·rw[Qc h]at hj;simp[aY]at hj
  ·cases e;exact h j u hj
section
variable {n:Nat} {E:Env} {M:List bu} {R:List (World→Prop)} {v:Value} {x y:Operand} {t:TypeId}
theorem HE.zw {Mf:Value→List bu} {ti te:TI} {B T m c:Nat} {D:Nat→Prop} {po:Option Addr} {xs:List Value} (ys:List Int) (hx:ev E x=some v) (hy:ev E y=some (.slice po ys.length c)) (hM:∀v',Up (.own B T 1 v m xs) (.own B T 1 v' (m+ys.length) (xs++aY ys)) M (Mf v'))
  (hI:∀w,Ok M R w→ai D w (.slice po ys.length c) ys)
  (ht:G.ty t=some ti) (he:ti.elem=some T) (hte:G.ty T=some te) (hs:te.size=1) (hzs:Nat.beq te.zero.cells.size te.size=true) (hsz:Nat.blt 0 te.size=true) (hby:(m+ys.length)*te.bytes≤140737488355328) (hml:m+ys.length≤9223372036854775807) (hB:∀w,Ok M R w→B≤w.heap.size):
  HE n (.call ⟨.builtin .append,#[x,y],#[t,t]⟩) E M R (fun v':Value=>∃p c,v'=.slice p (m+ys.length) c) (fun v'=>v') Mf (fun _=>R):=
 ⟨fun w hw=>((HE.gR (aY ys) hx hy hM (Fl hw hI) Pg ht he hte hs hzs hsz (Et ys) hby hml hB).h w hw).mono fun v' w' ⟨x,_,e,h⟩=>by
  subst e
  refine⟨v',?_,rfl,h⟩
  obtain⟨p,c,e,_⟩:=aw (show w'.ownsRow B T 1 v' _ _ from(h.m _ (hM v').J8).1)
  exact⟨p,c,e⟩⟩
end
structure sw (m:af):Prop where
 ty:Gi 1048576 m
 loc:∀j,j<m.funcs.length→(ix m.funcs j).locals.length≤400
 len:∀j,j<m.funcs.length→(ix m.funcs j).body.length≤400
 kU:∀j,j<m.funcs.length→∀k,k<(ix m.funcs j).body.length→(ix (ix m.funcs j).body k).labels.length≤1048576
def nU (m:af) (i:Int):Option (List Int):=(nX m i).map (kr m i)
theorem yY {m:af} {j:Nat} (h:j<m.funcs.length):nX m (j:Int)=cJ m.types (ix m.funcs j).dI:=by unfold nX;rw[jV h]
theorem vC {m:af} {i:Int} (h:¬(0≤i∧i<m.funcs.length)):nX m i=none:=by unfold nX;rw[iN h]
theorem m6 {m:af} {i:Int} {f:aO} (h:nX m i=some f):f∈m.types∧∃j:Nat,i=j∧j<m.funcs.length:=by
 by_cases hin:0≤i∧i<m.funcs.length
 ·obtain⟨j,rfl⟩:=PJ hin.1
  have hj:j<m.funcs.length:=by omega
  rw[yY hj]at h
  exact⟨nf h,j,rfl,hj⟩
 ·rw[vC hin]at h;cases h
theorem tA (B:Nat) (m:af) (cs:List Value) (sv:Value) (i:Int) (w:World) (hm:au F w cs m) (hs:bK B m w sv):Calls G.P 28 #[.agg cs.toArray,sv,.int .i64 i] w (iV (nX m i) (fun _=>False) w):=by
 have hs0:=hs
 obtain⟨bS,sp,im,dm,vs,tc,ig,dg,rfl,-,hs⟩:=hs
 obtain⟨v0,v1,v2,v3,v4,v5,v6,v7,v8,v9,rfl,r0,r1,r2,r3,r4,r5,r6,r7,r8,r9,g0⟩:=hm;obtain⟨p0,c0,rfl,l0⟩:=r0.slice;obtain⟨p1,c1,rfl,l1⟩:=r1.slice;obtain⟨p2,c2,rfl,l2⟩:=r2.slice;obtain⟨p3,c3,rfl,l3⟩:=r3.slice;obtain⟨p4,c4,rfl,l4⟩:=r4.slice;obtain⟨p5,c5,rfl,l5⟩:=r5.slice;obtain⟨p6,c6,rfl,l6⟩:=r6.slice;obtain⟨p7,c7,rfl,l7⟩:=r7.slice;obtain⟨p8,c8,rfl,l8⟩:=r8.slice;obtain⟨p9,c9,rfl,l9⟩:=r9.slice
 by_cases hin:0≤i∧i<m.funcs.length
 ·obtain⟨j,rfl⟩:=PJ hin.1
  have hj:j<m.funcs.length:=by omega
  obtain⟨b,o,rfl,hF9,cs5,⟨u0,u1,rfl,q0,q1,q2⟩,hc⟩:=r2.el hj;obtain⟨x0,y0,rfl,z0⟩:=q0.slice;obtain⟨x1,y1,rfl,z1⟩:=q1.slice
  rw[yY hj]
  have hty:=fun w' hw'=>kf B m (.pointer (some ⟨bS,0,none⟩)) (ix m.funcs j).dI w' hw'
  generalize cJ m.types (ix m.funcs j).dI=r at hty ⊢
  refine ae (l:=[_,_,_]) func28 rfl ntmps28 rfl (Ok.start w) ?_
  refine MQ ?_
  repeat'(first|refine ar ?_|(refine NZ fun b_=>?_)|refine OD ?_|(refine aa.aE ?_;refine aa.yg Pk (Yl.pf underlying39 rfl rfl) rfl ?_)|(refine aa.aj (f:=43) ?_;refine aa.he (HE.mV ak rfl rfl (fun w' hw'=>hty w' (hs0.aN (show Ext w w' from hw'.at) (fun _ _ h=>h)))) rfl ?_;rintro⟨D_,p_,c_,q_,d_⟩ hD_;dsimp only)|(refine bC ?_ ?_<;>intro hc_))
  all_goals first|omega|exact ah.aM (.inl rfl) rfl rfl rfl rfl rfl aH rfl rfl fun w' hw'=>bD.jl (f0:=r.getD dF) (tf:=fun x:Value×Value=>.tuple #[.agg #[x.1,x.2],.bool r.isSome]) ⟨D_,p_,c_,q_,d_⟩ hw' ak ak hD_
 ·rw[vC hin]
  refine ae (l:=[_,_,_]) func28 rfl ntmps28 rfl (Ok.start w) ?_
  repeat'(first|refine ar ?_|(refine NZ fun b_=>?_)|refine OD ?_|(refine aa.aE ?_;refine aa.yg Pk (Yl.pf underlying39 rfl rfl) rfl ?_)|(refine bC ?_ ?_<;>intro hc_))
  all_goals exact qr
theorem oW (m:af) (cs:List Value) (i:Int) (w:World) (hm:au F w cs m) (hF:∀k,F k→k<w.heap.size):Calls G.P 29 #[.agg cs.toArray,.int .i64 i] w (iV (nX m i) F w):=by
 have hm0:=hm
 obtain⟨v0,v1,v2,v3,v4,v5,v6,v7,v8,v9,rfl,r0,r1,r2,r3,r4,r5,r6,r7,r8,r9,g0⟩:=hm;obtain⟨p0,c0,rfl,l0⟩:=r0.slice;obtain⟨p1,c1,rfl,l1⟩:=r1.slice;obtain⟨p2,c2,rfl,l2⟩:=r2.slice;obtain⟨p3,c3,rfl,l3⟩:=r3.slice;obtain⟨p4,c4,rfl,l4⟩:=r4.slice;obtain⟨p5,c5,rfl,l5⟩:=r5.slice;obtain⟨p6,c6,rfl,l6⟩:=r6.slice;obtain⟨p7,c7,rfl,l7⟩:=r7.slice;obtain⟨p8,c8,rfl,l8⟩:=r8.slice;obtain⟨p9,c9,rfl,l9⟩:=r9.slice
 by_cases hin:0≤i∧i<m.funcs.length
 ·obtain⟨j,rfl⟩:=PJ hin.1
  have hj:j<m.funcs.length:=by omega
  have hty:=fun t w' hw'=>iJ F m t ([Pn p0 m.types.length c0,Pn p1 m.imports.length c1,Pn p2 m.funcs.length c2,Pn p3 m.tables.length c3,Pn p4 m.bQ.length c4,Pn p5 m.globals.length c5,Pn p6 m.aJ.length c6,Po m.aI,Pm .i64 m.start,Pn p7 m.elems.length c7,Pn p8 m.bg.length c8,Pn p9 m.bE.length c9]:List Value) w' hw'
  obtain⟨b,o,rfl,hF9,cs5,⟨u0,u1,rfl,q0,q1,q2⟩,hc⟩:=r2.el hj;obtain⟨x0,y0,rfl,z0⟩:=q0.slice;obtain⟨x1,y1,rfl,z1⟩:=q1.slice
  rw[yY hj]
  replace hty:=hty (ix m.funcs j).dI
  generalize cJ m.types (ix m.funcs j).dI=r at hty ⊢
  refine ae (l:=[_,_]) func29 rfl ntmps29 rfl (Ok.start w) ?_
  refine bh.lj (Cs b (o+j*3) [.int .i64 (ix m.funcs j).dI,.slice x0 (ix m.funcs j).locals.length y0,.slice x1 (ix m.funcs j).body.length y1]) (jr hc rfl ak) ?_
  repeat'(first|refine ar ?_|(refine aF fun b_=>?_)|(refine bC ?_ ?_<;>intro hc_))
  obtain⟨bm,rfl⟩:∃y:Nat,y=b_:=⟨_,rfl⟩
  repeat'(first|refine ar ?_|(refine ay fun b_=>?_)|(refine oy fun b_=>?_)|(refine bC ?_ ?_<;>intro hc_))
  all_goals first|omega|skip
  refine bh.cI [.aW bm ([Pn p0 m.types.length c0,Pn p1 m.imports.length c1,Pn (some ⟨b,o,none⟩) m.funcs.length c2,Pn p3 m.tables.length c3,Pn p4 m.bQ.length c4,Pn p5 m.globals.length c5,Pn p6 m.aJ.length c6,Po m.aI,Pm .i64 m.start,Pn p7 m.elems.length c7,Pn p8 m.bg.length c8,Pn p9 m.bE.length c9]:List Value) jI] [Cs b (o+j*3) [.int .i64 (ix m.funcs j).dI,.slice x0 (ix m.funcs j).locals.length y0,.slice x1 (ix m.funcs j).body.length y1],Ext w] bz aU ?_
  repeat'(first|refine pN ?_|(refine ax.dA 44 ?_;refine ax.he rfl rfl (HE.ze (F:=F) ak hF rfl rfl (fun w' hw'=>hty w' (hm0.aN (show Ext w w' from hw'.at) (fun _ _ _ h=>h)))) (fun _=>bz) (fun _=>aU) ?_;rintro⟨D_,p_,c_,q_,d_⟩ hD_;dsimp only)|(refine ax.nj ?_;refine ax.jO rfl (gj.bn _ rfl rfl rfl rfl rfl rfl aH rfl) (fun _=>bz) (fun _=>aU) ?_;rintro⟨⟩ _)|refine aP.nil O9 ?_|refine aP.any O9 ?_|exact aB.fin rfl|refine aB.skip O9 ?_|refine aB.go ?_ ?_)
  all_goals repeat'(first|refine ar ?_|(refine bC ?_ ?_<;>intro hc_))
  all_goals exact ah.aM (.inl rfl) rfl rfl rfl rfl rfl aH rfl rfl fun w' hw'=>bD.jl (f0:=r.getD dF) (tf:=fun x:Value×Value=>.tuple #[.agg #[x.1,x.2],.bool r.isSome]) ⟨D_,p_,c_,q_,d_⟩ hw' ak ak hD_
 ·rw[vC hin]
  refine ae (l:=[_,_]) func29 rfl ntmps29 rfl (Ok.start w) ?_
  repeat'(first|refine ar ?_|(refine NZ fun b_=>?_)|(refine bC ?_ ?_<;>intro hc_))
  all_goals exact qr
def lM (r:Option (List Int)) (w:World):Ending→World→Prop:=gD w (fun u:Value=>.tuple #[u,.bool r.isSome]) (fun u=>[.own 0 fR 1 u (r.getD []).length (aY (r.getD []))])
theorem oa (B:Nat) (m:af) (cs:List Value) (sv:Value) (i:Int) (w:World) (hm:au F w cs m) (hs:bK B m w sv) (hB:sw m):Calls G.P 12 #[.agg cs.toArray,sv,.int .i64 i] w (lM (nU m i) w):=by
 have hm0:=hm
 obtain⟨v0,v1,v2,v3,v4,v5,v6,v7,v8,v9,rfl,r0,r1,r2,r3,r4,r5,r6,r7,r8,r9,g0⟩:=hm;obtain⟨p0,c0,rfl,l0⟩:=r0.slice;obtain⟨p1,c1,rfl,l1⟩:=r1.slice;obtain⟨p2,c2,rfl,l2⟩:=r2.slice;obtain⟨p3,c3,rfl,l3⟩:=r3.slice;obtain⟨p4,c4,rfl,l4⟩:=r4.slice;obtain⟨p5,c5,rfl,l5⟩:=r5.slice;obtain⟨p6,c6,rfl,l6⟩:=r6.slice;obtain⟨p7,c7,rfl,l7⟩:=r7.slice;obtain⟨p8,c8,rfl,l8⟩:=r8.slice;obtain⟨p9,c9,rfl,l9⟩:=r9.slice
 cases ht:nX m i with
 |none=>
  rw[show nU m i=none from by unfold nU;rw[ht];rfl]
  unfold lM gD
  dsimp only[Option.getD,Option.isSome]
  refine ae (l:=[_,_,_]) func12 rfl ntmps12 rfl (Ok.start w) ?_
  repeat'(first|refine ar ?_|(refine NZ fun b_=>?_)|(refine aa.aj (f:=28) ?_;refine aa.he (HE.mV (r:=none) ak rfl rfl (fun w' hw'=>by have:=tA F B m ([Pn p0 m.types.length c0,Pn p1 m.imports.length c1,Pn p2 m.funcs.length c2,Pn p3 m.tables.length c3,Pn p4 m.bQ.length c4,Pn p5 m.globals.length c5,Pn p6 m.aJ.length c6,Po m.aI,Pm .i64 m.start,Pn p7 m.elems.length c7,Pn p8 m.bg.length c8,Pn p9 m.bE.length c9]:List Value) sv i w' (hm0.aN (show Ext w w' from hw'.at) (fun _ _ _ h=>h)) (hs.aN (show Ext w w' from hw'.at) (fun _ _ h=>h));rw[ht]at this;exact this)) rfl ?_;rintro⟨D_,p_,c_,q_,d_⟩ hD_;dsimp only)|fail)
  all_goals exact GE
 |some f=>
  rw[show nU m i=some (kr m i f)from by unfold nU;rw[ht];rfl]
  unfold lM gD
  dsimp only[Option.getD,Option.isSome]
  obtain⟨hf,j,rfl,hj⟩:=m6 ht
  have hfl:=(hB.ty f hf).1
  have hll:=hB.loc j hj
  obtain⟨b,o,rfl,hF9,cs5,⟨u0,u1,rfl,q0,q1,q2⟩,hc⟩:=r2.el hj;obtain⟨x0,y0,rfl,z0⟩:=q0.slice;obtain⟨x1,y1,rfl,z1⟩:=q1.slice
  refine ae (l:=[_,_,_]) func12 rfl ntmps12 rfl (Ok.start w) ?_
  refine MQ ?_
  repeat'(first|refine ar ?_|(refine NZ fun b_=>?_)|(refine aa.aj (f:=28) ?_;refine aa.he (HE.mV (r:=some f) ak rfl rfl (fun w' hw'=>by have:=tA F B m ([Pn p0 m.types.length c0,Pn p1 m.imports.length c1,Pn (some ⟨b,o,none⟩) m.funcs.length c2,Pn p3 m.tables.length c3,Pn p4 m.bQ.length c4,Pn p5 m.globals.length c5,Pn p6 m.aJ.length c6,Po m.aI,Pm .i64 m.start,Pn p7 m.elems.length c7,Pn p8 m.bg.length c8,Pn p9 m.bE.length c9]:List Value) sv j w' (hm0.aN (show Ext w w' from hw'.at) (fun _ _ _ h=>h)) (hs.aN (show Ext w w' from hw'.at) (fun _ _ h=>h));rw[ht]at this;exact this)) rfl ?_;rintro⟨D_,p_,c_,q_,d_⟩ hD_;dsimp only)|fail)
  refine aa.iP 0 fR 1 ?_
  refine aa.he (HE.zw f.params rfl rfl (fun _=>aH) (fun w' hw'=>(hw'.get (p:=sZ ((some f).getD dF) ⟨D_,p_,c_,q_,d_⟩) ak).1) rfl rfl rfl Pk Pk Pk OW Pi (fun _ _=>Pu _)) rfl ?_
  simp only[Ps,Pp]
  rintro _ ⟨p5,c5,rfl⟩
  repeat'(first|refine ar ?_|fail)
  refine aa.he (HE.zw (ix m.funcs j).locals rfl rfl (fun _=>aH) (fun w' hw'=>q0.aN (show Ext w w' from hw'.at) (fun _ _ _ h=>h)) rfl rfl rfl Pk Pk Pk (by show(f.params.length+(ix m.funcs j).locals.length)*8≤_;omega) Pi (fun _ _=>Pu _)) rfl ?_
  rintro _ ⟨p6,c6,rfl⟩
  repeat'(first|refine ar ?_|fail)
  exact GT
theorem nz (m:af) (cs:List Value) (i:Int) (w:World) (hm:au F w cs m) (hF:∀k,F k→k<w.heap.size) (hB:sw m):Calls G.P 13 #[.agg cs.toArray,.int .i64 i] w (lM (nU m i) w):=by
 have hm0:=hm
 obtain⟨v0,v1,v2,v3,v4,v5,v6,v7,v8,v9,rfl,r0,r1,r2,r3,r4,r5,r6,r7,r8,r9,g0⟩:=hm;obtain⟨p0,c0,rfl,l0⟩:=r0.slice;obtain⟨p1,c1,rfl,l1⟩:=r1.slice;obtain⟨p2,c2,rfl,l2⟩:=r2.slice;obtain⟨p3,c3,rfl,l3⟩:=r3.slice;obtain⟨p4,c4,rfl,l4⟩:=r4.slice;obtain⟨p5,c5,rfl,l5⟩:=r5.slice;obtain⟨p6,c6,rfl,l6⟩:=r6.slice;obtain⟨p7,c7,rfl,l7⟩:=r7.slice;obtain⟨p8,c8,rfl,l8⟩:=r8.slice;obtain⟨p9,c9,rfl,l9⟩:=r9.slice
 cases ht:nX m i with
 |none=>
  rw[show nU m i=none from by unfold nU;rw[ht];rfl]
  unfold lM gD
  dsimp only[Option.getD,Option.isSome]
  refine ae (l:=[_,_]) func13 rfl ntmps13 rfl (Ok.start w) ?_
  repeat'(first|refine ar ?_|(refine NZ fun b_=>?_)|(refine aa.aj (f:=29) ?_;refine aa.he (HE.ze (F:=F) (r:=none) ak hF rfl rfl (fun w' hw'=>by have:=oW F m ([Pn p0 m.types.length c0,Pn p1 m.imports.length c1,Pn p2 m.funcs.length c2,Pn p3 m.tables.length c3,Pn p4 m.bQ.length c4,Pn p5 m.globals.length c5,Pn p6 m.aJ.length c6,Po m.aI,Pm .i64 m.start,Pn p7 m.elems.length c7,Pn p8 m.bg.length c8,Pn p9 m.bE.length c9]:List Value) i w' (hm0.aN (show Ext w w' from hw'.at) (fun _ _ _ h=>h)) (fun k hk=>PB (hF k hk) (show Ext w w' from hw'.at).size);rw[ht]at this;exact this)) rfl ?_;rintro⟨D_,p_,c_,q_,d_⟩ hD_;dsimp only)|fail)
  all_goals exact GE
 |some f=>
  rw[show nU m i=some (kr m i f)from by unfold nU;rw[ht];rfl]
  unfold lM gD
  dsimp only[Option.getD,Option.isSome]
  obtain⟨hf,j,rfl,hj⟩:=m6 ht
  have hfl:=(hB.ty f hf).1
  have hll:=hB.loc j hj
  obtain⟨b,o,rfl,hF9,cs5,⟨u0,u1,rfl,q0,q1,q2⟩,hc⟩:=r2.el hj;obtain⟨x0,y0,rfl,z0⟩:=q0.slice;obtain⟨x1,y1,rfl,z1⟩:=q1.slice
  refine ae (l:=[_,_]) func13 rfl ntmps13 rfl (Ok.start w) ?_
  refine MQ ?_
  repeat'(first|refine ar ?_|(refine NZ fun b_=>?_)|(refine aa.aj (f:=29) ?_;refine aa.he (HE.ze (F:=F) (r:=some f) ak hF rfl rfl (fun w' hw'=>by have:=oW F m ([Pn p0 m.types.length c0,Pn p1 m.imports.length c1,Pn (some ⟨b,o,none⟩) m.funcs.length c2,Pn p3 m.tables.length c3,Pn p4 m.bQ.length c4,Pn p5 m.globals.length c5,Pn p6 m.aJ.length c6,Po m.aI,Pm .i64 m.start,Pn p7 m.elems.length c7,Pn p8 m.bg.length c8,Pn p9 m.bE.length c9]:List Value) j w' (hm0.aN (show Ext w w' from hw'.at) (fun _ _ _ h=>h)) (fun k hk=>PB (hF k hk) (show Ext w w' from hw'.at).size);rw[ht]at this;exact this)) rfl ?_;rintro⟨D_,p_,c_,q_,d_⟩ hD_;dsimp only)|fail)
  refine aa.iP 0 fR 1 ?_
  refine aa.he (HE.zw f.params rfl rfl (fun _=>aH) (fun w' hw'=>(hw'.get (p:=sZ ((some f).getD dF) ⟨D_,p_,c_,q_,d_⟩) ak).1) rfl rfl rfl Pk Pk Pk OW Pi (fun _ _=>Pu _)) rfl ?_
  simp only[Ps,Pp]
  rintro _ ⟨p5,c5,rfl⟩
  repeat'(first|refine ar ?_|fail)
  refine aa.he (HE.zw (ix m.funcs j).locals rfl rfl (fun _=>aH) (fun w' hw'=>q0.aN (show Ext w w' from hw'.at) (fun _ _ _ h=>h)) rfl rfl rfl Pk Pk Pk (by show(f.params.length+(ix m.funcs j).locals.length)*8≤_;omega) Pi (fun _ _=>Pu _)) rfl ?_
  rintro _ ⟨p6,c6,rfl⟩
  repeat'(first|refine ar ?_|fail)
  exact GT
theorem Ok.Lo {S:Nat→Prop} {w w':World} (h:Ok M [] w) (hc:bX S w w') (hd:∀k,k<w.heap.size→Mb M k→¬S k):Ok M [] w':=
 ⟨fun q hq=>⟨q.st (h.m q hq).1 hc (fun k hk hF=>hd k hk ⟨q,hq,hF⟩),fun k hk=>PB ((h.m q hq).2 k hk) hc.size⟩,h.d,fun p hp=>by cases hp⟩
def bu.pack (L:List bu):bu:=⟨Mb L,fun w=>Ok L [] w,fun h hc hd=>h.Lo hc hd⟩
section
variable {L M M':List bu} {R R':List (World→Prop)} {w:World}
theorem Ok.pack (h:Ok (L++M) R w):Ok (bu.pack L::M) R w:=by
 have hd:=List.pairwise_append.1 h.d
 refine h.step (bX.refl _ w) (fun q hq=>?_) (P0.2 ⟨fun x hx k hk=>?_,hd.2.1⟩) (fun k hk _=>?_)
 ·rcases PF.1 hq with rfl|hq
  ·exact⟨h.sub (Qd _ _) (fun p hp=>by cases hp),fun k ⟨q,hq,hk⟩=>(h.m q (PI.2 (.inl hq))).2 k hk⟩
  ·exact h.m q (PI.2 (.inr hq))
 ·obtain⟨q,hq,hk⟩:=hk
  exact hd.2.2 q hq x hx k hk
 ·obtain⟨q,hq,hk⟩:=hk
  rcases PF.1 hq with rfl|hq
  ·obtain⟨q,hq,hk⟩:=hk
   exact⟨q,PI.2 (.inl hq),hk⟩
  ·exact⟨q,PI.2 (.inr hq),hk⟩
theorem Ok.unpack (h:Ok (bu.pack L::M) R w):Ok (L++M) R w:=by
 have hp:Ok L [] w:=(h.m (bu.pack L) Pj).1
 have hd:=P0.1 h.d
 refine h.step (bX.refl _ w) (fun q hq=>?_) (List.pairwise_append.2 ⟨hp.d,hd.2,fun a ha b hb k h1 h2=>hd.1 b hb k ⟨a,ha,h1⟩ h2⟩) (fun k hk _=>?_)
 ·rcases PI.1 hq with hq|hq
  ·exact hp.m q hq
  ·exact h.m q (by simp[hq])
 ·obtain⟨q,hq,hk⟩:=hk
  rcases PI.1 hq with hq|hq
  ·exact⟨bu.pack L,by simp,q,hq,hk⟩
  ·exact⟨q,by simp[hq],hk⟩
variable {ops:Array Oper} {Q:Exit→Act→World→Prop} {n:Nat} {l:List Oper} {E:Env}
theorem aa.map (hp:∀w,Ok M R w→Ok M' R' w) (h:aa ops Q n l E M' R'):aa ops Q n l E M R:=⟨fun w hw=>h.h w (hp w hw)⟩
theorem bh.map {c:Code} (hp:∀w,Ok M R w→Ok M' R' w) (h:bh Q n c E M' R'):bh Q n c E M R:=⟨fun w hw=>h.h w (hp w hw)⟩
end
def tu (m:af) (i:Int):Int×Int:=match nX m i with
 |none=>(0,11)
 |some f=>if(fN (ix m.funcs i.toNat).body).2≠0 then fN (ix m.funcs i.toNat).body else Dv m (kr m i f) (ix m.funcs i.toNat).body (ix m.funcs i.toNat).body.length 0 (jP f.results)
def Hw (m:af) (i:Int):List (Bool×List Int):=match nX m i with
 |none=>[]
 |some f=>A0 m (kr m i f) (ix m.funcs i.toNat).body (ix m.funcs i.toNat).body.length 0 (jP f.results)
theorem EM {w0 w:World} {B:Nat} {m:af} {sv lv tv bv:Value} {locals:List Int} {x:cv} (h:Ok M R w) (hR:Ext w0∈R) (h0:fK w0) (hs:bK B m w0 sv) (hl:(fun w=>ai (fun _=>True) w lv locals)∈R) (ht:ai (fun _=>True) w0 tv x.types) (hb:ai (fun _=>True) w0 bv x.labels):Ok M (qm B (fun _=>True) m sv locals lv x tv bv) w:=by
 refine⟨h.m,h.d,fun p hp w2 h2=>?_⟩
 have hx:Ext w0 w2:=h.r _ hR w2 h2
 simp only[qm,PF,List.not_mem_nil,or_false]at hp
 rcases hp with rfl|rfl|rfl|rfl|rfl
 ·exact h0.ext hx
 ·exact hs.aN hx (fun _ _ h=>h)
 ·exact h.r _ hl w2 h2
 ·exact ht.aN hx (fun _ _ _ h=>h)
 ·exact hb.aN hx (fun _ _ _ h=>h)
def EE {σ:Type} (A:σ→bu) (L:σ→List (Bool×List Int)) (g:Nat) (cap:List Value):Prop:=
 ∀(s:σ) (cp:Nat) (c:dv) (v:jF) (w:World),Ok (aT cp c v++[A s]) [] w→v.Good c→c.Wf→c.broken=0→c.ao.ts.length≤256→(L s).length≤400→Calls G.P g (([.pointer (some ⟨cp,0,none⟩)]:List Value)++cap).toArray w (aC (aT cp c v++[A s]) w (fun _:σ=>.tuple #[]) (fun s'=>L s'=L s++[(c.live,c.ao.ts)]) (fun s'=>aT cp c v++[A s']))
theorem zM {m:af} {locals:List Int} {xs:List cv} {k:Nat} {c cC:dv} {e:Int} (_hk:k<xs.length) (h:fD c m locals (ix xs k)=(cC,e)):Dv m locals xs (xs.length - k) k c=if e≠0 then((k:Int),e)else if dB cC.ao then((k:Int),6)else Dv m locals xs (xs.length - (k+1)) (k+1) cC:=by
 obtain⟨n,hn⟩:∃n,xs.length - k=n+1:=⟨xs.length - k - 1,by omega⟩
 rw[hn,Dv,h,show xs.length - (k+1)=n by omega]
theorem AP {m:af} {locals:List Int} {xs:List cv} {k:Nat} {c cC:dv} {e:Int} (_hk:k<xs.length) (h:fD c m locals (ix xs k)=(cC,e)):A0 m locals xs (xs.length - k) k c=(c.live,c.ao.ts)::A0 m locals xs (xs.length - (k+1)) (k+1) cC:=by
 obtain⟨n,hn⟩:∃n,xs.length - k=n+1:=⟨xs.length - k - 1,by omega⟩
 rw[hn,A0,h,show xs.length - (k+1)=n by omega]
theorem pO.zf {c cC:dv} {e:Int} (h:pO K results k c) {m:af} {locals:List Int} {x:cv} (hT:Gi K m) (hK:100≤K) (hr:fD c m locals x=(cC,e)) (he:e=0):cC.Wf:=by
 have:=(qB h.ka (m:=m) (locals:=locals) (x:=x) Pi (fun f hf=>n9 Pi hT hf) (by
  obtain⟨r,hr⟩:∃r,fO m locals x=r:=⟨_,rfl⟩
  obtain⟨f,e⟩:=r
  rw[hr];exact qi hK hT hr) (by rw[hr];exact he)).1.wf
 rw[hr]at this;exact this
theorem oZ {m:af} {locals:List Int} {xs:List cv}:∀(n k:Nat) (c:dv),(A0 m locals xs n k c).length=n
 |0,_,_=>rfl
 |n+1,k,c=>by rw[A0,List.length_cons,oZ n]
theorem xd {σ:Type} (A:σ→bu) (L:σ→List (Bool×List Int)) (B:Nat) (m:af) (cs:List Value) (sv:Value) (i:Int) (g:Nat) (cap:List Value) (s0:σ) (w0 w:World) (hm:au (fun _=>True) w0 cs m) (hs:bK B m w0 sv) (h0:fK w0) (hB:sw m) (hg:G.fb[g]?=some true) (hE:EE A L g cap) (hs00:L s0=[]) (hw:Ok [A s0] [Ext w0] w):
  Calls G.P 18 #[.agg cs.toArray,sv,.int .i64 i,.func (.func g) #[] cap.toArray] w (aC [A s0] w (fun _:σ=>.tuple #[.int .i64 (tu m i).1,.int .i64 (tu m i).2]) (fun s=>(tu m i).2=0→L s=L s0++Hw m i) (fun s=>[A s])):=by
 have hm0:=hm
 have hs0:=hs
 have hloc:∀r,nX m i=r→nU m i=r.map (kr m i):=fun r h=>by unfold nU;rw[h]
 obtain⟨bS,sp,im,dm,vs,tc,ig,dg,rfl,-,hs⟩:=hs
 obtain⟨v0,v1,v2,v3,v4,v5,v6,v7,v8,v9,rfl,r0,r1,r2,r3,r4,r5,r6,r7,r8,r9,g0⟩:=hm;obtain⟨p0,c0,rfl,l0⟩:=r0.slice;obtain⟨p1,c1,rfl,l1⟩:=r1.slice;obtain⟨p2,c2,rfl,l2⟩:=r2.slice;obtain⟨p3,c3,rfl,l3⟩:=r3.slice;obtain⟨p4,c4,rfl,l4⟩:=r4.slice;obtain⟨p5,c5,rfl,l5⟩:=r5.slice;obtain⟨p6,c6,rfl,l6⟩:=r6.slice;obtain⟨p7,c7,rfl,l7⟩:=r7.slice;obtain⟨p8,c8,rfl,l8⟩:=r8.slice;obtain⟨p9,c9,rfl,l9⟩:=r9.slice
 cases ht:nX m i with
 |none=>
  have eC:tu m i=(0,11):=by unfold tu;rw[ht]
  rw[eC]
  refine ae (l:=[_,_,_,_]) func18 rfl ntmps18 rfl (Ok.dk hw) ?_
  repeat'(first|refine ar ?_|(refine aF fun b_=>?_)|refine OD ?_|fail)
  refine aa.he (HE.bJ (M0:=[]) nK.nil rfl rfl (fun w' hw'=>by have:=oa (fun _=>True) B m ([Pn p0 m.types.length c0,Pn p1 m.imports.length c1,Pn p2 m.funcs.length c2,Pn p3 m.tables.length c3,Pn p4 m.bQ.length c4,Pn p5 m.globals.length c5,Pn p6 m.aJ.length c6,Po m.aI,Pm .i64 m.start,Pn p7 m.elems.length c7,Pn p8 m.bg.length c8,Pn p9 m.bE.length c9]:List Value) _ i w' (hm0.aN (show Ext w0 w' from hw'.at) (fun _ _ _ h=>h)) (hs0.aN (show Ext w0 w' from hw'.at) (fun _ _ h=>h)) hB;unfold nU lM gD at this;rw[ht]at this;exact this)) rfl ?_
  rintro u _
  dsimp only[Pq,Pp,Option.map,Option.getD,Option.isSome]
  repeat'(first|refine ar ?_|fail)
  exact ah.ie rfl rfl rfl fun w' hw'=>aC.IG (x:=s0) (fun h=>absurd h Ph) hw' bz ak
 |some f=>
  obtain⟨hf,j,rfl,hj⟩:=m6 ht
  have hfl:=hB.ty f hf
  have hll:=hB.loc j hj
  have hlen:=hB.len j hj
  have hlab:=hB.kU j hj
  have eC:tu m j=if(fN (ix m.funcs j).body).2≠0 then fN (ix m.funcs j).body else Dv m (kr m j f) (ix m.funcs j).body (ix m.funcs j).body.length 0 (jP f.results):=by unfold tu;rw[ht];rfl
  have eS:Hw m j=A0 m (kr m j f) (ix m.funcs j).body (ix m.funcs j).body.length 0 (jP f.results):=by unfold Hw;rw[ht];rfl
  have hlocl:(kr m j f).length≤1048976:=by
   have:(kr m j f).length=f.params.length+(ix m.funcs j).locals.length:=by simp[kr]
   omega
  rw[eS]
  obtain⟨b,o,rfl,hF9,cs5,⟨u0,u1,rfl,q0,q1,q2⟩,hc⟩:=r2.el hj;obtain⟨x0,y0,rfl,z0⟩:=q0.slice;obtain⟨x1,y1,rfl,z1⟩:=q1.slice
  obtain⟨xs,hxs⟩:∃xs,(ix m.funcs j).body=xs:=⟨_,rfl⟩
  rw[hxs]at eC q1 hlen hlab hc ⊢
  refine ae (l:=[_,_,_,_]) func18 rfl ntmps18 rfl (Ok.dk hw) ?_
  refine MQ ?_
  repeat'(first|refine ar ?_|(refine aF fun b_=>?_)|refine OD ?_|fail)
  refine aa.he (HE.bJ (M0:=[]) nK.nil rfl rfl (fun w' hw'=>by have:=oa (fun _=>True) B m ([Pn p0 m.types.length c0,Pn p1 m.imports.length c1,Pn (some ⟨b,o,none⟩) m.funcs.length c2,Pn p3 m.tables.length c3,Pn p4 m.bQ.length c4,Pn p5 m.globals.length c5,Pn p6 m.aJ.length c6,Po m.aI,Pm .i64 m.start,Pn p7 m.elems.length c7,Pn p8 m.bg.length c8,Pn p9 m.bE.length c9]:List Value) _ j w' (hm0.aN (show Ext w0 w' from hw'.at) (fun _ _ _ h=>h)) (hs0.aN (show Ext w0 w' from hw'.at) (fun _ _ h=>h)) hB;unfold nU lM gD at this;rw[ht]at this;exact this)) rfl ?_
  rintro u _
  dsimp only[Pq,Pp,Option.map,Option.getD,Option.isSome]
  generalize kr m j f=locals at*
  refine aa.pure (φ:=∃p c,u=.slice p locals.length c) (fun w' hw'=>?_) ?_
  ·obtain⟨p,c,e,_⟩:=aw (hw'.own (v:=u));exact⟨p,c,e⟩
  rintro⟨lp,lc,rfl⟩
  refine aa.freeze (p:=fun w=>ai (fun _=>True) w (.slice lp locals.length lc) locals) Rm.head (fun w' h _=>(dK (h:w'.ownsRow 0 fR 1 _ _ _) Pi).mono (fun _ _ _=>trivial)) ?_
  by_cases hck:(fN xs).2=0
  case neg=>
   rw[if_pos hck]at eC
   rw[eC]
   repeat'(first|refine ar ?_|refine N6 ?_|fail)
   all_goals exact ah.ie rfl rfl rfl fun w' hw'=>aC.IG (x:=s0) (fun h=>absurd h hck) hw' bz ak
  rw[if_neg (by rw[hck];decide)]at eC
  rw[eC]
  repeat'(first|refine ar ?_|refine N6 ?_|(refine aa.aj (f:=28) ?_;refine aa.he (HE.ze (w0:=w0) (F:=fun _=>False) (r:=some f) ak (fun _ h=>h.elim) rfl rfl (fun w' hw'=>by have:=tA (fun _=>True) B m ([Pn p0 m.types.length c0,Pn p1 m.imports.length c1,Pn (some ⟨b,o,none⟩) m.funcs.length c2,Pn p3 m.tables.length c3,Pn p4 m.bQ.length c4,Pn p5 m.globals.length c5,Pn p6 m.aJ.length c6,Po m.aI,Pm .i64 m.start,Pn p7 m.elems.length c7,Pn p8 m.bg.length c8,Pn p9 m.bE.length c9]:List Value) _ j w' (hm0.aN (show Ext w0 w' from hw'.at) (fun _ _ _ h=>h)) (hs0.aN (show Ext w0 w' from hw'.at) (fun _ _ h=>h));rw[ht]at this;exact this)) rfl ?_;rintro⟨D_,p_,c_,q_,d_⟩ hD_;dsimp only)|(refine ay fun b_=>?_)|(refine oy fun b_=>?_)|fail)
  refine aa.he (HE.bJ (M0:=[]) nK.nil rfl rfl (fun w' hw'=>E5 D_ f.results (.slice q_ f.results.length d_) w' (hw'.get (p:=sZ ((some f).getD dF) ⟨D_,p_,c_,q_,d_⟩) ak).2)) rfl ?_
  rintro⟨cp,sp,tv,pv,bv,rv,fv,DC,LC⟩ hg0
  dsimp only[aT,aX,Pq,Pp]at hg0 ⊢
  repeat'(first|refine ar ?_|fail)
  refine bh.Fw (σ:=Nat×dv×jF×σ) (fun q=>[(1,.pointer (some ⟨bS,0,none⟩)),(3,.func (.func g) #[] cap.toArray),(10,.slice lp locals.length lc),(12,.slice x1 xs.length y1),(17,.pointer (some ⟨cp,0,none⟩)),(57,.int .i64 xs.length),(58,.int .i64 q.1)]) (fun q=>aT cp q.2.1 q.2.2.1++[A q.2.2.2]) (fun _=>[fun w=>ai (fun _=>True) w (.slice lp locals.length lc) locals,bX (Mb [A s0]) w,Ext w0]) (fun q=>q.1≤xs.length∧q.2.2.1.Good q.2.1∧pO 1048576 f.results q.1 q.2.1∧Dv m locals xs (xs.length - q.1) q.1 q.2.1=Dv m locals xs xs.length 0 (jP f.results)∧L q.2.2.2++A0 m locals xs (xs.length - q.1) q.1 q.2.1=L s0++A0 m locals xs xs.length 0 (jP f.results)) (fun q=>xs.length - q.1) (0,jP f.results,⟨sp,tv,pv,bv,rv,fv,DC,LC⟩,s0) bH ?_ aU ⟨Nat.zero_le _,hg0,pO.new f.results hfl.2,by rw[Nat.sub_zero],by rw[Nat.sub_zero]⟩ ?_
  ·dsimp only[aT,aX,Pq,Pp];exact dV
  rintro⟨k,c,⟨sp,tv,pv,bv,rv,fv,DC,LC⟩,s⟩ ⟨hk,hg1,hb,hgo,hL⟩
  dsimp only at hk hg1 hb hgo hL ⊢
  dsimp only[aT,aX,Pq,Pp]
  by_cases hlt:k<xs.length
  case neg=>
   obtain rfl:k=xs.length:=by omega
   rw[PU]at hgo hL
   rw[←hgo,show Dv m locals xs 0 xs.length c=(0,0)from rfl]
   repeat'(first|refine ar ?_|fail)
   all_goals first|omega|exact ah.ie rfl rfl rfl fun w' hw'=>aC.IG (x:=s) (fun _=>by rw[←hL];simp[A0]) hw' bz ak
  have hLl:(L s).length≤400:=by
   have:=congrArg List.length hL
   rw[hs00,Pp,Py,oZ,oZ]at this
   omega
  obtain⟨ib,io,rfl,-,hins⟩:=q1.at hlt
  obtain⟨pt,ct,pl,cl,hti,hli,hc9⟩:=(hins k hlt).cells
  have hll:=hlab k hlt
  obtain⟨rC,hrC⟩:∃r,fD c m locals (ix xs k)=r:=⟨_,rfl⟩
  obtain⟨cC,e⟩:=rC
  have hgs:=zM hlt hrC
  have hss:=AP hlt hrC
  rw[hss]at hL
  rw[hgo]at hgs
  have hB2:IJ c m locals (ix xs k):=hb.bounds hB.ty Ph Ph hfl.2 Pi hll
  have hnx:=fun(e0:e=0) (ho:dB cC.ao=false)=>hb.next (m:=m) (locals:=locals) (x:=ix xs k) hB.ty Ph (by rw[hrC];exact e0) (by rw[hrC];exact ho)
  rw[hrC]at hnx
  have hwf2:=hb.zf hB.ty Ph hrC
  have hbk:=hb.ka
  unfold GQ at hc9
  generalize ix xs k=x at*
  have hac:=fun w' hw'=>BW B (fun _=>True) cp c ⟨sp,tv,pv,bv,rv,fv,DC,LC⟩ m locals (.pointer (some ⟨bS,0,none⟩)) x lp pt pl lc ct cl w' hw' hg1 hbk.wf hbk.bk (hB.ty.b Ph) hB2
  rw[hrC]at hac
  repeat'(first|refine ar ?_|fail)
  refine aa.he (HE.xZ (B:=0) (M0:=aT cp c ⟨sp,tv,pv,bv,rv,fv,DC,LC⟩++[A s]) (Mr:=[]) (R':=[]) rfl hg rfl (by dsimp only[aT,aX,Pq,Pp];exact List.Perm.refl _) (fun p hp=>absurd hp Pj) (fun w' hw' _=>hE s cp c ⟨sp,tv,pv,bv,rv,fv,DC,LC⟩ w' hw' hg1 hbk.wf hbk.bk hbk.ts hLl) (fun _ _=>Pu _)) rfl ?_
  rintro s' hs'
  dsimp only[aT,aX,Pq,Pp]at hs' ⊢
  repeat'(first|refine ar ?_|(refine aa.y_ (Yl.ji rfl rfl rfl ak Pk Pk hc9) rfl ?_)|fail)
  by_cases he:e=0
  case neg=>
   refine aa.he (HE.bJ (M0:=aT cp c ⟨sp,tv,pv,bv,rv,fv,DC,LC⟩) dU rfl rfl (fun w' hw'=>(hac w' (EM (hw'.dc dV (fun _ h=>h)) ak h0 hs0 ak hti hli)).mono fun _ _ h=>h.bad (q:=e) rfl he)) rfl ?_
   rintro _ _
   dsimp only[Pp]
   rw[hgs,if_pos he]
   repeat'(first|refine ar ?_|fail)
   exact ah.ie rfl rfl rfl fun w' hw'=>aC.IG (x:=s') (fun h=>absurd h he) hw' bz ak
  subst he
  refine aa.he (HE.bJ (M0:=aT cp c ⟨sp,tv,pv,bv,rv,fv,DC,LC⟩) dU rfl rfl (fun w' hw'=>(hac w' (EM (hw'.dc dV (fun _ h=>h)) ak h0 hs0 ak hti hli)).mono fun _ _ h=>h.Dw rfl)) rfl ?_
  rintro⟨sp7,tv7,pv7,bv7,rv7,fv7,DC7,LC7⟩ hg7
  dsimp only[aT,aX,Pq,Pp]at hg7 ⊢
  rw[if_neg Ph]at hgs
  have hps:=(hwf2 rfl).ao.some
  obtain⟨ob,hob⟩:∃b,dB cC.ao=b:=⟨_,rfl⟩
  have hov:=fun w' hw'=>B8 sp7 cC.ao (tv7,pv7) w' hw' hps
  rw[hob]at hgs hov
  repeat'(first|refine ar ?_|(refine aa.aj (f:=26) ?_;refine aa.av rfl rfl rfl (fun w' hw'=>eF cp ⟨sp7,0,none⟩ w' (hw'.c1 aH Pk)) ?_)|fail)
  refine aa.av (v:=.bool ob) rfl rfl rfl (fun w' hw'=>hov w' (hw'.dc (M':=aX sp7 cC.ao (tv7,pv7)) (by dsimp only[aX];rw[hob];exact dV) (fun p hp=>absurd hp Pj))) ?_
  cases ob with
  |true=>
   rw[if_pos rfl]at hgs
   rw[hgs]
   repeat'(first|refine ar ?_|fail)
   exact ah.ie rfl rfl rfl fun w' hw'=>aC.IG (x:=s') (fun h=>absurd h (show¬((6:Int)=0)by decide)) hw' bz ak
  |false=>
   rw[if_neg Ph]at hgs
   repeat'(first|refine ar ?_|fail)
   exact ah.Fz (k+1,cC,⟨sp7,tv7,pv7,bv7,rv7,fv7,DC7,LC7⟩,s') bH ON aU ⟨by show k+1≤xs.length;omega,hg7,hnx rfl hob,hgs.symm,by dsimp only;rw[hs',List.append_assoc];exact hL⟩ (by show xs.length - (k+1)<xs.length - k;omega)
theorem Bc:EE (fun _:List (Bool×List Int)=>bu.pack []) id 19 []:=by
 intro s cp c v w hw hg hwf hb hts _
 show Calls G.P 19 #[.pointer (some ⟨cp,0,none⟩)] w _
 refine ae (l:=[_]) func19 rfl ntmps19 rfl (Ok.dk hw) ?_
 repeat'(first|refine ar ?_|fail)
 all_goals refine ah.oe rfl fun w' hw'=>?_
 exact aC.of (M0:=aT cp c v++[bu.pack []]) (w:=w) (tf:=fun _:List (Bool×List Int)=>Value.tuple #[]) (φ:=fun s'=>id s'=id s++[(c.live,c.ao.ts)]) (M1:=fun _=>aT cp c v++[bu.pack []]) (x:=s++[(c.live,c.ao.ts)]) rfl hw' rfl (List.Mem.head _)
def ep (D:Nat→Prop) (w:World) (x:List Value×List (Bool×List Int)):Prop:=x.1.length=x.2.length*2∧∀j,j<x.2.length→∃p c,x.1[j*2]?=some (.bool (ix x.2 j).1)∧x.1[j*2+1]?=some (.slice p (ix x.2 j).2.length c)∧ai D w (.slice p (ix x.2 j).2.length c) (ix x.2 j).2
theorem ep.fr:vJ ep:=fun h hc hd=>⟨h.1,fun j hj=>by obtain⟨p,c,a,b,d⟩:=h.2 j hj;exact⟨p,c,a,b,d.aN hc hd⟩⟩
theorem ep.nil (D:Nat→Prop) (w:World):ep D w ([],[]):=⟨rfl,fun _j hj=>absurd hj (Nat.not_lt_zero _)⟩
theorem ep.mono {D H:Nat→Prop} {w:World} {x:List Value×List (Bool×List Int)} (h:ep D w x) (hd:∀k,D k→H k):ep H w x:=⟨h.1,fun j hj=>by obtain⟨p,c,a,b,d⟩:=h.2 j hj;exact⟨p,c,a,b,d.mono fun k _ hk=>hd k hk⟩⟩
theorem ep.snoc {D H:Nat→Prop} {w:World} {tc:List Value} {l:List (Bool×List Int)} (h:ep D w (tc,l)) {b:Bool} {xs:List Int} {p:Option Addr} {c:Nat} (hi:ai H w (.slice p xs.length c) xs):ep (fun k=>D k∨H k) w (tc++[Po b,Pn p xs.length c],l++[(b,xs)]):=by
 obtain⟨h1,h2⟩:=h
 dsimp only at h1 h2
 refine⟨by simp[h1];omega,fun i hi'=>?_⟩
 dsimp only at hi' ⊢
 by_cases hlt:i<l.length
 ·obtain⟨p',c',e1,e2,e3⟩:=h2 i hlt
  rw[iH hlt]
  exact⟨p',c',by rw[P7 Pi];exact e1,by rw[P7 Pi];exact e2,e3.mono fun _ _ hk=>.inl hk⟩
 ·have e:i=l.length:=by simp at hi';omega
  subst e
  rw[gN (Px _),PU]
  exact⟨p,c,by rw[P9 Pi];simp[h1,ix],by rw[P9 Pi];simp[h1,ix,show l.length*2+1 - l.length*2=1 by omega],hi.mono fun _ _ hk=>.inr hk⟩
def iC (T:Nat) (lv:Value) (tc:List Value) (D:Nat→Prop) (l:List (Bool×List Int)):List bu:=[.own 0 T 2 lv l.length tc,.kq ep ep.fr D (tc,l)]
structure Ks where
 lv:Value
 tc:List Value
 D:Nat→Prop
 l:List (Bool×List Int)
abbrev qw:Nat:=72
abbrev Gt:Nat:=43
def IH (bx:Nat) (s:Ks):bu:=.pack (.aW bx [s.lv] Gt::iC qw s.lv s.tc s.D s.l)
theorem Ok.steps {M M1 M2:List bu} {R:List (World→Prop)} {w:World} {B T m c:Nat} {cs tc:List Value} {D:Nat→Prop} {l:List (Bool×List Int)} {p:Option Addr} (b:Bool) (xs:List Int) (h:Ok M R w)
  (r1:Rm (.own B T 1 (.slice p xs.length c) m cs) M M1) (r2:Rm (.kq ep ep.fr D (tc,l)) M1 M2) (hm:m=xs.length) (hcs:cs=aY xs) (hl:xs.length≤17592186044416):Ok (.kq ep ep.fr (fun k=>D k∨(Pn p xs.length c).ownBlock=some k) (tc++[Po b,Pn p xs.length c],l++[(b,xs)])::M2) R w:=by
 subst hm;subst hcs
 exact((h.front r1).front (Rm.tail r2)).merge (q:=.kq ep ep.fr (fun k=>D k∨(Pn p xs.length c).ownBlock=some k) (tc++[Po b,Pn p xs.length c],l++[(b,xs)])) (fun _ hk=>hk) (fun h1 h2=>ep.snoc (b:=b) (p:=p) (c:=c) h1 (dK h2 hl))
theorem Cg (bx:Nat):EE (IH bx) (fun s=>s.l) 24 [.pointer (some ⟨bx,0,none⟩)]:=by
 rintro⟨lv,tc,D,l⟩ cp c ⟨sp,tv,pv,bv,rv,fv,DC,LC⟩ w hw hg hwf hb hts hll
 dsimp only at hll
 show Calls G.P 24 #[.pointer (some ⟨cp,0,none⟩),.pointer (some ⟨bx,0,none⟩)] w _
 refine ae (l:=[_,_]) func24 rfl ntmps24 rfl (Ok.dk hw) ?_
 dsimp only[aT,aX,Pq,Pp]
 refine bh.front (q:=IH bx ⟨lv,tc,D,l⟩) jH ?_
 refine bh.map (fun w' h=>h.unpack) ?_
 dsimp only[iC,Pq,Pp]
 repeat'(first|refine ar ?_|(refine bC ?_ ?_<;>intro hc_))
 refine bh.iB 9 [.aW bx [lv] Gt] [] bz aU ?_
 repeat'(first|refine CZ ?_|(refine bA.dA 25 ?_;refine bA.he rfl rfl (HE.eU (v:=.bool c.live) rfl rfl (fun w' hw'=>Dm cp c ⟨sp,tv,pv,bv,rv,fv,DC,LC⟩ w' ((hw'.dc (M':=aT cp c ⟨sp,tv,pv,bv,rv,fv,DC,LC⟩) dV (fun _ h=>h)).Cy (Pv.refl _)) hb)) (fun _=>bz) (fun _=>aU) ?_;rintro⟨⟩ _)|(refine bA.dA 26 ?_;refine bA.he rfl rfl (HE.eU rfl rfl (fun w' hw'=>eF cp ⟨sp,0,none⟩ w' (hw'.c1 aH Pk))) (fun _=>bz) (fun _=>aU) ?_;rintro⟨⟩ _)|(refine bA.dA 27 ?_;refine bA.he rfl rfl (HE.bJ (M0:=[]) nK.nil rfl rfl (fun w' hw'=>Em sp c.ao (tv,pv) w' (hw'.dc dV (fun p hp=>absurd hp Pj)) hwf.ao.some Pi)) (fun _=>by dsimp only[Pq,Pp];exact bz) (fun _=>aU) ?_;rintro u _;dsimp only[Pq,Pp];refine db.pure (φ:=∃p c',u=.slice p c.ao.ts.length c') (fun w' hw'=>?_) ?_;(·obtain⟨p,c',e,_⟩:=aw (hw'.own (v:=u));exact⟨p,c',e⟩);rintro⟨pu,cu,rfl⟩)|(refine bA.lD ?_;refine bA.he rfl rfl (HE.jG rfl rfl rfl rfl rfl er Pk Pk) (fun _=>bz) (fun _=>aU) ?_;rintro b3 _)|(refine bA.rr ?_;refine bA.he rfl rfl (HE.app rfl rfl (fun _=>aH) aH rfl rfl rfl Pk Pk Pk Pk Pk Pk Pi (fun _ _=>Pu _)) (fun _=>bz) (fun _=>aU) ?_;rintro v2 _;refine db.pure (φ:=v2.oneCell'=true) (fun w' hw'=>jL (hw'.own (v:=v2))) fun hone=>?_)|(refine bA.iO rfl (gj.gz rfl rfl rfl rfl hone aH pn) ?_;rintro⟨⟩ _)|refine db.any O9 ?_|exact cw.fin rfl|refine cw.skip O9 ?_|refine cw.go ?_ ?_)
 all_goals refine ah.oe rfl fun w' hw'=>?_
 have h1:=Ok.steps c.live c.ao.ts hw' jH jH rfl rfl Pi
 have h2:=h1.dc (M':=(.aW bx [v2] Gt::iC qw v2 (tc++[.bool c.live,.slice pu c.ao.ts.length cu]) (fun k=>D k∨(Pn pu c.ao.ts.length cu).ownBlock=some k) (l++[(c.live,c.ao.ts)]))++aT cp c ⟨sp,tv,pv,bv,rv,fv,DC,LC⟩) (by dsimp only[iC,aT,aX,Pq,Pp];rw[show(l++[(c.live,c.ao.ts)]).length=l.length+1 from by simp];exact dV) (fun _ h=>h)
 have h3:=h2.pack
 exact aC.qM (x:=(⟨v2,tc++[.bool c.live,.slice pu c.ao.ts.length cu],fun k=>D k∨(Pn pu c.ao.ts.length cu).ownBlock=some k,l++[(c.live,c.ao.ts)]⟩:Ks)) rfl rfl h3 (by dsimp only[aT,aX,IH,Pq,Pp];exact dV) ak
theorem Ok.qh (T:Nat) (h:Ok M R w):Ok (iC T (.slice none 0 0) [] (fun _=>False) []++M) R w:=
 (h.push (q:=.kq ep ep.fr (fun _=>False) ([],[])) (bX.refl _ w) (ep.nil _ _) (fun _ hk=>hk.elim)).iP 0 T 2
theorem Hp {bx:Nat} (h:Ok (.aW bx [.slice none 0 0] Gt::M) R w):Ok (IH bx ⟨.slice none 0 0,[],fun _=>False,[]⟩::M) R w:=by
 refine Ok.pack (L:=.aW bx [.slice none 0 0] Gt::iC qw (.slice none 0 0) [] (fun _=>False) []) ?_
 have h1:=h.qh qw
 exact h1.front (q:=.aW bx [.slice none 0 0] Gt) (Rm.tail (Rm.tail Rm.head))
def kA (m:af) (i:Int):Option (List (Bool×List Int)):=if(tu m i).2=0 then some (Hw m i)else none
def xP (T:Nat) (r:Option (List (Bool×List Int))) (w:World):Ending→World→Prop:=gD w (fun z:Value×List Value×(Nat→Prop)=>.tuple #[z.1,.bool r.isSome]) (fun z=>iC T z.1 z.2.1 z.2.2 (r.getD []))
theorem tz (m:af) (cs:List Value) (B:Nat) (sv:Value) (i:Int) (w:World) (hm:au (fun _=>True) w cs m) (hs:bK B m w sv) (h0:fK w) (hB:sw m):Calls G.P 7 #[.agg cs.toArray,sv,.int .i64 i] w fun e w'=>e=.returned (.tuple #[.int .i64 (tu m i).1,.int .i64 (tu m i).2])∧Ext w w':=by
 have hm0:=hm
 obtain⟨v0,v1,v2,v3,v4,v5,v6,v7,v8,v9,rfl,r0,r1,r2,r3,r4,r5,r6,r7,r8,r9,g0⟩:=hm;obtain⟨p0,c0,rfl,l0⟩:=r0.slice;obtain⟨p1,c1,rfl,l1⟩:=r1.slice;obtain⟨p2,c2,rfl,l2⟩:=r2.slice;obtain⟨p3,c3,rfl,l3⟩:=r3.slice;obtain⟨p4,c4,rfl,l4⟩:=r4.slice;obtain⟨p5,c5,rfl,l5⟩:=r5.slice;obtain⟨p6,c6,rfl,l6⟩:=r6.slice;obtain⟨p7,c7,rfl,l7⟩:=r7.slice;obtain⟨p8,c8,rfl,l8⟩:=r8.slice;obtain⟨p9,c9,rfl,l9⟩:=r9.slice
 refine ae (l:=[_,_,_]) func7 rfl ntmps7 rfl (Ok.start w) ?_
 repeat'(first|refine ar ?_|(refine aF fun b_=>?_)|fail)
 refine aa.map (M':=[bu.pack []]) (R':=[Ext w]) (fun w' hw'=>Ok.pack (L:=[]) (hw'.dc dV aU)) ?_
 refine aa.he (HE.bJ (M0:=[bu.pack []]) dU rfl rfl (fun w' hw'=>xd (fun _:List (Bool×List Int)=>bu.pack []) id B m ([Pn p0 m.types.length c0,Pn p1 m.imports.length c1,Pn p2 m.funcs.length c2,Pn p3 m.tables.length c3,Pn p4 m.bQ.length c4,Pn p5 m.globals.length c5,Pn p6 m.aJ.length c6,Po m.aI,Pm .i64 m.start,Pn p7 m.elems.length c7,Pn p8 m.bg.length c8,Pn p9 m.bE.length c9]:List Value) sv i _ [] [] w w' hm0 hs h0 hB rfl Bc rfl hw')) rfl ?_
 rintro s _
 repeat'(first|refine ar ?_|fail)
 exact ah.ie rfl rfl rfl fun w' hw'=>⟨rfl,hw'.at⟩
theorem pV (m:af) (cs:List Value) (B:Nat) (sv:Value) (i:Int) (w:World) (hm:au (fun _=>True) w cs m) (hs:bK B m w sv) (h0:fK w) (hB:sw m):Calls G.P 10 #[.agg cs.toArray,sv,.int .i64 i] w (xP qw (kA m i) w):=by
 have hm0:=hm
 obtain⟨v0,v1,v2,v3,v4,v5,v6,v7,v8,v9,rfl,r0,r1,r2,r3,r4,r5,r6,r7,r8,r9,g0⟩:=hm;obtain⟨p0,c0,rfl,l0⟩:=r0.slice;obtain⟨p1,c1,rfl,l1⟩:=r1.slice;obtain⟨p2,c2,rfl,l2⟩:=r2.slice;obtain⟨p3,c3,rfl,l3⟩:=r3.slice;obtain⟨p4,c4,rfl,l4⟩:=r4.slice;obtain⟨p5,c5,rfl,l5⟩:=r5.slice;obtain⟨p6,c6,rfl,l6⟩:=r6.slice;obtain⟨p7,c7,rfl,l7⟩:=r7.slice;obtain⟨p8,c8,rfl,l8⟩:=r8.slice;obtain⟨p9,c9,rfl,l9⟩:=r9.slice
 unfold xP gD kA
 refine ae (l:=[_,_,_]) func10 rfl ntmps10 rfl (Ok.start w) ?_
 repeat'(first|refine ar ?_|(refine aF fun b_=>?_)|(refine aa.eh (t:=Gt) ?_;refine aa.alloc (t:=Gt) [Pn none 0 0] rfl rfl rfl fun b_=>?_)|fail)
 refine aa.map (fun w' hw'=>Hp (hw'.dc (M':=[.aW b_ [.slice none 0 0] Gt]) (R':=[Ext w]) dV aU)) ?_
 refine aa.he (HE.bJ (M0:=[IH b_ ⟨.slice none 0 0,[],fun _=>False,[]⟩]) dU rfl rfl (fun w' hw'=>by have:=xd (IH b_) (fun s=>s.l) B m ([Pn p0 m.types.length c0,Pn p1 m.imports.length c1,Pn p2 m.funcs.length c2,Pn p3 m.tables.length c3,Pn p4 m.bQ.length c4,Pn p5 m.globals.length c5,Pn p6 m.aJ.length c6,Po m.aI,Pm .i64 m.start,Pn p7 m.elems.length c7,Pn p8 m.bg.length c8,Pn p9 m.bE.length c9]:List Value) sv i _ [.pointer (some ⟨b_,0,none⟩)] ⟨.slice none 0 0,[],fun _=>False,[]⟩ w w' hm0 hs h0 hB rfl (Cg b_) rfl hw';exact this)) rfl ?_
 rintro⟨lv,tc,D,l⟩ hl
 dsimp only[Pq,Pp]at hl ⊢
 by_cases he:(tu m i).2=0
 ·have hl':=hl he
  subst hl'
  rw[if_pos he]
  refine aa.map (fun w' h=>h.unpack) ?_
  dsimp only[iC,Pq,Pp]
  repeat'(first|refine ar ?_|fail)
  all_goals exact ah.ie rfl rfl rfl fun w' hw'=>aC.sF (x:=(lv,tc,D)) trivial hw' (by dsimp only[iC,Option.getD];exact bz) ak
 ·rw[if_neg he]
  repeat'(first|refine ar ?_|fail)
  all_goals exact ah.ie rfl rfl rfl fun w' hw'=>aC.sF (x:=(Pn none 0 0,[],fun _=>False)) trivial (hw'.qh qw) (Qd _ _) ak
theorem yG (D:Nat→Prop) (c:gA) (y:jC) (w:World) (h:cG c D w y) (hz:c.fs.length=0):Calls G.P 36 #[.agg (eO c y).toArray] w fun e w'=>e=.returned (.bool true)∧Ext w w':=by
 obtain⟨p1,c1,p2,c2,p3,c3,p4,c4,p5,c5,ey,k4,h4,kz⟩:=h.gx
 obtain⟨r,f,rv,z⟩:=y
 cases ey
 refine ae (l:=[_]) func36 rfl ntmps36 rfl (Ok.start w) ?_
 dsimp only[eO]
 rw[hz]
 repeat'(first|refine ar ?_|(refine aF fun b_=>?_)|fail)
 all_goals first|omega|exact ah.aG rfl rfl fun w' hw'=>⟨rfl,hw'.at⟩
theorem Aq (D:Nat→Prop) (c:dv) (y:jC) (w:World) (h:cG (bP c) D w y) (hb:c.broken=0) (hf:c.Wf):Calls G.P 36 #[.agg (eO (bP c) y).toArray] w fun e w'=>e=.returned (.bool c.live)∧Ext w w':=by
 by_cases hn:c.fs.length=0
 ·rw[hf.ended hn]
  exact yG D (bP c) y w h (by rw[cU];exact hn)
 ·exact Ar D c y w h hb Pi
end Go.Proofs.YtdkcljdfbemnbaaGreatDoor
