/- The reference of layer 23: Wants, whole. -/
import Derived.Test.YtdkcljdfbemnbaaGreatDoorJWx
import Derived.Test.YtdkcljdfbemnbaaGreatDoorJVcBodyChecks
import Derived.Test.YtdkcljdfbemnbaaGreatDoorJOk
import Derived.Test.YtdkcljdfbemnbaaGreatDoorJLz
import Derived.Test.YtdkcljdfbemnbaaGreatDoorJLm
import Derived.Test.YtdkcljdfbemnbaaGreatDoorJUx
import Derived.Test.YtdkcljdfbemnbaaGreatDoorJTz
import Derived.Test.YtdkcljdfbemnbaaGreatDoorJUu
import Derived.Test.YtdkcljdfbemnbaaGreatDoorJWn
import Derived.Test.YtdkcljdfbemnbaaGreatDoorJN3
import Derived.Test.YtdkcljdfbemnbaaGreatDoorJUg
namespace Go.Proofs.YtdkcljdfbemnbaaGreatDoor
open Go.RowKit _root_.Go.Proofs.Tryz
set_option maxHeartbeats 128000000
open Int renaming eq_ofNat_of_zero_le→PD
open List renaming Sublist→Pp,cons_append→Pj,eq_nil_of_length_eq_zero→P6,getElem?_append_left→PW,getElem?_append_right→P2,length_append→Pt,mem_append→PE,mem_cons→Pz,nil_append→Pi,pairwise_cons→PV
open Nat renaming le_refl→Pr,le_trans→Py,lt_of_lt_of_le→Pw,sub_self→PO,zero_add→Pm,zero_le→Po
open Value renaming bool→Ph,int→Pf,slice→Pg
set_option maxRecDepth 100000
variable (D:Nat→Prop) {K:Nat} (results:List Int) {M:List bu} (F:Nat→Prop) (B:Nat) (c:dv) (y:jE) (m:af) (cs:List Value) (sv:Value) (i:Int) (w:World) (locals:List Int) (x:cv) (lp pt pl:Option Addr)
theorem At (lc ct cl:Nat) (w:World) (hm:av F w cs m) (hl:ai F w (.slice lp locals.length lc) locals) (ht:ai F w (.slice pt x.types.length ct) x.types) (hF:∀k,F k→k<w.heap.size) (hT:m7 m) (hp:cW x=true):Calls G.P 122 #[.agg cs.toArray,.slice lp locals.length lc,.agg #[Pf .i64 x.op,Pf .i64 x.a,Pf .i64 x.b,Pf .u64 x.n,Pf .i64 x.kind,Pf .i64 x.val,Pf .i64 x.index,Pg pt x.types.length ct,Pg pl x.labels.length cl]] w (fK (cE m locals x) F w):=by
 obtain⟨hi,hj,ha,hb,h6⟩:=lY hp
 have hr:=zQ x.op
 have hkk:eQ x.op=0∨eQ x.op=1∨eQ x.op=2∨eQ x.op=3∨eQ x.op=4∨eQ x.op=5∨eQ x.op=6∨eQ x.op=7∨eQ x.op=8∨eQ x.op=9∨eQ x.op=10∨eQ x.op=11∨eQ x.op=12∨eQ x.op=13∨eQ x.op=14∨eQ x.op=15∨eQ x.op=16∨eQ x.op=17∨eQ x.op=18∨eQ x.op=19∨eQ x.op=20:=by omega
 rcases hkk with hk|hk|hk|hk|hk|hk|hk|hk|hk|hk|hk|hk|hk|hk|hk|hk|hk|hk|hk|hk|hk
 ·rw[show cE m locals x=da x.op from by unfold cE;dsimp only;rw[hk];rfl]
  exact wi F m cs locals x lp pt pl lc ct cl w hm hl ht ha hi hb hj hF hT hk
 ·rw[show cE m locals x=(dF,1)from by unfold cE;dsimp only;rw[hk];rfl]
  exact wj F m cs locals x lp pt pl lc ct cl w hm hl ht ha hi hb hj hF hT hk
 ·rw[show cE m locals x=(dF,1)from by unfold cE;dsimp only;rw[hk];rfl]
  exact wk F m cs locals x lp pt pl lc ct cl w hm hl ht ha hi hb hj hF hT hk
 ·rw[show cE m locals x=(dF,1)from by unfold cE;dsimp only;rw[hk];rfl]
  exact wm F m cs locals x lp pt pl lc ct cl w hm hl ht ha hi hb hj hF hT hk
 ·rw[show cE m locals x=lP m x from by unfold cE;dsimp only;rw[hk];rfl]
  exact wo F m cs locals x lp pt pl lc ct cl w hm hl ht ha hi hb hj hF hT hk
 ·rw[show cE m locals x=bZ m x from by unfold cE;dsimp only;rw[hk];rfl]
  exact wu F m cs locals x lp pt pl lc ct cl w hm hl ht ha hi hb hj hF hT hk
 ·rw[show cE m locals x=(⟨[ix x.types 0,ix x.types 0,1],[ix x.types 0]⟩,0)from by unfold cE;dsimp only;rw[hk];rfl]
  exact wv F m cs locals x lp pt pl lc ct cl w hm hl ht ha hi hb hj hF hT hk (h6 hk)
 ·rw[show cE m locals x=eP locals x from by unfold cE;dsimp only;rw[hk];rfl]
  exact wA F m cs locals x lp pt pl lc ct cl w hm hl ht ha hi hb hj hF hT hk
 ·rw[show cE m locals x=dt m x from by unfold cE;dsimp only;rw[hk];rfl]
  exact wB F m cs locals x lp pt pl lc ct cl w hm hl ht ha hi hb hj hF hT hk
 ·rw[show cE m locals x=dr m x from by unfold cE;dsimp only;rw[hk];rfl]
  exact wE F m cs locals x lp pt pl lc ct cl w hm hl ht ha hi hb hj hF hT hk
 ·rw[show cE m locals x=oF m x from by unfold cE oF;dsimp only;rw[hk,if_pos (H5 hk)];cases cJ (bL m) x.a<;>cases cJ (bL m) x.b<;>rfl]
  exact uH F m cs locals x lp pt pl lc ct cl w hm hl ht ha hi hb hj hF hT hk
 ·rw[show cE m locals x=oF m x from by unfold cE oF;dsimp only;rw[hk,if_neg (show¬x.op=64526 from fun h=>by rw[h]at hk;exact absurd hk O3)];cases cJ (dN m) x.a<;>cases cJ (bL m) x.b<;>rfl]
  exact uI F m cs locals x lp pt pl lc ct cl w hm hl ht ha hi hb hj hF hT hk
 ·rw[show cE m locals x=if(cJ (dN m) x.a).isNone then(dF,11)else da x.op from by unfold cE;dsimp only;rw[hk];rfl]
  exact uJ F m cs locals x lp pt pl lc ct cl w hm hl ht ha hi hb hj hF hT hk
 ·rw[show cE m locals x=lI m 13 x from by unfold cE;dsimp only;rw[hk];rfl]
  exact uK F m cs locals x lp pt pl lc ct cl w hm hl ht ha hi hb hj hF hT hk
 ·rw[show cE m locals x=lI m 14 x from by unfold cE;dsimp only;rw[hk];rfl]
  exact uL F m cs locals x lp pt pl lc ct cl w hm hl ht ha hi hb hj hF hT hk
 ·rw[show cE m locals x=lI m 15 x from by unfold cE;dsimp only;rw[hk];rfl]
  exact uM F m cs locals x lp pt pl lc ct cl w hm hl ht ha hi hb hj hF hT hk
 ·rw[show cE m locals x=if(m.bg.length:Int)≤x.a then(dF,11)else da x.op from by unfold cE;dsimp only;rw[hk];rfl]
  exact uN F m cs locals x lp pt pl lc ct cl w hm hl ht ha hi hb hj hF hT hk
 ·rw[show cE m locals x=lI m 17 x from by unfold cE;dsimp only;rw[hk];rfl]
  exact uO F m cs locals x lp pt pl lc ct cl w hm hl ht ha hi hb hj hF hT hk
 ·rw[show cE m locals x=da x.op from by unfold cE;dsimp only;rw[hk];rfl]
  exact uP F m cs locals x lp pt pl lc ct cl w hm hl ht ha hi hb hj hF hT hk
 ·rw[show cE m locals x=da x.op from by unfold cE;dsimp only;rw[hk];rfl]
  exact uQ F m cs locals x lp pt pl lc ct cl w hm hl ht ha hi hb hj hF hT hk
 ·rw[show cE m locals x=(⟨[],[x.a]⟩,0)from by unfold cE;dsimp only;rw[hk];rfl]
  exact uR F m cs locals x lp pt pl lc ct cl w hm hl ht ha hi hb hj hF hT hk
theorem Ap (lc ct cl:Nat) (w:World) (hm:av F w cs m) (hl:ai F w (.slice lp locals.length lc) locals) (ht:ai F w (.slice pt x.types.length ct) x.types) (hF:∀k,F k→k<w.heap.size) (hT:m7 m) (hl2:ai F w (.slice pl x.labels.length cl) x.labels):Calls G.P 76 #[.agg cs.toArray,.slice lp locals.length lc,.agg #[Pf .i64 x.op,Pf .i64 x.a,Pf .i64 x.b,Pf .u64 x.n,Pf .i64 x.kind,Pf .i64 x.val,Pf .i64 x.index,Pg pt x.types.length ct,Pg pl x.labels.length cl]] w (jx (kA m locals x) F w):=by
 have hm0:=hm
 obtain⟨v0,v1,v2,v3,v4,v5,v6,v7,v8,v9,rfl,r0,r1,r2,r3,r4,r5,r6,r7,r8,r9,g0⟩:=hm
 have hpl:∀w',Ext w w'→Calls G.P 64 #[.agg #[Pf .i64 x.op,Pf .i64 x.a,Pf .i64 x.b,Pf .u64 x.n,Pf .i64 x.kind,Pf .i64 x.val,Pf .i64 x.index,Pg pt x.types.length ct,Pg pl x.labels.length cl]] w' fun e w2=>e=.returned (.bool (cW x))∧Ext w' w2:=fun w' hx=>sg F x pt pl ct cl w' (ht.aP hx (fun _ _ _ h=>h)) (hl2.aP hx (fun _ _ _ h=>h))
 unfold kA
 cases hp:cW x with
 |false=>
  rw[hp]at hpl
  rw[if_pos rfl]
  refine ae (l:=[_,_,_]) func76 rfl ntmps76 rfl (Ok.start w) ?_
  repeat'(first|refine ar ?_|(refine aE fun b_=>?_)|(refine bK fun b_=>?_)|(refine ay fun b_=>?_)|refine Om ?_|fail)
  all_goals exact ii
 |true=>
  rw[hp]at hpl
  rw[if_neg Pb]
  have hwa:=fun w' (hx:Ext w w')=>At F m _ locals x lp pt pl lc ct cl w' (hm0.aP hx (fun _ _ _ h=>h)) (hl.aP hx (fun _ _ _ h=>h)) (ht.aP hx (fun _ _ _ h=>h)) (fun k hk=>Pw (hF k hk) hx.size) hT hp
  obtain⟨r,hr⟩:∃r,cE m locals x=r:=⟨_,rfl⟩
  obtain⟨f,e0⟩:=r
  rw[hr]at hwa ⊢
  by_cases he:e0=0
  ·subst he
   refine ae (l:=[_,_,_]) func76 rfl ntmps76 rfl (Ok.start w) ?_
   repeat'(first|refine ar ?_|(refine aE fun b_=>?_)|(refine bK fun b_=>?_)|(refine ay fun b_=>?_)|refine Om ?_|(refine aa.aj (f:=122) ?_;refine aa.he (HE.rg (F:=F) (r:=(f,0)) ak hF rfl rfl (fun w' hw'=>hwa w' hw'.at)) rfl ?_;rintro⟨D_,p_,c_,q_,d_⟩ hD_;dsimp only)|fail)
   all_goals(refine ah.aM (.inl rfl) rfl rfl rfl rfl rfl aH rfl rfl ?_;exact fun w' hw'=>bD.jm (f0:=f) (tf:=fun y:Value×Value=>.tuple #[.agg #[y.1,y.2],.int .i64 0]) ⟨D_,p_,c_,q_,d_⟩ hw' ak ak hD_)
  ·obtain rfl:=AS (show qf m locals x=(f,e0)from by rw[vz];unfold kA;rw[hp,if_neg Pb];exact hr) he
   refine ae (l:=[_,_,_]) func76 rfl ntmps76 rfl (Ok.start w) ?_
   repeat'(first|refine ar ?_|(refine aE fun b_=>?_)|(refine bK fun b_=>?_)|(refine ay fun b_=>?_)|refine Om ?_|(refine aa.aj (f:=122) ?_;refine aa.he (HE.rg (F:=F) (r:=(dF,e0)) ak hF rfl rfl (fun w' hw'=>hwa w' hw'.at)) rfl ?_;rintro⟨D_,p_,c_,q_,d_⟩ hD_;dsimp only)|fail)
   obtain⟨b8,rfl⟩:∃y:Nat,y=b_:=⟨_,rfl⟩
   refine bh.cF [.aV b8 [.slice p_ dF.params.length c_,.slice q_ dF.results.length d_,.int .i64 e0] 211] [Ext w] bw aU ?_
   repeat'(first|refine pG ?_|(refine ax.nf ?_;refine ax.jQ rfl (gj.bn _ rfl rfl rfl rfl rfl rfl aH rfl) (fun _=>bw) (fun _=>aU) ?_;rintro⟨⟩ _)|refine aN.nil O3 ?_|refine aN.any O3 ?_|exact aB.fin rfl|refine aB.skip O3 ?_|refine aB.go ?_ ?_)
   all_goals repeat'(first|refine ar ?_|fail)
   all_goals exact ii
theorem lZ {g g':Prop} (h:g') (hw:eI g'→g:=by(intro hk_;(first|(refine aa.aj (f:=64) ?_;refine aa.au rfl rfl rfl (fun w' hw'=>hplain w' hw'.at) ?_));exact hk_.out)):g:=hw ⟨h⟩
theorem yE (c:gA) (y:jE) (m:af) (cs:List Value) (locals:List Int) (x:cv) (lp pt pl:Option Addr) (lc ct cl:Nat) (w:World) (h:cG c F w y) (hm:av F w cs m) (hl:ai F w (.slice lp locals.length lc) locals) (ht:ai F w (.slice pt x.types.length ct) x.types) (hl2:ai F w (.slice pl x.labels.length cl) x.labels) (hF:∀k,F k→k<w.heap.size) (hT:m7 m) (hs:c.ao.Wf) (hfl:c.fs.length≤1000000) (hpl:c.ao.ps.length≤1000000) (hmany:c.ao.ps.length=c.fs.length+1) (hts:c.ao.ts.length≤1000000000000) (_hpar:(ix c.fs (c.fs.length - 1)).par.length≤100000000000) (_hres:(ix c.fs (c.fs.length - 1)).res.length≤100000000000) (hlb:∀n,(eX c n).1.length≤100000000000) (hll:x.labels.length≤10000000) (hbk:∀f,cX m x.kind x.val x.index=some f→c.ao.ts.length+f.params.length≤17592186044416) (htb:cW x=true→jW x.op=false→c.ao.ts.length+(kA m locals x).1.results.length≤17592186044416):Calls G.P 37 #[.agg (eN c y).toArray,.agg cs.toArray,.slice lp locals.length lc,.agg #[Pf .i64 x.op,Pf .i64 x.a,Pf .i64 x.b,Pf .u64 x.n,Pf .i64 x.kind,Pf .i64 x.val,Pf .i64 x.index,Pg pt x.types.length ct,Pg pl x.labels.length cl]] w (gC (pJ c m locals x) F w):=by
 obtain⟨p1,c1,p2,c2,p3,c3,p4,c4,p5,c5,ey,k4,h4,kz⟩:=h.gx;obtain⟨y,fv,rv,z⟩:=y;cases ey;have hm0:=hm;obtain⟨v0,v1,v2,v3,v4,v5,v6,v7,v8,v9,rfl,r0,r1,r2,r3,r4,r5,r6,r7,r8,r9,g0⟩:=hm;have hplain:∀w',Ext w w'→Calls G.P 64 #[.agg #[Pf .i64 x.op,Pf .i64 x.a,Pf .i64 x.b,Pf .u64 x.n,Pf .i64 x.kind,Pf .i64 x.val,Pf .i64 x.index,Pg pt x.types.length ct,Pg pl x.labels.length cl]] w' fun e w2=>e=.returned (.bool (cW x))∧Ext w' w2:=fun w' hx=>sg F x pt pl ct cl w' (ht.aP hx (fun _ _ _ h=>h)) (hl2.aP hx (fun _ _ _ h=>h));have hst:∀w',Ext w w'→cG c (AF F w (fun _=>False)) w' ⟨⟨.slice p1 c.ao.ts.length c1,.slice p2 c.ao.ps.length c2,.slice p3 c.ao.ps.length c3⟩,.slice p4 c.fs.length c4,.slice p5 c.results.length c5,z⟩:=fun w' hx=>(cG.fr c (cG.lt c h) hx (fun _ _ _ h=>h)).mono fun _ hk=>.inl hk
 obtain⟨r,hr⟩:∃r,pJ c m locals x=r:=⟨_,rfl⟩
 rw[hr]
 unfold pJ at hr
 refine ae (l:=[_,.agg ([v0,v1,v2,v3,v4,v5,v6,Ph m.aI,Pf .i64 m.start,v7,v8,v9]).toArray,_,_]) func37 rfl ntmps37 rfl (Ok.fg (V:=cG c) (cG.fr c) (cG.lt c) h) ?_
 dsimp only[eN];refine ar ?_;refine aa.box [.slice p1 c.ao.ts.length c1,.slice p2 c.ao.ps.length c2,.slice p3 c.ao.ps.length c3,.int .i64 c.ao.bQ,.slice p4 c.fs.length c4,.slice p5 c.results.length c5,.int .i64 0] rfl rfl rfl fun b4=>?_;refine aa.box [v0,v1,v2,v3,v4,v5,v6,Ph m.aI,Pf .i64 m.start,v7,v8,v9] rfl rfl rfl fun b5=>?_;refine aa.box [Pf .i64 x.op,Pf .i64 x.a,Pf .i64 x.b,Pf .u64 x.n,Pf .i64 x.kind,Pf .i64 x.val,Pf .i64 x.index,Pg pt x.types.length ct,Pg pl x.labels.length cl] rfl rfl rfl fun b7=>?_;refine aa.alloc (t:=sx) [.slice none 0 0,.slice none 0 0,.slice none 0 0,.int .i64 0,.slice none 0 0,.slice none 0 0,.int .i64 0] rfl rfl rfl fun b8=>?_
 by_cases hp:cW x=false
 ·rw[if_pos hp]at hr
  subst hr
  rw[hp]at hplain
  repeat'(first|refine ar ?_|(refine NV fun b_=>?_)|refine lZ ?_|fail)
  all_goals exact GT
 rw[if_neg hp]at hr
 have hp:cW x=true:=by simpa using hp
 rw[hp]at hplain
 by_cases q1:opens x.op
 ·have hop:=q1
  have hb:=hbk
  rw[if_pos q1]at hr
  have hbl:∀w',Ext w w'→Calls G.P 65 #[.agg ([v0,v1,v2,v3,v4,v5,v6,Ph m.aI,Pf .i64 m.start,v7,v8,v9]).toArray,.agg #[.int .i64 x.kind,.int .i64 x.val,.int .i64 x.index]] w' (iU (cX m x.kind x.val x.index) (AF F w (fun _=>False)) w'):=fun w' hx=>(Ad F m x.kind x.val x.index _ w' (hm0.aP hx (fun _ _ _ h=>h)) (fun k hk=>Pw (hF k hk) hx.size)).mono fun _ _ hg=>bD.HG (V:=dH _) (fun h hd=>h.mono hd) hg (fun k hk=>.inl ⟨hk,hF k hk⟩)
  generalize cX m x.kind x.val x.index=q at hbl hb hr
  unfold opens at hop
  cases q with
  |none=>
   dsimp only at hr
   subst hr
   rcases hop with hop|hop|hop
   all_goals
    repeat'(first|refine ar ?_|(refine NV fun b_=>?_)|refine lZ ?_|(refine aa.aj (f:=65) ?_;refine aa.he (HE.qz (V:=dH dF) (w0:=w) (F:=F) (tf:=fun y:Value×Value=>.tuple #[.agg #[y.1,y.2],.bool false]) (dH.fr _) (dH.lt _) (dH.mo _) ak rfl rfl (fun w' hw'=>hbl w' hw'.at)) rfl ?_;rintro⟨D_,u1_,u2_⟩ _;dsimp only;refine aa.pure (φ:=(∃p c,u1_=.slice p (dF).params.length c)∧∃p c,u2_=.slice p (dF).results.length c) (fun w' hw'=>dH.shape (hw'.an (V:=dH dF) (w0:=w) (F:=F) (D:=D_) (y:=(u1_,u2_)) ak bO)) ?_;rintro⟨⟨p_,c_,rfl⟩,⟨q_,d_,rfl⟩⟩)|fail)
    all_goals exact GT
  |some f=>
   dsimp only at hr
   have hb:=hb f rfl
   have hk:∀D w' pa ca pb cb,Ext w w'→cG c (AF F w D) w' ⟨⟨.slice p1 c.ao.ts.length c1,.slice p2 c.ao.ps.length c2,.slice p3 c.ao.ps.length c3⟩,.slice p4 c.fs.length c4,.slice p5 c.results.length c5,z⟩→dH f (AF F w D) w' (.slice pa f.params.length ca,.slice pb f.results.length cb)→Calls G.P 66 #[.agg (eN c ⟨⟨.slice p1 c.ao.ts.length c1,.slice p2 c.ao.ps.length c2,.slice p3 c.ao.ps.length c3⟩,.slice p4 c.fs.length c4,.slice p5 c.results.length c5,z⟩).toArray,.int .i64 x.op,.agg #[.slice pa f.params.length ca,.slice pb f.results.length cb]] w' (gC r (AF F w D) w'):=fun D w' pa ca pb cb hx h1 h2=>by rw[←hr];exact Aj _ c _ x.op f pa pb ca cb w' h1 h2 hs hfl hpl hb
   dsimp only[eN]at hk
   rcases hop with hop|hop|hop
   all_goals
    repeat'(first|refine ar ?_|(refine NV fun b_=>?_)|refine lZ ?_|(refine aa.aj (f:=65) ?_;refine aa.he (HE.qz (V:=dH f) (w0:=w) (F:=F) (tf:=fun y:Value×Value=>.tuple #[.agg #[y.1,y.2],.bool true]) (dH.fr _) (dH.lt _) (dH.mo _) ak rfl rfl (fun w' hw'=>hbl w' hw'.at)) rfl ?_;rintro⟨D_,u1_,u2_⟩ _;dsimp only;refine aa.pure (φ:=(∃p c,u1_=.slice p (f).params.length c)∧∃p c,u2_=.slice p (f).results.length c) (fun w' hw'=>dH.shape (hw'.an (V:=dH f) (w0:=w) (F:=F) (D:=D_) (y:=(u1_,u2_)) ak bO)) ?_;rintro⟨⟨p_,c_,rfl⟩,⟨q_,d_,rfl⟩⟩)|fail)
    all_goals first|(exfalso;omega)|skip
    refine Nm ?_
    refine Nn ?_
    rintro⟨D1,y1,l1⟩ _;refine aa.pure (φ:=fG l1) (fun w' hw'=>(hw'.an (V:=fX r) (w0:=w) (F:=F) (D:=D1) (y:=(y1,l1)) ak bO).1) ?_;rintro⟨a1,n1,k1,a2,n2,k2,a3,n3,k3,mm,a4,n4,k4',a5,n5,k5,bb,rfl⟩;dsimp only
    repeat'(first|refine ar ?_|fail)
    all_goals exact H1
 rw[if_neg q1]at hr
 by_cases q2:x.op=5
 ·have hop:=q2
  have hb:c.ao.ts.length+(ix c.fs (c.fs.length - 1)).par.length≤17592186044416:=by omega
  rw[if_pos q2]at hr
  have hk:∀w',Ext w w'→Calls G.P 67 #[.agg (eN c ⟨⟨.slice p1 c.ao.ts.length c1,.slice p2 c.ao.ps.length c2,.slice p3 c.ao.ps.length c3⟩,.slice p4 c.fs.length c4,.slice p5 c.results.length c5,z⟩).toArray] w' (gC r (AF F w (fun _=>False)) w'):=fun w' hx=>by rw[←hr];exact BJ _ c _ w' (hst w' hx) hs hfl hpl hmany hb
  dsimp only[eN]at hk
  repeat'(first|refine ar ?_|(refine NV fun b_=>?_)|refine lZ ?_|fail)
  all_goals first|(exfalso;omega)|skip
  refine No ?_
  rintro⟨D1,y1,l1⟩ _;refine aa.pure (φ:=fG l1) (fun w' hw'=>(hw'.an (V:=fX r) (w0:=w) (F:=F) (D:=D1) (y:=(y1,l1)) ak bO).1) ?_;rintro⟨a1,n1,k1,a2,n2,k2,a3,n3,k3,mm,a4,n4,k4',a5,n5,k5,bb,rfl⟩;dsimp only
  repeat'(first|refine ar ?_|fail)
  all_goals exact H1
 rw[if_neg q2]at hr
 by_cases q3:x.op=11
 ·have hop:=q3
  have hb:c.ao.ts.length+(ix c.fs (c.fs.length - 1)).res.length≤17592186044416:=by omega
  rw[if_pos q3]at hr
  have hk:∀w',Ext w w'→Calls G.P 68 #[.agg (eN c ⟨⟨.slice p1 c.ao.ts.length c1,.slice p2 c.ao.ps.length c2,.slice p3 c.ao.ps.length c3⟩,.slice p4 c.fs.length c4,.slice p5 c.results.length c5,z⟩).toArray] w' (gC r (AF F w (fun _=>False)) w'):=fun w' hx=>by rw[←hr];exact Ak _ c _ w' (hst w' hx) hs hfl hpl hmany hb
  dsimp only[eN]at hk
  repeat'(first|refine ar ?_|(refine NV fun b_=>?_)|refine lZ ?_|fail)
  all_goals first|(exfalso;omega)|skip
  refine No ?_
  rintro⟨D1,y1,l1⟩ _;refine aa.pure (φ:=fG l1) (fun w' hw'=>(hw'.an (V:=fX r) (w0:=w) (F:=F) (D:=D1) (y:=(y1,l1)) ak bO).1) ?_;rintro⟨a1,n1,k1,a2,n2,k2,a3,n3,k3,mm,a4,n4,k4',a5,n5,k5,bb,rfl⟩;dsimp only
  repeat'(first|refine ar ?_|fail)
  all_goals exact H1
 rw[if_neg q3]at hr
 by_cases q4:x.op=0
 ·have hop:=q4
  rw[if_pos q4]at hr
  obtain⟨cc,hcc⟩:∃cc,gk c=cc:=⟨_,rfl⟩
  have hk:∀w',Ext w w'→Calls G.P 69 #[.agg (eN c ⟨⟨.slice p1 c.ao.ts.length c1,.slice p2 c.ao.ps.length c2,.slice p3 c.ao.ps.length c3⟩,.slice p4 c.fs.length c4,.slice p5 c.results.length c5,z⟩).toArray] w' (bD (cG cc) (fun y=>.agg (eN cc y).toArray) (AF F w (fun _=>False)) w'):=fun w' hx=>by rw[←hcc];exact ox _ c _ w' (hst w' hx) hfl hs hpl
  rw[hcc]at hr
  subst hr
  dsimp only[eN]at hk
  repeat'(first|refine ar ?_|(refine NV fun b_=>?_)|refine lZ ?_|fail)
  all_goals first|(exfalso;omega)|skip
  refine aa.he (HE.bV (V:=cG c) (V2:=cG cc) (tf:=fun y=>.agg (eN cc y).toArray) (w0:=w) (F:=F) (D:=fun _=>False) (y:=⟨⟨.slice p1 c.ao.ts.length c1,.slice p2 c.ao.ps.length c2,.slice p3 c.ao.ps.length c3⟩,.slice p4 c.fs.length c4,.slice p5 c.results.length c5,z⟩) (cG.fr _) (cG.lt _) (cG.mo _) ak bO (fun _=>aH) rfl rfl (fun w' hw' _=>hk w' hw'.at)) rfl ?_
  rintro⟨D5,y5⟩ _
  refine aa.pure (φ:=∃a1 n1 c1 a2 n2 c2 a3 n3 c3 a4 n4 c4 a5 n5 c5,∃z:List vC,y5=⟨⟨.slice a1 n1 c1,.slice a2 n2 c2,.slice a3 n3 c3⟩,.slice a4 n4 c4,.slice a5 n5 c5,z⟩) (fun w' hw'=>by obtain⟨p1,c1,p2,c2,p3,c3,p4,c4,p5,c5,e,-⟩:=(hw'.an (V:=cG cc) (w0:=w) (F:=F) (D:=D5) (y:=y5) ak bO).gx;exact⟨p1,_,c1,p2,_,c2,p3,_,c3,p4,_,c4,p5,_,c5,_,e⟩) ?_
  rintro⟨t1,m1,j1,t2,m2,j2,t3,m3,j3,t4,m4,j4,t5,m5,j5,z5,rfl⟩
  dsimp only[eN]
  repeat'(first|refine ar ?_|fail)
  all_goals first|(exfalso;omega)|(refine ah.aM (.inl rfl) rfl rfl rfl rfl rfl aH rfl rfl ?_;exact fun w' hw'=>gC.ok (c:=cc) ⟨⟨.slice t1 m1 j1,.slice t2 m2 j2,.slice t3 m3 j3⟩,.slice t4 m4 j4,.slice t5 m5 j5,z5⟩ (hw'.new (V:=cG cc) (w:=w) (F:=F) (D:=D5) (y:=⟨⟨.slice t1 m1 j1,.slice t2 m2 j2,.slice t3 m3 j3⟩,.slice t4 m4 j4,.slice t5 m5 j5,z5⟩) (cG.mo _) ak bO) hw'.at)
 rw[if_neg q4]at hr
 by_cases q5:jumps x.op
 ·rw[if_pos q5]at hr
  unfold s6 at hr
  have q5':=q5
  unfold jumps at q5'
  by_cases r15:x.op=15
  ·have hop:=r15
   have hb:c.ao.ts.length≤17592186044416:=by omega
   rw[if_pos r15]at hr
   have hk:∀w',Ext w w'→Calls G.P 70 #[.agg (eN c ⟨⟨.slice p1 c.ao.ts.length c1,.slice p2 c.ao.ps.length c2,.slice p3 c.ao.ps.length c3⟩,.slice p4 c.fs.length c4,.slice p5 c.results.length c5,z⟩).toArray,.slice p5 c.results.length c5,.int .i64 0] w' (gC r (AF F w (fun _=>False)) w'):=fun w' hx=>by rw[←hr];exact qM _ c _ w' (hst w' hx) c.results p5 c.results.length c5 0 (fun _=>⟨rfl,kl h.2.2.1 hx _⟩) hfl hs hpl hb
   dsimp only[eN]at hk
   repeat'(first|refine ar ?_|(refine NV fun b_=>?_)|refine lZ ?_|fail)
   all_goals first|(exfalso;omega)|skip
   refine Np ?_
   repeat'(first|refine pG ?_|(refine ax.dz 71 ?_;refine ax.he rfl rfl (HE.eK rfl rfl (fun w' hw'=>yD _ c ⟨⟨.slice p1 c.ao.ts.length c1,.slice p2 c.ao.ps.length c2,.slice p3 c.ao.ps.length c3⟩,.slice p4 c.fs.length c4,.slice p5 c.results.length c5,z⟩ w' (hst w' hw'.at))) (fun _=>bw) (fun _=>aU) ?_;rintro⟨⟩ _)|(refine ax.dz 70 ?_;refine ax.he rfl rfl (HE.bV (V:=cG c) (V2:=fX r) (tf:=fun x=>.tuple #[.agg x.2.toArray,.int .i64 r.2]) (w0:=w) (F:=F) (D:=fun _=>False) (y:=⟨⟨.slice p1 c.ao.ts.length c1,.slice p2 c.ao.ps.length c2,.slice p3 c.ao.ps.length c3⟩,.slice p4 c.fs.length c4,.slice p5 c.results.length c5,z⟩) (fX.fr _) (fX.lt _) (fX.mo _) ak bO (fun _=>aH) rfl rfl (fun w' hw' _=>hk w' hw'.at)) (fun _=>bw) (fun _=>aU) ?_;rintro⟨D1,y1,l1⟩ _;refine aN.pure (φ:=fG l1) (fun w' hw'=>(hw'.an (V:=fX r) (w0:=w) (F:=F) (D:=D1) (y:=(y1,l1)) ak bO).1) ?_;rintro⟨a1,n1,k1,a2,n2,k2,a3,n3,k3,mm,a4,n4,k4',a5,n5,k5,bb,rfl⟩;dsimp only)|(refine ax.nf ?_;refine ax.jQ rfl (gj.bn _ rfl rfl rfl rfl rfl rfl aH rfl) (fun _=>bw) (fun _=>aU) ?_;rintro⟨⟩ _)|refine aN.nil O3 ?_|refine aN.any O3 ?_|exact aB.fin rfl|refine aB.skip O3 ?_|refine aB.go ?_ ?_)
   all_goals
    repeat'(first|refine ar ?_|fail)
    all_goals exact H1
  rw[if_neg r15]at hr
  by_cases r14:x.op=14
  ·have hop:=r14
   rw[if_pos r14]at hr
   have hk:∀w',Ext w w'→Calls G.P 74 #[.agg (eN c ⟨⟨.slice p1 c.ao.ts.length c1,.slice p2 c.ao.ps.length c2,.slice p3 c.ao.ps.length c3⟩,.slice p4 c.fs.length c4,.slice p5 c.results.length c5,z⟩).toArray,.agg #[Pf .i64 x.op,Pf .i64 x.a,Pf .i64 x.b,Pf .u64 x.n,Pf .i64 x.kind,Pf .i64 x.val,Pf .i64 x.index,Pg pt x.types.length ct,Pg pl x.labels.length cl]] w' (gC r (AF F w (fun _=>False)) w'):=fun w' hx=>by rw[←hr];exact uD _ c _ w' (hst w' hx) x pt pl ct cl (kl hl2 hx _) hll hfl hs hpl hlb
   dsimp only[eN]at hk
   repeat'(first|refine ar ?_|(refine NV fun b_=>?_)|refine lZ ?_|fail)
   all_goals first|(exfalso;omega)|skip
   refine No ?_
   rintro⟨D1,y1,l1⟩ _;refine aa.pure (φ:=fG l1) (fun w' hw'=>(hw'.an (V:=fX r) (w0:=w) (F:=F) (D:=D1) (y:=(y1,l1)) ak bO).1) ?_;rintro⟨a1,n1,k1,a2,n2,k2,a3,n3,k3,mm,a4,n4,k4',a5,n5,k5,bb,rfl⟩;dsimp only
   repeat'(first|refine ar ?_|fail)
   all_goals exact H1
  rw[if_neg r14]at hr
  by_cases r13:x.op=13
  ·have hop:=r13
   have hb:=hts
   rw[if_pos r13]at hr
   obtain⟨u,hu,hcall⟩:=nq F c ⟨⟨.slice p1 c.ao.ts.length c1,.slice p2 c.ao.ps.length c2,.slice p3 c.ao.ps.length c3⟩,.slice p4 c.fs.length c4,.slice p5 c.results.length c5,z⟩ w h x.a
   have hlb:=hlb x.a
   obtain⟨q,hq⟩:∃q,eX c x.a=q:=⟨_,rfl⟩
   rw[hq]at hu hcall hlb hr
   obtain⟨l,e⟩:=q
   dsimp only at hu hcall hlb hr
   obtain⟨pu,cu,rfl,_⟩:=hu.slice
   dsimp only[eN]at hcall
   by_cases he:e=0
   ·subst he
    rw[if_neg (fun h=>h rfl)]at hr
    have hk:∀D w' pb cb,Ext w w'→cG c (AF F w D) w' ⟨⟨.slice p1 c.ao.ts.length c1,.slice p2 c.ao.ps.length c2,.slice p3 c.ao.ps.length c3⟩,.slice p4 c.fs.length c4,.slice p5 c.results.length c5,z⟩→ai (AF F w D) w' (.slice pb (l++[(1:Int)]).length cb) (l++[(1:Int)])→Calls G.P 73 #[.agg (eN c ⟨⟨.slice p1 c.ao.ts.length c1,.slice p2 c.ao.ps.length c2,.slice p3 c.ao.ps.length c3⟩,.slice p4 c.fs.length c4,.slice p5 c.results.length c5,z⟩).toArray,.agg #[.slice pb (l++[(1:Int)]).length cb,.slice pu l.length cu]] w' (gC r (AF F w D) w'):=fun D w' pb cb hx h1 h2=>by rw[←hr];exact oz _ c _ w' h1 ⟨l++[(1:Int)],l⟩ pb pu cb cu ⟨h2,kl hu hx _⟩ hs (by show c.ao.ts.length+l.length≤_;omega)
    dsimp only[eN]at hk
    repeat'(first|refine ar ?_|(refine NV fun b_=>?_)|refine lZ ?_|refine Oe ?_|fail)
    all_goals first|(exfalso;omega)|skip
    (try simp only[List.getElem_toArray,List.getElem_cons_zero,List.getElem_cons_succ])
    refine Np ?_
    repeat'(first|refine pG ?_|(refine ax.lD ?_;refine ax.he rfl rfl (HE.jJ rfl rfl rfl rfl rfl ep Pe Pe) (fun _=>bw) (fun _=>aU) ?_;rintro bl0 _;refine aN.map (fun w' hw'=>hw'.jP (b:=bl0) (len:=0) (s:=1) aH rfl OY) ?_)|(refine ax.lD ?_;refine ax.he rfl rfl (HE.jJ rfl rfl rfl rfl rfl ep Pe Pe) (fun _=>bw) (fun _=>aU) ?_;rintro bl _)|(refine ax.rl ?_;refine ax.he rfl rfl (HE.app rfl rfl (fun _=>aH) aH rfl rfl rfl Pe Pe Pe Pe Pe Pe Pc (fun _ _=>Po _)) (fun _=>bw) (fun _=>aU) ?_;rintro vb _;refine aN.pure (φ:=∃p cc,vb=.slice p (l++[(1:Int)]).length cc) (fun w' hw'=>by obtain⟨p,cc,e,_⟩:=aw (hw'.own (v:=vb));exact⟨p,cc,by rw[e,Pt];rfl⟩) ?_;rintro⟨pb,cb,rfl⟩;refine aN.Je (B:=0) (T:=fT) (m:=l.length+1) (v:=.slice pb (l++[(1:Int)]).length cb) (cs:=aZ l++[.int .i64 1]) (w0:=w) (F:=F) (l++[(1:Int)]) aH (by rw[Pt];rfl) (qe l 1).symm (by rw[Pt];show l.length+1≤_;omega) ?_;refine aN.yv (V:=cG c) (V2:=Ir (l++[(1:Int)])) (w0:=w) (F:=F) (D:=fun _=>False) (D2:=fun k=>(Pg pb (l++[(1:Int)]).length cb).ownBlock=some k) (y:=⟨⟨.slice p1 c.ao.ts.length c1,.slice p2 c.ao.ps.length c2,.slice p3 c.ao.ps.length c3⟩,.slice p4 c.fs.length c4,.slice p5 c.results.length c5,z⟩) (y2:=.slice pb (l++[(1:Int)]).length cb) (cG.mo _) (Ir.mo _) jK jK ?_)|(refine ax.rl ?_;refine ax.he rfl rfl (HE.gP (aZ l) rfl rfl (fun _=>aH) (jL hu ak) O9 rfl rfl rfl Pe Pe Pe (fj _) (by show(0+l.length)*8≤_;omega) Pc (fun _ _=>Po _)) (fun _=>bw) (fun _=>aU) ?_;rintro va _;simp only[Pm,Pi];refine aN.pure (φ:=∃p cc,va=.slice p l.length cc) (fun w' hw'=>by obtain⟨p,cc,e,_⟩:=aw (hw'.own (v:=va));exact⟨p,cc,e⟩) ?_;rintro⟨pa,ca,rfl⟩)|(refine ax.dz 73 ?_;refine ax.he rfl rfl (HE.bV (V:=HJ (cG c) (Ir (l++[(1:Int)]))) (V2:=fX r) (tf:=fun x=>.tuple #[.agg x.2.toArray,.int .i64 r.2]) (w0:=w) (F:=F) (D:=fun k=>False∨(Pg pb (l++[(1:Int)]).length cb).ownBlock=some k) (y:=(⟨⟨.slice p1 c.ao.ts.length c1,.slice p2 c.ao.ps.length c2,.slice p3 c.ao.ps.length c3⟩,.slice p4 c.fs.length c4,.slice p5 c.results.length c5,z⟩,.slice pb (l++[(1:Int)]).length cb)) (fX.fr _) (fX.lt _) (fX.mo _) ak bO (fun _=>aH) rfl rfl (fun w' hw' hh=>hk _ w' pb cb hw'.at hh.1 hh.2)) (fun _=>bw) (fun _=>aU) ?_;rintro⟨D1,y1,l1⟩ _;refine aN.pure (φ:=fG l1) (fun w' hw'=>(hw'.an (V:=fX r) (w0:=w) (F:=F) (D:=D1) (y:=(y1,l1)) ak bO).1) ?_;rintro⟨a1,n1,k1,a2,n2,k2,a3,n3,k3,mm,a4,n4,k4',a5,n5,k5,bb,rfl⟩;dsimp only)|(refine ax.nf ?_;refine ax.jQ rfl (gj.bn _ rfl rfl rfl rfl rfl rfl aH rfl) (fun _=>bw) (fun _=>aU) ?_;rintro⟨⟩ _)|refine aN.nil O3 ?_|refine aN.any O3 ?_|exact aB.fin rfl|refine aB.skip O3 ?_|refine aB.go ?_ ?_)
    all_goals
     repeat'(first|refine ar ?_|fail)
     all_goals exact H1
   ·rw[if_pos he]at hr
    subst hr
    repeat'(first|refine ar ?_|(refine NV fun b_=>?_)|refine lZ ?_|refine Oe ?_|fail)
    all_goals exact Id
  rw[if_neg r13]at hr
  have hop:x.op=12:=by omega
  have hb:c.ao.ts.length≤17592186044416:=by omega
  obtain⟨u,hu,hcall⟩:=nq F c ⟨⟨.slice p1 c.ao.ts.length c1,.slice p2 c.ao.ps.length c2,.slice p3 c.ao.ps.length c3⟩,.slice p4 c.fs.length c4,.slice p5 c.results.length c5,z⟩ w h x.a
  have hlb:=hlb x.a
  obtain⟨q,hq⟩:∃q,eX c x.a=q:=⟨_,rfl⟩
  rw[hq]at hu hcall hlb hr
  obtain⟨l,e⟩:=q
  dsimp only at hu hcall hlb hr
  obtain⟨pu,cu,rfl,_⟩:=hu.slice
  have hk:∀w',Ext w w'→Calls G.P 70 #[.agg (eN c ⟨⟨.slice p1 c.ao.ts.length c1,.slice p2 c.ao.ps.length c2,.slice p3 c.ao.ps.length c3⟩,.slice p4 c.fs.length c4,.slice p5 c.results.length c5,z⟩).toArray,.slice pu l.length cu,.int .i64 e] w' (gC r (AF F w (fun _=>False)) w'):=fun w' hx=>by rw[←hr];exact qM _ c _ w' (hst w' hx) l pu l.length cu e (fun _=>⟨rfl,kl hu hx _⟩) hfl hs hpl hb
  dsimp only[eN]at hk hcall
  repeat'(first|refine ar ?_|(refine NV fun b_=>?_)|refine lZ ?_|refine Oe ?_|fail)
  all_goals first|(exfalso;omega)|skip
  refine No ?_
  rintro⟨D1,y1,l1⟩ _;refine aa.pure (φ:=fG l1) (fun w' hw'=>(hw'.an (V:=fX r) (w0:=w) (F:=F) (D:=D1) (y:=(y1,l1)) ak bO).1) ?_;rintro⟨a1,n1,k1,a2,n2,k2,a3,n3,k3,mm,a4,n4,k4',a5,n5,k5,bb,rfl⟩;dsimp only
  repeat'(first|refine ar ?_|fail)
  all_goals exact H1
 rw[if_neg q5]at hr
 by_cases q6:ku x.op
 ·have hop:=q6
  have hb:c.ao.ts.length+1≤17592186044416:=by omega
  rw[if_pos q6]at hr
  have hk:∀w',Ext w w'→Calls G.P 75 #[.agg (eN c ⟨⟨.slice p1 c.ao.ts.length c1,.slice p2 c.ao.ps.length c2,.slice p3 c.ao.ps.length c3⟩,.slice p4 c.fs.length c4,.slice p5 c.results.length c5,z⟩).toArray,.int .i64 x.op] w' (gC r (AF F w (fun _=>False)) w'):=fun w' hx=>by rw[←hr];exact Ar _ c _ w' (hst w' hx) x.op hop hs hb
  dsimp only[eN]at hk
  unfold ku at hop
  rcases hop with hop|hop|hop
  all_goals
   repeat'(first|refine ar ?_|(refine NV fun b_=>?_)|refine lZ ?_|fail)
   all_goals first|(exfalso;omega)|skip
   refine No ?_
   rintro⟨D1,y1,l1⟩ _;refine aa.pure (φ:=fG l1) (fun w' hw'=>(hw'.an (V:=fX r) (w0:=w) (F:=F) (D:=D1) (y:=(y1,l1)) ak bO).1) ?_;rintro⟨a1,n1,k1,a2,n2,k2,a3,n3,k3,mm,a4,n4,k4',a5,n5,k5,bb,rfl⟩;dsimp only
   repeat'(first|refine ar ?_|fail)
   all_goals exact H1
 rw[if_neg q6]at hr
 have ha:=tl q1 q2 q3 q4 q5 q6
 have hb:=htb hp ha
 have hop:x.op≠2∧x.op≠3∧x.op≠4∧x.op≠5∧x.op≠11∧x.op≠0∧x.op≠12∧x.op≠13∧x.op≠14∧x.op≠15∧x.op≠26∧x.op≠27∧x.op≠209:=by simpa[jW,and_assoc]using ha
 have hwa:∀w',Ext w w'→Calls G.P 76 #[.agg ([v0,v1,v2,v3,v4,v5,v6,Ph m.aI,Pf .i64 m.start,v7,v8,v9]).toArray,.slice lp locals.length lc,.agg #[Pf .i64 x.op,Pf .i64 x.a,Pf .i64 x.b,Pf .u64 x.n,Pf .i64 x.kind,Pf .i64 x.val,Pf .i64 x.index,Pg pt x.types.length ct,Pg pl x.labels.length cl]] w' (jx (kA m locals x) (AF F w (fun _=>False)) w'):=fun w' hx=>(Ap F m _ locals x lp pt pl lc ct cl w' (hm0.aP hx (fun _ _ _ h=>h)) (hl.aP hx (fun _ _ _ h=>h)) (ht.aP hx (fun _ _ _ h=>h)) (fun k hk=>Pw (hF k hk) hx.size) hT (hl2.aP hx (fun _ _ _ h=>h))).mono fun _ _ hg=>bD.HG (V:=dH _) (fun h hd=>h.mono hd) hg (fun k hk=>.inl ⟨hk,hF k hk⟩)
 obtain⟨q,hq⟩:∃q,kA m locals x=q:=⟨_,rfl⟩
 rw[hq]at hwa hb hr
 obtain⟨f,e⟩:=q
 dsimp only at hwa hb hr
 by_cases he:e=0
 ·subst he
  rw[if_neg (fun h=>h rfl)]at hr
  have hk:∀D w' pa ca pb cb,Ext w w'→cG c (AF F w D) w' ⟨⟨.slice p1 c.ao.ts.length c1,.slice p2 c.ao.ps.length c2,.slice p3 c.ao.ps.length c3⟩,.slice p4 c.fs.length c4,.slice p5 c.results.length c5,z⟩→dH f (AF F w D) w' (.slice pa f.params.length ca,.slice pb f.results.length cb)→Calls G.P 73 #[.agg (eN c ⟨⟨.slice p1 c.ao.ts.length c1,.slice p2 c.ao.ps.length c2,.slice p3 c.ao.ps.length c3⟩,.slice p4 c.fs.length c4,.slice p5 c.results.length c5,z⟩).toArray,.agg #[.slice pa f.params.length ca,.slice pb f.results.length cb]] w' (gC r (AF F w D) w'):=fun D w' pa ca pb cb hx h1 h2=>by rw[←hr];exact oz _ c _ w' h1 f pa pb ca cb h2 hs hb
  dsimp only[eN]at hk
  repeat'(first|refine ar ?_|(refine NV fun b_=>?_)|refine lZ ?_|(refine aa.aj (f:=76) ?_;refine aa.he (HE.qz (V:=dH f) (w0:=w) (F:=F) (tf:=fun y:Value×Value=>.tuple #[.agg #[y.1,y.2],.int .i64 0]) (dH.fr f) (dH.lt f) (dH.mo f) ak rfl rfl (fun w' hw'=>hwa w' hw'.at)) rfl ?_;rintro⟨D_,u1_,u2_⟩ _;dsimp only;refine aa.pure (φ:=(∃p c,u1_=.slice p f.params.length c)∧∃p c,u2_=.slice p f.results.length c) (fun w' hw'=>dH.shape (hw'.an (V:=dH f) (w0:=w) (F:=F) (D:=D_) (y:=(u1_,u2_)) ak bO)) ?_;rintro⟨⟨p_,c_,rfl⟩,⟨q_,d_,rfl⟩⟩)|fail)
  all_goals first|(exfalso;omega)|skip
  refine Nm ?_
  refine Nn ?_
  rintro⟨D1,y1,l1⟩ _;refine aa.pure (φ:=fG l1) (fun w' hw'=>(hw'.an (V:=fX r) (w0:=w) (F:=F) (D:=D1) (y:=(y1,l1)) ak bO).1) ?_;rintro⟨a1,n1,k1,a2,n2,k2,a3,n3,k3,mm,a4,n4,k4',a5,n5,k5,bb,rfl⟩;dsimp only
  repeat'(first|refine ar ?_|fail)
  all_goals exact H1
 ·rw[if_pos he]at hr
  subst hr
  repeat'(first|refine ar ?_|(refine NV fun b_=>?_)|refine lZ ?_|(refine aa.aj (f:=76) ?_;refine aa.he (HE.qz (V:=dH f) (w0:=w) (F:=F) (tf:=fun y:Value×Value=>.tuple #[.agg #[y.1,y.2],.int .i64 e]) (dH.fr f) (dH.lt f) (dH.mo f) ak rfl rfl (fun w' hw'=>hwa w' hw'.at)) rfl ?_;rintro⟨D_,u1_,u2_⟩ _;dsimp only;refine aa.pure (φ:=(∃p c,u1_=.slice p f.params.length c)∧∃p c,u2_=.slice p f.results.length c) (fun w' hw'=>dH.shape (hw'.an (V:=dH f) (w0:=w) (F:=F) (D:=D_) (y:=(u1_,u2_)) ak bO)) ?_;rintro⟨⟨p_,c_,rfl⟩,⟨q_,d_,rfl⟩⟩)|fail)
  all_goals exact Id
structure IA (c:dv) (m:af) (locals:List Int) (x:cv):Prop where
 fs:c.fs.length≤1000
 ts:c.ao.ts.length≤1000000000000
 res:c.results.length≤100000000000
 kT:∀n,(cT c n).1.length≤100000000000
 par:c.top.par.length≤100000000000
 rs:c.top.res.length≤100000000000
 ll:x.labels.length≤10000000
 aV:∀f,cX m x.kind x.val x.index=some f→(c.ao.ts.length+f.params.length)*8≤140737488355328
 Ky:(c.ao.ts.length+(fN m locals x).1.results.length)*8≤140737488355328
theorem BS (F:Nat→Prop) (cp:Nat) (c:dv) (v:jI) (m:af) (locals:List Int) (sv:Value) (x:cv) (lp pt pl:Option Addr) (lc ct cl:Nat) (w:World) (hw:Ok (aT cp c v) (qg B F m sv locals (.slice lp locals.length lc) x (.slice pt x.types.length ct) (.slice pl x.labels.length cl)) w) (hg:v.Good c) (hwf:c.Wf) (hb:c.broken=0) (hT:m7 m) (hB:IA c m locals x):
  Calls G.P 32 #[.pointer (some ⟨cp,0,none⟩),sv,.slice lp locals.length lc,.agg #[Pf .i64 x.op,Pf .i64 x.a,Pf .i64 x.b,Pf .u64 x.n,Pf .i64 x.kind,Pf .i64 x.val,Pf .i64 x.index,Pg pt x.types.length ct,Pg pl x.labels.length cl]] w (aJ (aT cp c v) cp (fC c m locals x) w):=by
 have h1:=hB.fs
 have h2:=hB.ts
 have h3:=hB.par
 have h4:=hB.rs
 unfold fC
 cases hp:cW x with
 |false=>rw[if_pos rfl];exact wG B F cp c v m locals sv x lp pt pl lc ct cl w hw hp
 |true=>
  rw[if_neg Pb]
  by_cases q1:opens x.op
  ·rw[if_pos q1];exact sP B F cp c v m locals sv x lp pt pl lc ct cl w hw hg hwf hb hp q1 h1 hB.aV
  rw[if_neg q1]
  by_cases q2:x.op=5
  ·rw[if_pos q2];exact sN B F cp c v m locals sv x lp pt pl lc ct cl w hw hg hwf hb hp q2 h1 Pc
  rw[if_neg q2]
  by_cases q3:x.op=11
  ·rw[if_pos q3];exact uX B F cp c v m locals sv x lp pt pl lc ct cl w hw hg hwf hb hp q3 h1 Pc
  rw[if_neg q3]
  by_cases q4:x.op=0
  ·rw[if_pos q4];exact uY B F cp c v m locals sv x lp pt pl lc ct cl w hw hg hwf hb hp q4
  rw[if_neg q4]
  by_cases q5:jumps x.op
  ·rw[if_pos q5];exact sO B F cp c v m locals sv x lp pt pl lc ct cl w hw hg hwf hb hp q5 hB.res hB.kT hB.ll h2
  rw[if_neg q5]
  by_cases q6:ku x.op
  ·rw[if_pos q6];exact sQ B F cp c v m locals sv x lp pt pl lc ct cl w hw hg hwf hb hp q6 Pc
  rw[if_neg q6]
  exact rH B F cp c v m locals sv x lp pt pl lc ct cl w hw hg hwf hp (tl q1 q2 q3 q4 q5 q6) hT (Hr _ hB.Ky)
theorem Bi {c:dv} (hb:c.broken=0) (hk:c.Ok) {k:Nat} (h:∀n,(cT c n).1.length≤k) (n:Int):(eX (bP c) n).1.length≤k:=by rw[←rq c n hb hk];exact h n
theorem Ao (lc ct cl:Nat) (w:World) (h:cG (bP c) F w y) (hm:av F w cs m) (hl:ai F w (.slice lp locals.length lc) locals) (ht:ai F w (.slice pt x.types.length ct) x.types) (hl2:ai F w (.slice pl x.labels.length cl) x.labels) (hF:∀k,F k→k<w.heap.size) (hT:m7 m) (hwf:c.Wf) (hok:c.Ok) (hb:c.broken=0) (hB:IA c m locals x):
  Calls G.P 37 #[.agg (eN (bP c) y).toArray,.agg cs.toArray,.slice lp locals.length lc,.agg #[Pf .i64 x.op,Pf .i64 x.a,Pf .i64 x.b,Pf .u64 x.n,Pf .i64 x.kind,Pf .i64 x.val,Pf .i64 x.index,Pg pt x.types.length ct,Pg pl x.labels.length cl]] w (gC (pJ (bP c) m locals x) F w):=by
 have h1:=hB.fs
 have h2:=hB.ts
 have h3:=hB.par
 have h4:=hB.rs
 have hts:(bP c).ao.ts.length=c.ao.ts.length:=rfl
 have hs:(bP c).ao.Wf:=hwf.ao
 have hfl:(bP c).fs.length≤1000000:=by rw[cU];omega
 have hmany:(bP c).ao.ps.length=(bP c).fs.length+1:=by rw[cU];exact hwf.many
 have hpl:(bP c).ao.ps.length≤1000000:=by rw[hmany,cU];omega
 have hlb:∀n,(eX (bP c) n).1.length≤100000000000:=Bi hb hok hB.kT
 have htop:(bP c).fs.length≠0→(ix (bP c).fs ((bP c).fs.length - 1)).par=c.top.par∧(ix (bP c).fs ((bP c).fs.length - 1)).res=c.top.res:=fun hn=>by
  rw[cU]at hn ⊢
  rw[iQ c Pc];exact⟨rfl,rfl⟩
 have hpar:(ix (bP c).fs ((bP c).fs.length - 1)).par.length≤100000000000:=by
  by_cases hn:(bP c).fs.length=0
  ·rw[hn];have:(bP c).fs=[]:=P6 hn;rw[this];exact Po _
  ·rw[(htop hn).1];exact h3
 have hres:(ix (bP c).fs ((bP c).fs.length - 1)).res.length≤100000000000:=by
  by_cases hn:(bP c).fs.length=0
  ·rw[hn];have:(bP c).fs=[]:=P6 hn;rw[this];exact Po _
  ·rw[(htop hn).2];exact h4
 exact yE F (bP c) y m cs locals x lp pt pl lc ct cl w h hm hl ht hl2 hF hT hs hfl hpl hmany Pc hpar hres hlb hB.ll (fun f hf=>by have:=hB.aV f hf;omega) (fun hp ha=>by
  have e:=vz m locals x
  unfold qf at e
  rw[if_neg (by rw[hp];decide),ha,if_neg Pb]at e
  rw[←e];have:=hB.Ky;omega)
theorem GU {F:Nat→Prop} {w w':World} {cs:List Value} {m:af} (h:av F w cs m) (hx:Ext w w') (D:Nat→Prop):av (AF F w D) w' cs m:=((h.mono fun _ hk hF=>⟨hF,hk⟩:av (fun k=>F k∧k<w.heap.size) w cs m).aP hx (fun _ _ _ h=>h)).mono fun _ _ h=>.inl h
theorem cG.sh {c:gA} {D:Nat→Prop} {w:World} {y:jE} (h:cG c D w y):∃a1 n1 c1 a2 n2 c2 a3 n3 c3 a4 n4 c4 a5 n5 c5,∃z:List vC,y=⟨⟨.slice a1 n1 c1,.slice a2 n2 c2,.slice a3 n3 c3⟩,.slice a4 n4 c4,.slice a5 n5 c5,z⟩:=by
 obtain⟨p1,c1,p2,c2,p3,c3,p4,c4,p5,c5,e,-⟩:=h.gx
 exact⟨p1,_,c1,p2,_,c2,p3,_,c3,p4,_,c4,p5,_,c5,_,e⟩
theorem Am (h:cG (bP c) D w y) (hb:c.broken=0) (hn:0<c.fs.length):Calls G.P 36 #[.agg (eN (bP c) y).toArray] w fun e w'=>e=.returned (.bool c.live)∧Ext w w':=by
 have:=BK D (bP c) y w h (by rw[cU];exact hn)
 rw[GO c hb hn]at this;exact this
def Gd (K:Nat) (m:af):Prop:=∀f∈m.types,f.params.length≤K∧f.results.length≤K
theorem Gd.b {m:af} (h:Gd K m) (hK:K≤17592186043904):m7 m:=fun f hf=>⟨Nat.le_trans (h f hf).1 hK,Py (h f hf).2 hK⟩
theorem nV {m:af} (h1:1≤K) (hT:Gd K m) {k v i:Int} {f:aO} (h:cX m k v i=some f):f.params.length≤K∧f.results.length≤K:=by
 unfold cX at h
 split at h
 ·cases h;exact⟨Nat.zero_le _,Po _⟩
 ·split at h
  ·split at h
   ·cases h;exact⟨Nat.zero_le _,h1⟩
   ·cases h
  ·split at h
   ·exact hT _ (m9 h)
   ·cases h
theorem qc {m:af} {locals:List Int} {x:cv} {f:aO} {e:Int} (_h1:100≤K) (hT:Gd K m) (h:fN m locals x=(f,e)):f.results.length≤K:=by
 have hfun:∀g,gH m x.a=some g→g∈m.types:=fun g hg=>by
  unfold gH at hg
  cases ha:cJ (gI m) x.a with
  |none=>rw[ha]at hg;cases hg
  |some t=>rw[ha]at hg;exact m9 hg
 have hs:=Hb x.op
 unfold fN dY bZ eP dt dr at h
 dsimp only at h
 repeat' split at h
 all_goals cases h
 all_goals first
  |(dsimp only[dF,List.length_cons,List.length_nil];omega)
  |(have:=hT _ (hfun _ O7);omega)
  |(have:=hT _ (m9 O7);dsimp only;omega)
  |omega
theorem DL (h:results.length≤K):kn K 0 (jR results):=by
 refine⟨GW _,rfl,by unfold ck.Fit;exact Po _,fun f hf=>?_,Pr 0⟩
 have:f=⟨0,[],results,false,true⟩:=by simpa[jR]using hf
 subst this
 exact⟨Nat.zero_le _,h⟩
def oY (m:af) (i:Int):Option aO:=match cJ m.funcs i with|none=>none|some c=>cJ m.types c.dI
def kU (m:af) (i:Int) (f:aO):List Int:=f.params++(ix m.funcs i.toNat).locals
section
variable (m:af) (locals:List Int) (xs:List cv)
def Dq:Nat→Nat→dv→Int×Int
 |0,_,_=>(0,0)
 |n+1,k,c=>if(fC c m locals (ix xs k)).2≠0 then(k,(fC c m locals (ix xs k)).2)else if dB (fC c m locals (ix xs k)).1.ao then(k,6)else Dq n (k+1) (fC c m locals (ix xs k)).1
def BZ:Nat→Nat→dv→List (Bool×List Int)
 |0,_,_=>[]
 |n+1,k,c=>(c.live,c.ao.ts)::BZ n (k+1) (fC c m locals (ix xs k)).1
end
structure pH (K:Nat) (results:List Int) (k:Nat) (c:dv):Prop where
 wf:c.Wf
 bk:c.broken=0
 fit:c.ao.Fit
 fr:Cl K c.fs
 ov:c.ao.bQ≤256
 fs:c.fs.length≤k+1
 rs:c.results=results
theorem pH.new (h:results.length≤K):pH K results 0 (jR results):=by
 have h1:=DL results h
 exact⟨h1.wf,h1.bk,h1.fit,h1.fr,Po _,Pr 1,rfl⟩
theorem pH.kc {K k:Nat} {results:List Int} {c:dv} (h:pH K results k c):kn K 256 c:=⟨h.wf,h.bk,h.fit,h.fr,Py h.fit h.ov⟩
theorem pH.bounds {K k:Nat} {results:List Int} {c:dv} (h:pH K results k c) {m:af} {locals:List Int} {x:cv} (hT:Gd K m) (hK:100≤K) (_hK2:K≤1048576) (hr:results.length≤K) (_hk:k≤900) (_hll:x.labels.length≤1048576):IA c m locals x:=by
 have hts:c.ao.ts.length≤256:=Py h.fit h.ov
 have hfs:=h.fs
 refine⟨by omega,by omega,by rw[h.rs];omega,fun n=>Py (h.fr.label n) Pc,Py h.fr.top.1 Pc,Py h.fr.top.2 Pc,by omega,fun f hf=>?_,?_⟩
 ·have:=(nV Pc hT hf).1;omega
 ·obtain⟨r,hr⟩:∃r,fN m locals x=r:=⟨_,rfl⟩
  obtain⟨f,e⟩:=r
  have:=qc hK hT hr
  rw[hr];dsimp only;omega
theorem pH.next {K k:Nat} {results:List Int} {c:dv} (h:pH K results k c) {m:af} {locals:List Int} {x:cv} (hT:Gd K m) (hK:100≤K) (e:(fC c m locals x).2=0) (ho:dB (fC c m locals x).1.ao=false):pH K results (k+1) (fC c m locals x).1:=by
 obtain⟨h1,h2,h3,-⟩:=qt h.kc (m:=m) (locals:=locals) (x:=x) Pc (fun f hf=>nV Pc hT hf) (by
  obtain⟨r,hr⟩:∃r,fN m locals x=r:=⟨_,rfl⟩
  obtain⟨f,e⟩:=r
  rw[hr];exact qc hK hT hr) e
 have hfs:=h.fs
 have hov:¬256<(fC c m locals x).1.ao.bQ:=of_decide_eq_false ho
 exact⟨h1.wf,h1.bk,h1.fit,h1.fr,by omega,by omega,by rw[←h.rs];exact h2⟩
theorem B5 (sp:Nat) (s:ck) (x:Value×Value) (w:World) (hw:Ok (aX sp s x) [] w) (hp:0<s.ps.length):Calls G.P 33 #[.pointer (some ⟨sp,0,none⟩)] w fun e w'=>e=.returned (.bool (dB s))∧Ext w w':=by
 obtain⟨v1,v2⟩:=x;obtain⟨⟨p1,c1,e1,hcap,hg1⟩,⟨p2,c2,e2,hg2⟩,hn1,hn2⟩:=yS sp s (v1,v2) hw (Pp.refl _);dsimp only at e1 e2;subst e1;subst e2;obtain⟨g2,rfl⟩:=hg2 hp
 have k1:w.cell? ⟨sp,1,none⟩=some (.slice (some ⟨g2,0,none⟩) s.ps.length c2):=hw.c1 (T:=jH) (cs:=[.slice p1 s.ts.length c1,.slice (some ⟨g2,0,none⟩) s.ps.length c2,.bool (dB s)]) Up.head rfl
 have k2:w.cell? ⟨sp,2,none⟩=some (.bool (dB s)):=hw.c1 (T:=jH) (cs:=[.slice p1 s.ts.length c1,.slice (some ⟨g2,0,none⟩) s.ps.length c2,.bool (dB s)]) Up.head rfl
 refine ae (l:=[_]) func33 rfl ntmps33 rfl (Ok.start w) ?_
 repeat'(first|refine ar ?_|refine NX ?_|fail)
 all_goals first|omega|exact ah.aF rfl rfl fun w' hw'=>⟨rfl,hw'.at⟩
theorem BH (s:ck) (y:jV) (w:World) (h:bz s F w y):Calls G.P 38 #[.agg (gw s y).toArray] w fun e w'=>e=.returned (.bool (dB s))∧Ext w w':=by
 obtain⟨p1,c1,p2,c2,p3,c3,rfl,-⟩:=h.gx
 refine ae (l:=[_]) func38 rfl ntmps38 rfl (Ok.start w) ?_
 dsimp only[gw]
 repeat'(first|refine ar ?_|(refine aE fun b_=>?_)|fail)
 all_goals exact ah.aF rfl rfl fun w' hw'=>⟨by rw[show decide ((256:Int)<(s.bQ:Int))=dB s from by unfold dB;exact decide_eq_decide.2 Pc],hw'.at⟩
theorem Up.J1 {q q':bu} {M M':List bu} (h:Up q q' M M'):q'∈M':=by induction h with|head=>simp|tail _ ih=>simp[ih]
theorem Fi {D:Nat→Prop} {w:World} {p:Option Addr} {c:Nat} {ys:List Int} {M:List bu} {R:List (World→Prop)} (hw:Ok M R w) (hI:∀w,Ok M R w→ai D w (.slice p ys.length c) ys):ys.length=0∨∃bk o,p=some ⟨bk,o,none⟩∧∀w',Ok M R w'→∀j u,(aZ ys)[j]?=some u→w'.cell? ⟨bk,o+j,none⟩=some u:=by
 rcases tG (hI w hw)with h|⟨bk,o,rfl,-⟩
 ·exact .inl h
 ·refine .inr ⟨bk,o,rfl,fun w' hw' j u hj=>?_⟩
  rcases tG (hI w' hw')with h|⟨bk',o',e,h⟩
  ·rw[P6 h]at hj;simp[aZ]at hj
  ·cases e;exact h j u hj
section
variable {n:Nat} {E:Env} {M:List bu} {R:List (World→Prop)} {v:Value} {x y:Operand} {t:TypeId}
theorem HE.zp {Mf:Value→List bu} {ti te:TI} {B T m c:Nat} {D:Nat→Prop} {po:Option Addr} {xs:List Value} (ys:List Int) (hx:ev E x=some v) (hy:ev E y=some (.slice po ys.length c)) (hM:∀v',Up (.own B T 1 v m xs) (.own B T 1 v' (m+ys.length) (xs++aZ ys)) M (Mf v'))
  (hI:∀w,Ok M R w→ai D w (.slice po ys.length c) ys)
  (ht:G.ty t=some ti) (he:ti.elem=some T) (hte:G.ty T=some te) (hs:te.size=1) (hzs:Nat.beq te.zero.cells.size te.size=true) (hsz:Nat.blt 0 te.size=true) (hby:(m+ys.length)*te.bytes≤140737488355328) (hml:m+ys.length≤9223372036854775807) (hB:∀w,Ok M R w→B≤w.heap.size):
  HE n (.call ⟨.builtin .append,#[x,y],#[t,t]⟩) E M R (fun v':Value=>∃p c,v'=.slice p (m+ys.length) c) (fun v'=>v') Mf (fun _=>R):=
 ⟨fun w hw=>((HE.gP (aZ ys) hx hy hM (Fi hw hI) O9 ht he hte hs hzs hsz (Eo ys) hby hml hB).h w hw).mono fun v' w' ⟨x,_,e,h⟩=>by
  subst e
  refine⟨v',?_,rfl,h⟩
  obtain⟨p,c,e,_⟩:=aw (show w'.ownsRow B T 1 v' _ _ from(h.m _ (hM v').J1).1)
  exact⟨p,c,e⟩⟩
end
structure ss (m:af):Prop where
 ty:Gd 1048576 m
 loc:∀j,j<m.funcs.length→(ix m.funcs j).locals.length≤400
 len:∀j,j<m.funcs.length→(ix m.funcs j).body.length≤400
 kT:∀j,j<m.funcs.length→∀k,k<(ix m.funcs j).body.length→(ix (ix m.funcs j).body k).labels.length≤1048576
def oV (m:af) (i:Int):Option (List Int):=(oY m i).map (kU m i)
theorem yU {m:af} {j:Nat} (h:j<m.funcs.length):oY m (j:Int)=cJ m.types (ix m.funcs j).dI:=by unfold oY;rw[jX h]
theorem vw {m:af} {i:Int} (h:¬(0≤i∧i<m.funcs.length)):oY m i=none:=by unfold oY;rw[iL h]
theorem qX {m:af} {i:Int} {f:aO} (h:oY m i=some f):f∈m.types∧∃j:Nat,i=j∧j<m.funcs.length:=by
 by_cases hin:0≤i∧i<m.funcs.length
 ·obtain⟨j,rfl⟩:=PD hin.1
  have hj:j<m.funcs.length:=by omega
  rw[yU hj]at h
  exact⟨m9 h,j,rfl,hj⟩
 ·rw[vw hin]at h;cases h
theorem tt (hm:av F w cs m) (hs:bN B m w sv):Calls G.P 28 #[.agg cs.toArray,sv,.int .i64 i] w (iU (oY m i) (fun _=>False) w):=by
 have hs0:=hs
 obtain⟨bS,sp,im,dm,vs,tc,ig,dg,rfl,-,hs⟩:=hs
 obtain⟨v0,v1,v2,v3,v4,v5,v6,v7,v8,v9,rfl,r0,r1,r2,r3,r4,r5,r6,r7,r8,r9,g0⟩:=hm;obtain⟨p0,c0,rfl,l0⟩:=r0.slice;obtain⟨p1,c1,rfl,l1⟩:=r1.slice;obtain⟨p2,c2,rfl,l2⟩:=r2.slice;obtain⟨p3,c3,rfl,l3⟩:=r3.slice;obtain⟨p4,c4,rfl,l4⟩:=r4.slice;obtain⟨p5,c5,rfl,l5⟩:=r5.slice;obtain⟨p6,c6,rfl,l6⟩:=r6.slice;obtain⟨p7,c7,rfl,l7⟩:=r7.slice;obtain⟨p8,c8,rfl,l8⟩:=r8.slice;obtain⟨p9,c9,rfl,l9⟩:=r9.slice
 by_cases hin:0≤i∧i<m.funcs.length
 ·obtain⟨j,rfl⟩:=PD hin.1
  have hj:j<m.funcs.length:=by omega
  obtain⟨b,o,rfl,hF9,cs5,⟨u0,u1,rfl,q0,q1,q2⟩,hc⟩:=r2.el hj;obtain⟨x0,y0,rfl,z0⟩:=q0.slice;obtain⟨x1,y1,rfl,z1⟩:=q1.slice
  rw[yU hj]
  have hty:=fun w' hw'=>kh B m (.pointer (some ⟨bS,0,none⟩)) (ix m.funcs j).dI w' hw'
  generalize cJ m.types (ix m.funcs j).dI=r at hty ⊢
  refine ae (l:=[_,_,_]) func28 rfl ntmps28 rfl (Ok.start w) ?_
  refine Nq ?_
  repeat'(first|refine ar ?_|(refine NT fun b_=>?_)|refine Oy ?_|(refine aa.aG ?_;refine aa.yg Pe (Yl.oU underlying39 rfl rfl) rfl ?_)|(refine aa.aj (f:=43) ?_;refine aa.he (HE.mR ak rfl rfl (fun w' hw'=>hty w' (hs0.aP (show Ext w w' from hw'.at) (fun _ _ h=>h)))) rfl ?_;rintro⟨D_,p_,c_,q_,d_⟩ hD_;dsimp only)|(refine bC ?_ ?_<;>intro hc_))
  all_goals first|omega|exact ah.aM (.inl rfl) rfl rfl rfl rfl rfl aH rfl rfl fun w' hw'=>bD.jm (f0:=r.getD dF) (tf:=fun x:Value×Value=>.tuple #[.agg #[x.1,x.2],.bool r.isSome]) ⟨D_,p_,c_,q_,d_⟩ hw' ak ak hD_
 ·rw[vw hin]
  refine ae (l:=[_,_,_]) func28 rfl ntmps28 rfl (Ok.start w) ?_
  repeat'(first|refine ar ?_|(refine NT fun b_=>?_)|refine Oy ?_|(refine aa.aG ?_;refine aa.yg Pe (Yl.oU underlying39 rfl rfl) rfl ?_)|(refine bC ?_ ?_<;>intro hc_))
  all_goals exact lw
theorem oO (hm:av F w cs m) (hF:∀k,F k→k<w.heap.size):Calls G.P 29 #[.agg cs.toArray,.int .i64 i] w (iU (oY m i) F w):=by
 have hm0:=hm
 obtain⟨v0,v1,v2,v3,v4,v5,v6,v7,v8,v9,rfl,r0,r1,r2,r3,r4,r5,r6,r7,r8,r9,g0⟩:=hm;obtain⟨p0,c0,rfl,l0⟩:=r0.slice;obtain⟨p1,c1,rfl,l1⟩:=r1.slice;obtain⟨p2,c2,rfl,l2⟩:=r2.slice;obtain⟨p3,c3,rfl,l3⟩:=r3.slice;obtain⟨p4,c4,rfl,l4⟩:=r4.slice;obtain⟨p5,c5,rfl,l5⟩:=r5.slice;obtain⟨p6,c6,rfl,l6⟩:=r6.slice;obtain⟨p7,c7,rfl,l7⟩:=r7.slice;obtain⟨p8,c8,rfl,l8⟩:=r8.slice;obtain⟨p9,c9,rfl,l9⟩:=r9.slice
 by_cases hin:0≤i∧i<m.funcs.length
 ·obtain⟨j,rfl⟩:=PD hin.1
  have hj:j<m.funcs.length:=by omega
  have hty:=fun t w' hw'=>iH F m t ([Pg p0 m.types.length c0,Pg p1 m.imports.length c1,Pg p2 m.funcs.length c2,Pg p3 m.tables.length c3,Pg p4 m.bR.length c4,Pg p5 m.globals.length c5,Pg p6 m.aL.length c6,Ph m.aI,Pf .i64 m.start,Pg p7 m.elems.length c7,Pg p8 m.bg.length c8,Pg p9 m.bE.length c9]:List Value) w' hw'
  obtain⟨b,o,rfl,hF9,cs5,⟨u0,u1,rfl,q0,q1,q2⟩,hc⟩:=r2.el hj;obtain⟨x0,y0,rfl,z0⟩:=q0.slice;obtain⟨x1,y1,rfl,z1⟩:=q1.slice
  rw[yU hj]
  replace hty:=hty (ix m.funcs j).dI
  generalize cJ m.types (ix m.funcs j).dI=r at hty ⊢
  refine ae (l:=[_,_]) func29 rfl ntmps29 rfl (Ok.start w) ?_
  refine bh.lj (Cs b (o+j*3) [.int .i64 (ix m.funcs j).dI,.slice x0 (ix m.funcs j).locals.length y0,.slice x1 (ix m.funcs j).body.length y1]) (js hc rfl ak) ?_
  repeat'(first|refine ar ?_|(refine aE fun b_=>?_)|(refine bC ?_ ?_<;>intro hc_))
  obtain⟨bm,rfl⟩:∃y:Nat,y=b_:=⟨_,rfl⟩
  repeat'(first|refine ar ?_|(refine ay fun b_=>?_)|(refine od fun b_=>?_)|(refine bC ?_ ?_<;>intro hc_))
  all_goals first|omega|skip
  refine bh.cF [.aV bm ([Pg p0 m.types.length c0,Pg p1 m.imports.length c1,Pg (some ⟨b,o,none⟩) m.funcs.length c2,Pg p3 m.tables.length c3,Pg p4 m.bR.length c4,Pg p5 m.globals.length c5,Pg p6 m.aL.length c6,Ph m.aI,Pf .i64 m.start,Pg p7 m.elems.length c7,Pg p8 m.bg.length c8,Pg p9 m.bE.length c9]:List Value) jF] [Cs b (o+j*3) [.int .i64 (ix m.funcs j).dI,.slice x0 (ix m.funcs j).locals.length y0,.slice x1 (ix m.funcs j).body.length y1],Ext w] bw aU ?_
  repeat'(first|refine pG ?_|(refine ax.dz 44 ?_;refine ax.he rfl rfl (HE.yZ (F:=F) ak hF rfl rfl (fun w' hw'=>hty w' (hm0.aP (show Ext w w' from hw'.at) (fun _ _ _ h=>h)))) (fun _=>bw) (fun _=>aU) ?_;rintro⟨D_,p_,c_,q_,d_⟩ hD_;dsimp only)|(refine ax.nf ?_;refine ax.jQ rfl (gj.bn _ rfl rfl rfl rfl rfl rfl aH rfl) (fun _=>bw) (fun _=>aU) ?_;rintro⟨⟩ _)|refine aN.nil O3 ?_|refine aN.any O3 ?_|exact aB.fin rfl|refine aB.skip O3 ?_|refine aB.go ?_ ?_)
  all_goals repeat'(first|refine ar ?_|(refine bC ?_ ?_<;>intro hc_))
  all_goals exact ah.aM (.inl rfl) rfl rfl rfl rfl rfl aH rfl rfl fun w' hw'=>bD.jm (f0:=r.getD dF) (tf:=fun x:Value×Value=>.tuple #[.agg #[x.1,x.2],.bool r.isSome]) ⟨D_,p_,c_,q_,d_⟩ hw' ak ak hD_
 ·rw[vw hin]
  refine ae (l:=[_,_]) func29 rfl ntmps29 rfl (Ok.start w) ?_
  repeat'(first|refine ar ?_|(refine NT fun b_=>?_)|(refine bC ?_ ?_<;>intro hc_))
  all_goals exact lw
def lM (r:Option (List Int)) (w:World):Ending→World→Prop:=gV w (fun u:Value=>.tuple #[u,.bool r.isSome]) (fun u=>[.own 0 fT 1 u (r.getD []).length (aZ (r.getD []))])
theorem rO (hm:av F w cs m) (hs:bN B m w sv) (hB:ss m):Calls G.P 12 #[.agg cs.toArray,sv,.int .i64 i] w (lM (oV m i) w):=by
 have hm0:=hm
 obtain⟨v0,v1,v2,v3,v4,v5,v6,v7,v8,v9,rfl,r0,r1,r2,r3,r4,r5,r6,r7,r8,r9,g0⟩:=hm;obtain⟨p0,c0,rfl,l0⟩:=r0.slice;obtain⟨p1,c1,rfl,l1⟩:=r1.slice;obtain⟨p2,c2,rfl,l2⟩:=r2.slice;obtain⟨p3,c3,rfl,l3⟩:=r3.slice;obtain⟨p4,c4,rfl,l4⟩:=r4.slice;obtain⟨p5,c5,rfl,l5⟩:=r5.slice;obtain⟨p6,c6,rfl,l6⟩:=r6.slice;obtain⟨p7,c7,rfl,l7⟩:=r7.slice;obtain⟨p8,c8,rfl,l8⟩:=r8.slice;obtain⟨p9,c9,rfl,l9⟩:=r9.slice
 cases ht:oY m i with
 |none=>
  rw[show oV m i=none from by unfold oV;rw[ht];rfl]
  unfold lM gV
  dsimp only[Option.getD,Option.isSome]
  refine ae (l:=[_,_,_]) func12 rfl ntmps12 rfl (Ok.start w) ?_
  repeat'(first|refine ar ?_|(refine NT fun b_=>?_)|(refine aa.aj (f:=28) ?_;refine aa.he (HE.mR (r:=none) ak rfl rfl (fun w' hw'=>by have:=tt F B m ([Pg p0 m.types.length c0,Pg p1 m.imports.length c1,Pg p2 m.funcs.length c2,Pg p3 m.tables.length c3,Pg p4 m.bR.length c4,Pg p5 m.globals.length c5,Pg p6 m.aL.length c6,Ph m.aI,Pf .i64 m.start,Pg p7 m.elems.length c7,Pg p8 m.bg.length c8,Pg p9 m.bE.length c9]:List Value) sv i w' (hm0.aP (show Ext w w' from hw'.at) (fun _ _ _ h=>h)) (hs.aP (show Ext w w' from hw'.at) (fun _ _ h=>h));rw[ht]at this;exact this)) rfl ?_;rintro⟨D_,p_,c_,q_,d_⟩ hD_;dsimp only)|fail)
  all_goals exact IO
 |some f=>
  rw[show oV m i=some (kU m i f)from by unfold oV;rw[ht];rfl]
  unfold lM gV
  dsimp only[Option.getD,Option.isSome]
  obtain⟨hf,j,rfl,hj⟩:=qX ht
  have hfl:=(hB.ty f hf).1
  have hll:=hB.loc j hj
  obtain⟨b,o,rfl,hF9,cs5,⟨u0,u1,rfl,q0,q1,q2⟩,hc⟩:=r2.el hj;obtain⟨x0,y0,rfl,z0⟩:=q0.slice;obtain⟨x1,y1,rfl,z1⟩:=q1.slice
  refine ae (l:=[_,_,_]) func12 rfl ntmps12 rfl (Ok.start w) ?_
  refine Nq ?_
  repeat'(first|refine ar ?_|(refine NT fun b_=>?_)|(refine aa.aj (f:=28) ?_;refine aa.he (HE.mR (r:=some f) ak rfl rfl (fun w' hw'=>by have:=tt F B m ([Pg p0 m.types.length c0,Pg p1 m.imports.length c1,Pg (some ⟨b,o,none⟩) m.funcs.length c2,Pg p3 m.tables.length c3,Pg p4 m.bR.length c4,Pg p5 m.globals.length c5,Pg p6 m.aL.length c6,Ph m.aI,Pf .i64 m.start,Pg p7 m.elems.length c7,Pg p8 m.bg.length c8,Pg p9 m.bE.length c9]:List Value) sv j w' (hm0.aP (show Ext w w' from hw'.at) (fun _ _ _ h=>h)) (hs.aP (show Ext w w' from hw'.at) (fun _ _ h=>h));rw[ht]at this;exact this)) rfl ?_;rintro⟨D_,p_,c_,q_,d_⟩ hD_;dsimp only)|fail)
  refine aa.iN 0 fT 1 ?_
  refine aa.he (HE.zp f.params rfl rfl (fun _=>aH) (fun w' hw'=>(hw'.get (p:=sW ((some f).getD dF) ⟨D_,p_,c_,q_,d_⟩) ak).1) rfl rfl rfl Pe Pe Pe OP Pc (fun _ _=>Po _)) rfl ?_
  simp only[Pm,Pi]
  rintro _ ⟨p5,c5,rfl⟩
  repeat'(first|refine ar ?_|fail)
  refine aa.he (HE.zp (ix m.funcs j).locals rfl rfl (fun _=>aH) (fun w' hw'=>q0.aP (show Ext w w' from hw'.at) (fun _ _ _ h=>h)) rfl rfl rfl Pe Pe Pe (by show(f.params.length+(ix m.funcs j).locals.length)*8≤_;omega) Pc (fun _ _=>Po _)) rfl ?_
  rintro _ ⟨p6,c6,rfl⟩
  repeat'(first|refine ar ?_|fail)
  exact IR
theorem qN (hm:av F w cs m) (hF:∀k,F k→k<w.heap.size) (hB:ss m):Calls G.P 13 #[.agg cs.toArray,.int .i64 i] w (lM (oV m i) w):=by
 have hm0:=hm
 obtain⟨v0,v1,v2,v3,v4,v5,v6,v7,v8,v9,rfl,r0,r1,r2,r3,r4,r5,r6,r7,r8,r9,g0⟩:=hm;obtain⟨p0,c0,rfl,l0⟩:=r0.slice;obtain⟨p1,c1,rfl,l1⟩:=r1.slice;obtain⟨p2,c2,rfl,l2⟩:=r2.slice;obtain⟨p3,c3,rfl,l3⟩:=r3.slice;obtain⟨p4,c4,rfl,l4⟩:=r4.slice;obtain⟨p5,c5,rfl,l5⟩:=r5.slice;obtain⟨p6,c6,rfl,l6⟩:=r6.slice;obtain⟨p7,c7,rfl,l7⟩:=r7.slice;obtain⟨p8,c8,rfl,l8⟩:=r8.slice;obtain⟨p9,c9,rfl,l9⟩:=r9.slice
 cases ht:oY m i with
 |none=>
  rw[show oV m i=none from by unfold oV;rw[ht];rfl]
  unfold lM gV
  dsimp only[Option.getD,Option.isSome]
  refine ae (l:=[_,_]) func13 rfl ntmps13 rfl (Ok.start w) ?_
  repeat'(first|refine ar ?_|(refine NT fun b_=>?_)|(refine aa.aj (f:=29) ?_;refine aa.he (HE.yZ (F:=F) (r:=none) ak hF rfl rfl (fun w' hw'=>by have:=oO F m ([Pg p0 m.types.length c0,Pg p1 m.imports.length c1,Pg p2 m.funcs.length c2,Pg p3 m.tables.length c3,Pg p4 m.bR.length c4,Pg p5 m.globals.length c5,Pg p6 m.aL.length c6,Ph m.aI,Pf .i64 m.start,Pg p7 m.elems.length c7,Pg p8 m.bg.length c8,Pg p9 m.bE.length c9]:List Value) i w' (hm0.aP (show Ext w w' from hw'.at) (fun _ _ _ h=>h)) (fun k hk=>Pw (hF k hk) (show Ext w w' from hw'.at).size);rw[ht]at this;exact this)) rfl ?_;rintro⟨D_,p_,c_,q_,d_⟩ hD_;dsimp only)|fail)
  all_goals exact IO
 |some f=>
  rw[show oV m i=some (kU m i f)from by unfold oV;rw[ht];rfl]
  unfold lM gV
  dsimp only[Option.getD,Option.isSome]
  obtain⟨hf,j,rfl,hj⟩:=qX ht
  have hfl:=(hB.ty f hf).1
  have hll:=hB.loc j hj
  obtain⟨b,o,rfl,hF9,cs5,⟨u0,u1,rfl,q0,q1,q2⟩,hc⟩:=r2.el hj;obtain⟨x0,y0,rfl,z0⟩:=q0.slice;obtain⟨x1,y1,rfl,z1⟩:=q1.slice
  refine ae (l:=[_,_]) func13 rfl ntmps13 rfl (Ok.start w) ?_
  refine Nq ?_
  repeat'(first|refine ar ?_|(refine NT fun b_=>?_)|(refine aa.aj (f:=29) ?_;refine aa.he (HE.yZ (F:=F) (r:=some f) ak hF rfl rfl (fun w' hw'=>by have:=oO F m ([Pg p0 m.types.length c0,Pg p1 m.imports.length c1,Pg (some ⟨b,o,none⟩) m.funcs.length c2,Pg p3 m.tables.length c3,Pg p4 m.bR.length c4,Pg p5 m.globals.length c5,Pg p6 m.aL.length c6,Ph m.aI,Pf .i64 m.start,Pg p7 m.elems.length c7,Pg p8 m.bg.length c8,Pg p9 m.bE.length c9]:List Value) j w' (hm0.aP (show Ext w w' from hw'.at) (fun _ _ _ h=>h)) (fun k hk=>Pw (hF k hk) (show Ext w w' from hw'.at).size);rw[ht]at this;exact this)) rfl ?_;rintro⟨D_,p_,c_,q_,d_⟩ hD_;dsimp only)|fail)
  refine aa.iN 0 fT 1 ?_
  refine aa.he (HE.zp f.params rfl rfl (fun _=>aH) (fun w' hw'=>(hw'.get (p:=sW ((some f).getD dF) ⟨D_,p_,c_,q_,d_⟩) ak).1) rfl rfl rfl Pe Pe Pe OP Pc (fun _ _=>Po _)) rfl ?_
  simp only[Pm,Pi]
  rintro _ ⟨p5,c5,rfl⟩
  repeat'(first|refine ar ?_|fail)
  refine aa.he (HE.zp (ix m.funcs j).locals rfl rfl (fun _=>aH) (fun w' hw'=>q0.aP (show Ext w w' from hw'.at) (fun _ _ _ h=>h)) rfl rfl rfl Pe Pe Pe (by show(f.params.length+(ix m.funcs j).locals.length)*8≤_;omega) Pc (fun _ _=>Po _)) rfl ?_
  rintro _ ⟨p6,c6,rfl⟩
  repeat'(first|refine ar ?_|fail)
  exact IR
theorem Ok.Lh {S:Nat→Prop} {w w':World} (h:Ok M [] w) (hc:bX S w w') (hd:∀k,k<w.heap.size→Mb M k→¬S k):Ok M [] w':=
 ⟨fun q hq=>⟨q.st (h.m q hq).1 hc (fun k hk hF=>hd k hk ⟨q,hq,hF⟩),fun k hk=>Pw ((h.m q hq).2 k hk) hc.size⟩,h.d,fun p hp=>by cases hp⟩
def bu.pack (L:List bu):bu:=⟨Mb L,fun w=>Ok L [] w,fun h hc hd=>h.Lh hc hd⟩
section
variable {L M M':List bu} {R R':List (World→Prop)} {w:World}
theorem Ok.pack (h:Ok (L++M) R w):Ok (bu.pack L::M) R w:=by
 have hd:=List.pairwise_append.1 h.d
 refine h.step (bX.refl _ w) (fun q hq=>?_) (PV.2 ⟨fun x hx k hk=>?_,hd.2.1⟩) (fun k hk _=>?_)
 ·rcases Pz.1 hq with rfl|hq
  ·exact⟨h.sub (List.sublist_append_left _ _) (fun p hp=>by cases hp),fun k ⟨q,hq,hk⟩=>(h.m q (PE.2 (.inl hq))).2 k hk⟩
  ·exact h.m q (PE.2 (.inr hq))
 ·obtain⟨q,hq,hk⟩:=hk
  exact hd.2.2 q hq x hx k hk
 ·obtain⟨q,hq,hk⟩:=hk
  rcases Pz.1 hq with rfl|hq
  ·obtain⟨q,hq,hk⟩:=hk
   exact⟨q,PE.2 (.inl hq),hk⟩
  ·exact⟨q,PE.2 (.inr hq),hk⟩
theorem Ok.unpack (h:Ok (bu.pack L::M) R w):Ok (L++M) R w:=by
 have hp:Ok L [] w:=(h.m (bu.pack L) Pd).1
 have hd:=PV.1 h.d
 refine h.step (bX.refl _ w) (fun q hq=>?_) (List.pairwise_append.2 ⟨hp.d,hd.2,fun a ha b hb k h1 h2=>hd.1 b hb k ⟨a,ha,h1⟩ h2⟩) (fun k hk _=>?_)
 ·rcases PE.1 hq with hq|hq
  ·exact hp.m q hq
  ·exact h.m q (by simp[hq])
 ·obtain⟨q,hq,hk⟩:=hk
  rcases PE.1 hq with hq|hq
  ·exact⟨bu.pack L,by simp,q,hq,hk⟩
  ·exact⟨q,by simp[hq],hk⟩
variable {ops:Array Oper} {Q:Exit→Act→World→Prop} {n:Nat} {l:List Oper} {E:Env}
theorem aa.map (hp:∀w,Ok M R w→Ok M' R' w) (h:aa ops Q n l E M' R'):aa ops Q n l E M R:=⟨fun w hw=>h.h w (hp w hw)⟩
theorem bh.map {c:Code} (hp:∀w,Ok M R w→Ok M' R' w) (h:bh Q n c E M' R'):bh Q n c E M R:=⟨fun w hw=>h.h w (hp w hw)⟩
end
def vG (m:af) (i:Int):Int×Int:=match oY m i with
 |none=>(0,11)
 |some f=>if(fM (ix m.funcs i.toNat).body).2≠0 then fM (ix m.funcs i.toNat).body else Dq m (kU m i f) (ix m.funcs i.toNat).body (ix m.funcs i.toNat).body.length 0 (jR f.results)
def Iu (m:af) (i:Int):List (Bool×List Int):=match oY m i with
 |none=>[]
 |some f=>BZ m (kU m i f) (ix m.funcs i.toNat).body (ix m.funcs i.toNat).body.length 0 (jR f.results)
theorem EJ {R:List (World→Prop)} {w0 w:World} {B:Nat} {m:af} {sv lv tv bv:Value} {locals:List Int} {x:cv} (h:Ok M R w) (hR:Ext w0∈R) (h0:fJ w0) (hs:bN B m w0 sv) (hl:(fun w=>ai (fun _=>True) w lv locals)∈R) (ht:ai (fun _=>True) w0 tv x.types) (hb:ai (fun _=>True) w0 bv x.labels):Ok M (qg B (fun _=>True) m sv locals lv x tv bv) w:=by
 refine⟨h.m,h.d,fun p hp w2 h2=>?_⟩
 have hx:Ext w0 w2:=h.r _ hR w2 h2
 simp only[qg,Pz,List.not_mem_nil,or_false]at hp
 rcases hp with rfl|rfl|rfl|rfl|rfl
 ·exact h0.ext hx
 ·exact hs.aP hx (fun _ _ h=>h)
 ·exact h.r _ hl w2 h2
 ·exact ht.aP hx (fun _ _ _ h=>h)
 ·exact hb.aP hx (fun _ _ _ h=>h)
def EA {σ:Type} (A:σ→bu) (L:σ→List (Bool×List Int)) (g:Nat) (cap:List Value):Prop:=
 ∀(s:σ) (cp:Nat) (c:dv) (v:jI) (w:World),Ok (aT cp c v++[A s]) [] w→v.Good c→c.Wf→c.broken=0→c.ao.ts.length≤256→(L s).length≤400→Calls G.P g (([.pointer (some ⟨cp,0,none⟩)]:List Value)++cap).toArray w (aC (aT cp c v++[A s]) w (fun _:σ=>.tuple #[]) (fun s'=>L s'=L s++[(c.live,c.ao.ts)]) (fun s'=>aT cp c v++[A s']))
theorem zH {m:af} {locals:List Int} {xs:List cv} {k:Nat} {c cC:dv} {e:Int} (_hk:k<xs.length) (h:fC c m locals (ix xs k)=(cC,e)):Dq m locals xs (xs.length - k) k c=if e≠0 then((k:Int),e)else if dB cC.ao then((k:Int),6)else Dq m locals xs (xs.length - (k+1)) (k+1) cC:=by
 obtain⟨n,hn⟩:∃n,xs.length - k=n+1:=⟨xs.length - k - 1,by omega⟩
 rw[hn,Dq,h,show xs.length - (k+1)=n by omega]
theorem AL {m:af} {locals:List Int} {xs:List cv} {k:Nat} {c cC:dv} {e:Int} (_hk:k<xs.length) (h:fC c m locals (ix xs k)=(cC,e)):BZ m locals xs (xs.length - k) k c=(c.live,c.ao.ts)::BZ m locals xs (xs.length - (k+1)) (k+1) cC:=by
 obtain⟨n,hn⟩:∃n,xs.length - k=n+1:=⟨xs.length - k - 1,by omega⟩
 rw[hn,BZ,h,show xs.length - (k+1)=n by omega]
theorem pH.za {K k:Nat} {results:List Int} {c cC:dv} {e:Int} (h:pH K results k c) {m:af} {locals:List Int} {x:cv} (hT:Gd K m) (hK:100≤K) (hr:fC c m locals x=(cC,e)) (he:e=0):cC.Wf:=by
 have:=(qt h.kc (m:=m) (locals:=locals) (x:=x) Pc (fun f hf=>nV Pc hT hf) (by
  obtain⟨r,hr⟩:∃r,fN m locals x=r:=⟨_,rfl⟩
  obtain⟨f,e⟩:=r
  rw[hr];exact qc hK hT hr) (by rw[hr];exact he)).1.wf
 rw[hr]at this;exact this
theorem qV {m:af} {locals:List Int} {xs:List cv}:∀(n k:Nat) (c:dv),(BZ m locals xs n k c).length=n
 |0,_,_=>rfl
 |n+1,k,c=>by rw[BZ,List.length_cons,qV n]
theorem wY {σ:Type} (A:σ→bu) (L:σ→List (Bool×List Int)) (B:Nat) (m:af) (cs:List Value) (sv:Value) (i:Int) (g:Nat) (cap:List Value) (s0:σ) (w0 w:World) (hm:av (fun _=>True) w0 cs m) (hs:bN B m w0 sv) (h0:fJ w0) (hB:ss m) (hg:G.fb[g]?=some true) (hE:EA A L g cap) (hs00:L s0=[]) (hw:Ok [A s0] [Ext w0] w):
  Calls G.P 18 #[.agg cs.toArray,sv,.int .i64 i,.func (.func g) #[] cap.toArray] w (aC [A s0] w (fun _:σ=>.tuple #[.int .i64 (vG m i).1,.int .i64 (vG m i).2]) (fun s=>(vG m i).2=0→L s=L s0++Iu m i) (fun s=>[A s])):=by
 have hm0:=hm
 have hs0:=hs
 have hloc:∀r,oY m i=r→oV m i=r.map (kU m i):=fun r h=>by unfold oV;rw[h]
 obtain⟨bS,sp,im,dm,vs,tc,ig,dg,rfl,-,hs⟩:=hs
 obtain⟨v0,v1,v2,v3,v4,v5,v6,v7,v8,v9,rfl,r0,r1,r2,r3,r4,r5,r6,r7,r8,r9,g0⟩:=hm;obtain⟨p0,c0,rfl,l0⟩:=r0.slice;obtain⟨p1,c1,rfl,l1⟩:=r1.slice;obtain⟨p2,c2,rfl,l2⟩:=r2.slice;obtain⟨p3,c3,rfl,l3⟩:=r3.slice;obtain⟨p4,c4,rfl,l4⟩:=r4.slice;obtain⟨p5,c5,rfl,l5⟩:=r5.slice;obtain⟨p6,c6,rfl,l6⟩:=r6.slice;obtain⟨p7,c7,rfl,l7⟩:=r7.slice;obtain⟨p8,c8,rfl,l8⟩:=r8.slice;obtain⟨p9,c9,rfl,l9⟩:=r9.slice
 cases ht:oY m i with
 |none=>
  have eC:vG m i=(0,11):=by unfold vG;rw[ht]
  rw[eC]
  refine ae (l:=[_,_,_,_]) func18 rfl ntmps18 rfl (Ok.dk hw) ?_
  repeat'(first|refine ar ?_|(refine aE fun b_=>?_)|refine Oy ?_|fail)
  refine aa.he (HE.bJ (M0:=[]) oJ.nil rfl rfl (fun w' hw'=>by have:=rO (fun _=>True) B m ([Pg p0 m.types.length c0,Pg p1 m.imports.length c1,Pg p2 m.funcs.length c2,Pg p3 m.tables.length c3,Pg p4 m.bR.length c4,Pg p5 m.globals.length c5,Pg p6 m.aL.length c6,Ph m.aI,Pf .i64 m.start,Pg p7 m.elems.length c7,Pg p8 m.bg.length c8,Pg p9 m.bE.length c9]:List Value) _ i w' (hm0.aP (show Ext w0 w' from hw'.at) (fun _ _ _ h=>h)) (hs0.aP (show Ext w0 w' from hw'.at) (fun _ _ h=>h)) hB;unfold oV lM gV at this;rw[ht]at this;exact this)) rfl ?_
  rintro u _
  dsimp only[Pj,Pi,Option.map,Option.getD,Option.isSome]
  repeat'(first|refine ar ?_|fail)
  exact ah.iq rfl rfl rfl fun w' hw'=>aC.Iw (x:=s0) (fun h=>absurd h Pb) hw' bw ak
 |some f=>
  obtain⟨hf,j,rfl,hj⟩:=qX ht
  have hfl:=hB.ty f hf
  have hll:=hB.loc j hj
  have hlen:=hB.len j hj
  have hlab:=hB.kT j hj
  have eC:vG m j=if(fM (ix m.funcs j).body).2≠0 then fM (ix m.funcs j).body else Dq m (kU m j f) (ix m.funcs j).body (ix m.funcs j).body.length 0 (jR f.results):=by unfold vG;rw[ht];rfl
  have eS:Iu m j=BZ m (kU m j f) (ix m.funcs j).body (ix m.funcs j).body.length 0 (jR f.results):=by unfold Iu;rw[ht];rfl
  have hlocl:(kU m j f).length≤1048976:=by
   have:(kU m j f).length=f.params.length+(ix m.funcs j).locals.length:=by simp[kU]
   omega
  rw[eS]
  obtain⟨b,o,rfl,hF9,cs5,⟨u0,u1,rfl,q0,q1,q2⟩,hc⟩:=r2.el hj;obtain⟨x0,y0,rfl,z0⟩:=q0.slice;obtain⟨x1,y1,rfl,z1⟩:=q1.slice
  obtain⟨xs,hxs⟩:∃xs,(ix m.funcs j).body=xs:=⟨_,rfl⟩
  rw[hxs]at eC q1 hlen hlab hc ⊢
  refine ae (l:=[_,_,_,_]) func18 rfl ntmps18 rfl (Ok.dk hw) ?_
  refine Nq ?_
  repeat'(first|refine ar ?_|(refine aE fun b_=>?_)|refine Oy ?_|fail)
  refine aa.he (HE.bJ (M0:=[]) oJ.nil rfl rfl (fun w' hw'=>by have:=rO (fun _=>True) B m ([Pg p0 m.types.length c0,Pg p1 m.imports.length c1,Pg (some ⟨b,o,none⟩) m.funcs.length c2,Pg p3 m.tables.length c3,Pg p4 m.bR.length c4,Pg p5 m.globals.length c5,Pg p6 m.aL.length c6,Ph m.aI,Pf .i64 m.start,Pg p7 m.elems.length c7,Pg p8 m.bg.length c8,Pg p9 m.bE.length c9]:List Value) _ j w' (hm0.aP (show Ext w0 w' from hw'.at) (fun _ _ _ h=>h)) (hs0.aP (show Ext w0 w' from hw'.at) (fun _ _ h=>h)) hB;unfold oV lM gV at this;rw[ht]at this;exact this)) rfl ?_
  rintro u _
  dsimp only[Pj,Pi,Option.map,Option.getD,Option.isSome]
  generalize kU m j f=locals at*
  refine aa.pure (φ:=∃p c,u=.slice p locals.length c) (fun w' hw'=>?_) ?_
  ·obtain⟨p,c,e,_⟩:=aw (hw'.own (v:=u));exact⟨p,c,e⟩
  rintro⟨lp,lc,rfl⟩
  refine aa.freeze (p:=fun w=>ai (fun _=>True) w (.slice lp locals.length lc) locals) Rm.head (fun w' h _=>(eH (h:w'.ownsRow 0 fT 1 _ _ _) Pc).mono (fun _ _ _=>trivial)) ?_
  by_cases hck:(fM xs).2=0
  case neg=>
   rw[if_pos hck]at eC
   rw[eC]
   repeat'(first|refine ar ?_|refine NZ ?_|fail)
   all_goals exact ah.iq rfl rfl rfl fun w' hw'=>aC.Iw (x:=s0) (fun h=>absurd h hck) hw' bw ak
  rw[if_neg (by rw[hck];decide)]at eC
  rw[eC]
  repeat'(first|refine ar ?_|refine NZ ?_|(refine aa.aj (f:=28) ?_;refine aa.he (HE.yZ (w0:=w0) (F:=fun _=>False) (r:=some f) ak (fun _ h=>h.elim) rfl rfl (fun w' hw'=>by have:=tt (fun _=>True) B m ([Pg p0 m.types.length c0,Pg p1 m.imports.length c1,Pg (some ⟨b,o,none⟩) m.funcs.length c2,Pg p3 m.tables.length c3,Pg p4 m.bR.length c4,Pg p5 m.globals.length c5,Pg p6 m.aL.length c6,Ph m.aI,Pf .i64 m.start,Pg p7 m.elems.length c7,Pg p8 m.bg.length c8,Pg p9 m.bE.length c9]:List Value) _ j w' (hm0.aP (show Ext w0 w' from hw'.at) (fun _ _ _ h=>h)) (hs0.aP (show Ext w0 w' from hw'.at) (fun _ _ h=>h));rw[ht]at this;exact this)) rfl ?_;rintro⟨D_,p_,c_,q_,d_⟩ hD_;dsimp only)|(refine ay fun b_=>?_)|(refine od fun b_=>?_)|fail)
  refine aa.he (HE.bJ (M0:=[]) oJ.nil rfl rfl (fun w' hw'=>EX D_ f.results (.slice q_ f.results.length d_) w' (hw'.get (p:=sW ((some f).getD dF) ⟨D_,p_,c_,q_,d_⟩) ak).2)) rfl ?_
  rintro⟨cp,sp,tv,pv,bv,rv,fv,DC,LC⟩ hg0
  dsimp only[aT,aX,Pj,Pi]at hg0 ⊢
  repeat'(first|refine ar ?_|fail)
  refine bh.Ft (σ:=Nat×dv×jI×σ) (fun q=>[(1,.pointer (some ⟨bS,0,none⟩)),(3,.func (.func g) #[] cap.toArray),(10,.slice lp locals.length lc),(12,.slice x1 xs.length y1),(17,.pointer (some ⟨cp,0,none⟩)),(57,.int .i64 xs.length),(58,.int .i64 q.1)]) (fun q=>aT cp q.2.1 q.2.2.1++[A q.2.2.2]) (fun _=>[fun w=>ai (fun _=>True) w (.slice lp locals.length lc) locals,bX (Mb [A s0]) w,Ext w0]) (fun q=>q.1≤xs.length∧q.2.2.1.Good q.2.1∧pH 1048576 f.results q.1 q.2.1∧Dq m locals xs (xs.length - q.1) q.1 q.2.1=Dq m locals xs xs.length 0 (jR f.results)∧L q.2.2.2++BZ m locals xs (xs.length - q.1) q.1 q.2.1=L s0++BZ m locals xs xs.length 0 (jR f.results)) (fun q=>xs.length - q.1) (0,jR f.results,⟨sp,tv,pv,bv,rv,fv,DC,LC⟩,s0) bH ?_ aU ⟨Nat.zero_le _,hg0,pH.new f.results hfl.2,by rw[Nat.sub_zero],by rw[Nat.sub_zero]⟩ ?_
  ·dsimp only[aT,aX,Pj,Pi];exact dU
  rintro⟨k,c,⟨sp,tv,pv,bv,rv,fv,DC,LC⟩,s⟩ ⟨hk,hg1,hb,hgo,hL⟩
  dsimp only at hk hg1 hb hgo hL ⊢
  dsimp only[aT,aX,Pj,Pi]
  by_cases hlt:k<xs.length
  case neg=>
   obtain rfl:k=xs.length:=by omega
   rw[PO]at hgo hL
   rw[←hgo,show Dq m locals xs 0 xs.length c=(0,0)from rfl]
   repeat'(first|refine ar ?_|fail)
   all_goals first|omega|exact ah.iq rfl rfl rfl fun w' hw'=>aC.Iw (x:=s) (fun _=>by rw[←hL];simp[BZ]) hw' bw ak
  have hLl:(L s).length≤400:=by
   have:=congrArg List.length hL
   rw[hs00,Pi,Pt,qV,qV]at this
   omega
  obtain⟨ib,io,rfl,-,hins⟩:=q1.at hlt
  obtain⟨pt,ct,pl,cl,hti,hli,hc9⟩:=(hins k hlt).cells
  have hll:=hlab k hlt
  obtain⟨rC,hrC⟩:∃r,fC c m locals (ix xs k)=r:=⟨_,rfl⟩
  obtain⟨cC,e⟩:=rC
  have hgs:=zH hlt hrC
  have hss:=AL hlt hrC
  rw[hss]at hL
  rw[hgo]at hgs
  have hB2:IA c m locals (ix xs k):=hb.bounds hB.ty Pb Pb hfl.2 Pc hll
  have hnx:=fun(e0:e=0) (ho:dB cC.ao=false)=>hb.next (m:=m) (locals:=locals) (x:=ix xs k) hB.ty Pb (by rw[hrC];exact e0) (by rw[hrC];exact ho)
  rw[hrC]at hnx
  have hwf2:=hb.za hB.ty Pb hrC
  have hbk:=hb.kc
  unfold GL at hc9
  generalize ix xs k=x at*
  have hac:=fun w' hw'=>BS B (fun _=>True) cp c ⟨sp,tv,pv,bv,rv,fv,DC,LC⟩ m locals (.pointer (some ⟨bS,0,none⟩)) x lp pt pl lc ct cl w' hw' hg1 hbk.wf hbk.bk (hB.ty.b Pb) hB2
  rw[hrC]at hac
  repeat'(first|refine ar ?_|fail)
  refine aa.he (HE.xU (B:=0) (M0:=aT cp c ⟨sp,tv,pv,bv,rv,fv,DC,LC⟩++[A s]) (Mr:=[]) (R':=[]) rfl hg rfl (by dsimp only[aT,aX,Pj,Pi];exact List.Perm.refl _) (fun p hp=>absurd hp Pd) (fun w' hw' _=>hE s cp c ⟨sp,tv,pv,bv,rv,fv,DC,LC⟩ w' hw' hg1 hbk.wf hbk.bk hbk.ts hLl) (fun _ _=>Po _)) rfl ?_
  rintro s' hs'
  dsimp only[aT,aX,Pj,Pi]at hs' ⊢
  repeat'(first|refine ar ?_|(refine aa.y_ (Yl.ji rfl rfl rfl ak Pe Pe hc9) rfl ?_)|fail)
  by_cases he:e=0
  case neg=>
   refine aa.he (HE.bJ (M0:=aT cp c ⟨sp,tv,pv,bv,rv,fv,DC,LC⟩) dS rfl rfl (fun w' hw'=>(hac w' (EJ (hw'.dc dU (fun _ h=>h)) ak h0 hs0 ak hti hli)).mono fun _ _ h=>h.bad (q:=e) rfl he)) rfl ?_
   rintro _ _
   dsimp only[Pi]
   rw[hgs,if_pos he]
   repeat'(first|refine ar ?_|fail)
   exact ah.iq rfl rfl rfl fun w' hw'=>aC.Iw (x:=s') (fun h=>absurd h he) hw' bw ak
  subst he
  refine aa.he (HE.bJ (M0:=aT cp c ⟨sp,tv,pv,bv,rv,fv,DC,LC⟩) dS rfl rfl (fun w' hw'=>(hac w' (EJ (hw'.dc dU (fun _ h=>h)) ak h0 hs0 ak hti hli)).mono fun _ _ h=>h.Dr rfl)) rfl ?_
  rintro⟨sp7,tv7,pv7,bv7,rv7,fv7,DC7,LC7⟩ hg7
  dsimp only[aT,aX,Pj,Pi]at hg7 ⊢
  rw[if_neg Pb]at hgs
  have hps:=(hwf2 rfl).ao.some
  obtain⟨ob,hob⟩:∃b,dB cC.ao=b:=⟨_,rfl⟩
  have hov:=fun w' hw'=>B5 sp7 cC.ao (tv7,pv7) w' hw' hps
  rw[hob]at hgs hov
  repeat'(first|refine ar ?_|(refine aa.aj (f:=26) ?_;refine aa.au rfl rfl rfl (fun w' hw'=>eB cp ⟨sp7,0,none⟩ w' (hw'.c1 aH Pe)) ?_)|fail)
  refine aa.au (v:=.bool ob) rfl rfl rfl (fun w' hw'=>hov w' (hw'.dc (M':=aX sp7 cC.ao (tv7,pv7)) (by dsimp only[aX];rw[hob];exact dU) (fun p hp=>absurd hp Pd))) ?_
  cases ob with
  |true=>
   rw[if_pos rfl]at hgs
   rw[hgs]
   repeat'(first|refine ar ?_|fail)
   exact ah.iq rfl rfl rfl fun w' hw'=>aC.Iw (x:=s') (fun h=>absurd h (show¬((6:Int)=0)by decide)) hw' bw ak
  |false=>
   rw[if_neg Pb]at hgs
   repeat'(first|refine ar ?_|fail)
   exact ah.Fw (k+1,cC,⟨sp7,tv7,pv7,bv7,rv7,fv7,DC7,LC7⟩,s') bH OH aU ⟨by show k+1≤xs.length;omega,hg7,hnx rfl hob,hgs.symm,by dsimp only;rw[hs',List.append_assoc];exact hL⟩ (by show xs.length - (k+1)<xs.length - k;omega)
theorem A6:EA (fun _:List (Bool×List Int)=>bu.pack []) id 19 []:=by
 intro s cp c v w hw hg hwf hb hts _
 show Calls G.P 19 #[.pointer (some ⟨cp,0,none⟩)] w _
 refine ae (l:=[_]) func19 rfl ntmps19 rfl (Ok.dk hw) ?_
 repeat'(first|refine ar ?_|fail)
 all_goals refine ah.nY rfl fun w' hw'=>?_
 exact aC.of (M0:=aT cp c v++[bu.pack []]) (w:=w) (tf:=fun _:List (Bool×List Int)=>Value.tuple #[]) (φ:=fun s'=>id s'=id s++[(c.live,c.ao.ts)]) (M1:=fun _=>aT cp c v++[bu.pack []]) (x:=s++[(c.live,c.ao.ts)]) rfl hw' rfl (List.Mem.head _)
def ek (D:Nat→Prop) (w:World) (x:List Value×List (Bool×List Int)):Prop:=x.1.length=x.2.length*2∧∀j,j<x.2.length→∃p c,x.1[j*2]?=some (.bool (ix x.2 j).1)∧x.1[j*2+1]?=some (.slice p (ix x.2 j).2.length c)∧ai D w (.slice p (ix x.2 j).2.length c) (ix x.2 j).2
theorem ek.fr:vE ek:=fun h hc hd=>⟨h.1,fun j hj=>by obtain⟨p,c,a,b,d⟩:=h.2 j hj;exact⟨p,c,a,b,d.aP hc hd⟩⟩
theorem ek.nil:ek D w ([],[]):=⟨rfl,fun _j hj=>absurd hj (Nat.not_lt_zero _)⟩
theorem ek.mono {D H:Nat→Prop} {w:World} {x:List Value×List (Bool×List Int)} (h:ek D w x) (hd:∀k,D k→H k):ek H w x:=⟨h.1,fun j hj=>by obtain⟨p,c,a,b,d⟩:=h.2 j hj;exact⟨p,c,a,b,d.mono fun k _ hk=>hd k hk⟩⟩
theorem ek.snoc {D H:Nat→Prop} {w:World} {tc:List Value} {l:List (Bool×List Int)} (h:ek D w (tc,l)) {b:Bool} {xs:List Int} {p:Option Addr} {c:Nat} (hi:ai H w (.slice p xs.length c) xs):ek (fun k=>D k∨H k) w (tc++[Ph b,Pg p xs.length c],l++[(b,xs)]):=by
 obtain⟨h1,h2⟩:=h
 dsimp only at h1 h2
 refine⟨by simp[h1];omega,fun i hi'=>?_⟩
 dsimp only at hi' ⊢
 by_cases hlt:i<l.length
 ·obtain⟨p',c',e1,e2,e3⟩:=h2 i hlt
  rw[iF hlt]
  exact⟨p',c',by rw[PW Pc];exact e1,by rw[PW Pc];exact e2,e3.mono fun _ _ hk=>.inl hk⟩
 ·have e:i=l.length:=by simp at hi';omega
  subst e
  rw[gJ (Pr _),PO]
  exact⟨p,c,by rw[P2 Pc];simp[h1,ix],by rw[P2 Pc];simp[h1,ix,show l.length*2+1 - l.length*2=1 by omega],hi.mono fun _ _ hk=>.inr hk⟩
def iT (T:Nat) (lv:Value) (tc:List Value) (D:Nat→Prop) (l:List (Bool×List Int)):List bu:=[.own 0 T 2 lv l.length tc,.kr ek ek.fr D (tc,l)]
structure Kk where
 lv:Value
 tc:List Value
 D:Nat→Prop
 l:List (Bool×List Int)
abbrev rN:Nat:=72
abbrev Gn:Nat:=43
def Iy (bx:Nat) (s:Kk):bu:=.pack (.aV bx [s.lv] Gn::iT rN s.lv s.tc s.D s.l)
theorem Ok.steps {M M1 M2:List bu} {R:List (World→Prop)} {w:World} {B T m c:Nat} {cs tc:List Value} {D:Nat→Prop} {l:List (Bool×List Int)} {p:Option Addr} (b:Bool) (xs:List Int) (h:Ok M R w)
  (r1:Rm (.own B T 1 (.slice p xs.length c) m cs) M M1) (r2:Rm (.kr ek ek.fr D (tc,l)) M1 M2) (hm:m=xs.length) (hcs:cs=aZ xs) (hl:xs.length≤17592186044416):Ok (.kr ek ek.fr (fun k=>D k∨(Pg p xs.length c).ownBlock=some k) (tc++[Ph b,Pg p xs.length c],l++[(b,xs)])::M2) R w:=by
 subst hm;subst hcs
 exact((h.front r1).front (Rm.tail r2)).merge (q:=.kr ek ek.fr (fun k=>D k∨(Pg p xs.length c).ownBlock=some k) (tc++[Ph b,Pg p xs.length c],l++[(b,xs)])) (fun _ hk=>hk) (fun h1 h2=>ek.snoc (b:=b) (p:=p) (c:=c) h1 (eH h2 hl))
theorem Ca (bx:Nat):EA (Iy bx) (fun s=>s.l) 24 [.pointer (some ⟨bx,0,none⟩)]:=by
 rintro⟨lv,tc,D,l⟩ cp c ⟨sp,tv,pv,bv,rv,fv,DC,LC⟩ w hw hg hwf hb hts hll
 dsimp only at hll
 show Calls G.P 24 #[.pointer (some ⟨cp,0,none⟩),.pointer (some ⟨bx,0,none⟩)] w _
 refine ae (l:=[_,_]) func24 rfl ntmps24 rfl (Ok.dk hw) ?_
 dsimp only[aT,aX,Pj,Pi]
 refine bh.front (q:=Iy bx ⟨lv,tc,D,l⟩) jK ?_
 refine bh.map (fun w' h=>h.unpack) ?_
 dsimp only[iT,Pj,Pi]
 repeat'(first|refine ar ?_|(refine bC ?_ ?_<;>intro hc_))
 refine bh.iA 9 [.aV bx [lv] Gn] [] bw aU ?_
 repeat'(first|refine CV ?_|(refine bA.dz 25 ?_;refine bA.he rfl rfl (HE.eK (v:=.bool c.live) rfl rfl (fun w' hw'=>Di cp c ⟨sp,tv,pv,bv,rv,fv,DC,LC⟩ w' ((hw'.dc (M':=aT cp c ⟨sp,tv,pv,bv,rv,fv,DC,LC⟩) dU (fun _ h=>h)).Cv (Pp.refl _)) hb)) (fun _=>bw) (fun _=>aU) ?_;rintro⟨⟩ _)|(refine bA.dz 26 ?_;refine bA.he rfl rfl (HE.eK rfl rfl (fun w' hw'=>eB cp ⟨sp,0,none⟩ w' (hw'.c1 aH Pe))) (fun _=>bw) (fun _=>aU) ?_;rintro⟨⟩ _)|(refine bA.dz 27 ?_;refine bA.he rfl rfl (HE.bJ (M0:=[]) oJ.nil rfl rfl (fun w' hw'=>Eh sp c.ao (tv,pv) w' (hw'.dc dU (fun p hp=>absurd hp Pd)) hwf.ao.some Pc)) (fun _=>by dsimp only[Pj,Pi];exact bw) (fun _=>aU) ?_;rintro u _;dsimp only[Pj,Pi];refine db.pure (φ:=∃p c',u=.slice p c.ao.ts.length c') (fun w' hw'=>?_) ?_;(·obtain⟨p,c',e,_⟩:=aw (hw'.own (v:=u));exact⟨p,c',e⟩);rintro⟨pu,cu,rfl⟩)|(refine bA.lD ?_;refine bA.he rfl rfl (HE.jJ rfl rfl rfl rfl rfl ep Pe Pe) (fun _=>bw) (fun _=>aU) ?_;rintro b3 _)|(refine bA.rl ?_;refine bA.he rfl rfl (HE.app rfl rfl (fun _=>aH) aH rfl rfl rfl Pe Pe Pe Pe Pe Pe Pc (fun _ _=>Po _)) (fun _=>bw) (fun _=>aU) ?_;rintro v2 _;refine db.pure (φ:=v2.oneCell'=true) (fun w' hw'=>jN (hw'.own (v:=v2))) fun hone=>?_)|(refine bA.iM rfl (gj.gz rfl rfl rfl rfl hone aH oZ) ?_;rintro⟨⟩ _)|refine db.any O3 ?_|exact cw.fin rfl|refine cw.skip O3 ?_|refine cw.go ?_ ?_)
 all_goals refine ah.nY rfl fun w' hw'=>?_
 have h1:=Ok.steps c.live c.ao.ts hw' jK jK rfl rfl Pc
 have h2:=h1.dc (M':=(.aV bx [v2] Gn::iT rN v2 (tc++[.bool c.live,.slice pu c.ao.ts.length cu]) (fun k=>D k∨(Pg pu c.ao.ts.length cu).ownBlock=some k) (l++[(c.live,c.ao.ts)]))++aT cp c ⟨sp,tv,pv,bv,rv,fv,DC,LC⟩) (by dsimp only[iT,aT,aX,Pj,Pi];rw[show(l++[(c.live,c.ao.ts)]).length=l.length+1 from by simp];exact dU) (fun _ h=>h)
 have h3:=h2.pack
 exact aC.qF (x:=(⟨v2,tc++[.bool c.live,.slice pu c.ao.ts.length cu],fun k=>D k∨(Pg pu c.ao.ts.length cu).ownBlock=some k,l++[(c.live,c.ao.ts)]⟩:Kk)) rfl rfl h3 (by dsimp only[aT,aX,Iy,Pj,Pi];exact dU) ak
theorem yC (c:gA) (y:jE) (w:World) (h:cG c D w y) (hz:c.fs.length=0):Calls G.P 36 #[.agg (eN c y).toArray] w fun e w'=>e=.returned (.bool true)∧Ext w w':=by
 obtain⟨p1,c1,p2,c2,p3,c3,p4,c4,p5,c5,ey,k4,h4,kz⟩:=h.gx
 obtain⟨r,f,rv,z⟩:=y
 cases ey
 refine ae (l:=[_]) func36 rfl ntmps36 rfl (Ok.start w) ?_
 dsimp only[eN]
 rw[hz]
 repeat'(first|refine ar ?_|(refine aE fun b_=>?_)|fail)
 all_goals first|omega|exact ah.aF rfl rfl fun w' hw'=>⟨rfl,hw'.at⟩
theorem Al (h:cG (bP c) D w y) (hb:c.broken=0) (hf:c.Wf):Calls G.P 36 #[.agg (eN (bP c) y).toArray] w fun e w'=>e=.returned (.bool c.live)∧Ext w w':=by
 by_cases hn:c.fs.length=0
 ·rw[hf.ended hn]
  exact yC D (bP c) y w h (by rw[cU];exact hn)
 ·exact Am D c y w h hb Pc
end Go.Proofs.YtdkcljdfbemnbaaGreatDoor
