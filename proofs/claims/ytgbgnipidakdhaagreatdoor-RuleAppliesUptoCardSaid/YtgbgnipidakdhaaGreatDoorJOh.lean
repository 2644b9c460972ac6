/- The reference of layer 23: Wants, whole. -/
import Derived.Test.YtgbgnipidakdhaaGreatDoorJWx
import Derived.Test.YtgbgnipidakdhaaGreatDoorJWq
import Derived.Test.YtgbgnipidakdhaaGreatDoorJLz
import Derived.Test.YtgbgnipidakdhaaGreatDoorJLm
import Derived.Test.YtgbgnipidakdhaaGreatDoorJUx
import Derived.Test.YtgbgnipidakdhaaGreatDoorJRg
import Derived.Test.YtgbgnipidakdhaaGreatDoorJUu
import Derived.Test.YtgbgnipidakdhaaGreatDoorJOk
import Derived.Test.YtgbgnipidakdhaaGreatDoorJZt
namespace Go.Proofs.YtgbgnipidakdhaaGreatDoor
open Go.RowKit
set_option maxRecDepth 100000
theorem xy (F:Nat→Prop) (m:aj) (cs:List Value) (locals:List Int) (x:cJ) (lp pt pl:Option Addr) (lc ct cl:Nat) (w:World) (hm:ay F w cs m) (hl:af F w (.slice lp locals.length lc) locals) (ht:af F w (.slice pt x.types.length ct) x.types) (hF:∀k,F k→k<w.heap.size) (hT:kx m) (hp:cq x=true):Calls G.P 41 #[.agg cs.toArray,.slice lp locals.length lc,.agg #[Value.int .i64 x.op,Value.int .i64 x.a,Value.int .i64 x.b,Value.int .u64 x.n,Value.int .i64 x.kind,Value.int .i64 x.val,Value.int .i64 x.index,Value.slice pt x.types.length ct,Value.slice pl x.labels.length cl]] w (fe (bX m locals x) F w):=by
 obtain⟨hi,hj,ha,hb,h6⟩:=kD hp
 have hr:=xv x.op
 have hkk:dZ x.op=0∨dZ x.op=1∨dZ x.op=2∨dZ x.op=3∨dZ x.op=4∨dZ x.op=5∨dZ x.op=6∨dZ x.op=7∨dZ x.op=8∨dZ x.op=9∨dZ x.op=10∨dZ x.op=11∨dZ x.op=12∨dZ x.op=13∨dZ x.op=14∨dZ x.op=15∨dZ x.op=16∨dZ x.op=17∨dZ x.op=18∨dZ x.op=19∨dZ x.op=20:=by omega
 rcases hkk with hk|hk|hk|hk|hk|hk|hk|hk|hk|hk|hk|hk|hk|hk|hk|hk|hk|hk|hk|hk|hk
 ·rw[show bX m locals x=cE x.op from by unfold bX;dsimp only;rw[hk];rfl]
  exact uo F m cs locals x lp pt pl lc ct cl w hm hl ht ha hi hb hj hF hT hk
 ·rw[show bX m locals x=(dy,1)from by unfold bX;dsimp only;rw[hk];rfl]
  exact uq F m cs locals x lp pt pl lc ct cl w hm hl ht ha hi hb hj hF hT hk
 ·rw[show bX m locals x=(dy,1)from by unfold bX;dsimp only;rw[hk];rfl]
  exact tt F m cs locals x lp pt pl lc ct cl w hm hl ht ha hi hb hj hF hT hk
 ·rw[show bX m locals x=(dy,1)from by unfold bX;dsimp only;rw[hk];rfl]
  exact tO F m cs locals x lp pt pl lc ct cl w hm hl ht ha hi hb hj hF hT hk
 ·rw[show bX m locals x=kL m x from by unfold bX;dsimp only;rw[hk];rfl]
  exact tD F m cs locals x lp pt pl lc ct cl w hm hl ht ha hi hb hj hF hT hk
 ·rw[show bX m locals x=bM m x from by unfold bX;dsimp only;rw[hk];rfl]
  exact tw F m cs locals x lp pt pl lc ct cl w hm hl ht ha hi hb hj hF hT hk
 ·rw[show bX m locals x=(⟨[ix x.types 0,ix x.types 0,1],[ix x.types 0]⟩,0)from by unfold bX;dsimp only;rw[hk];rfl]
  exact uf F m cs locals x lp pt pl lc ct cl w hm hl ht ha hi hb hj hF hT hk (h6 hk)
 ·rw[show bX m locals x=ec locals x from by unfold bX;dsimp only;rw[hk];rfl]
  exact tE F m cs locals x lp pt pl lc ct cl w hm hl ht ha hi hb hj hF hT hk
 ·rw[show bX m locals x=cX m x from by unfold bX;dsimp only;rw[hk];rfl]
  exact tA F m cs locals x lp pt pl lc ct cl w hm hl ht ha hi hb hj hF hT hk
 ·rw[show bX m locals x=cU m x from by unfold bX;dsimp only;rw[hk];rfl]
  exact um F m cs locals x lp pt pl lc ct cl w hm hl ht ha hi hb hj hF hT hk
 ·rw[show bX m locals x=m8 m x from by unfold bX m8;dsimp only;rw[hk,if_pos (FE hk)];cases cx (bA m) x.a<;>cases cx (bA m) x.b<;>rfl]
  exact s6 F m cs locals x lp pt pl lc ct cl w hm hl ht ha hi hb hj hF hT hk
 ·rw[show bX m locals x=m8 m x from by unfold bX m8;dsimp only;rw[hk,if_neg (show¬x.op=64526 from fun h=>by rw[h]at hk;exact absurd hk LX)];cases cx (dA m) x.a<;>cases cx (bA m) x.b<;>rfl]
  exact rm F m cs locals x lp pt pl lc ct cl w hm hl ht ha hi hb hj hF hT hk
 ·rw[show bX m locals x=if(cx (dA m) x.a).isNone then(dy,11)else cE x.op from by unfold bX;dsimp only;rw[hk];rfl]
  exact sV F m cs locals x lp pt pl lc ct cl w hm hl ht ha hi hb hj hF hT hk
 ·rw[show bX m locals x=kh m 13 x from by unfold bX;dsimp only;rw[hk];rfl]
  exact qM F m cs locals x lp pt pl lc ct cl w hm hl ht ha hi hb hj hF hT hk
 ·rw[show bX m locals x=kh m 14 x from by unfold bX;dsimp only;rw[hk];rfl]
  exact rr F m cs locals x lp pt pl lc ct cl w hm hl ht ha hi hb hj hF hT hk
 ·rw[show bX m locals x=kh m 15 x from by unfold bX;dsimp only;rw[hk];rfl]
  exact sS F m cs locals x lp pt pl lc ct cl w hm hl ht ha hi hb hj hF hT hk
 ·rw[show bX m locals x=if(m.bD.length:Int)≤x.a then(dy,11)else cE x.op from by unfold bX;dsimp only;rw[hk];rfl]
  exact qS F m cs locals x lp pt pl lc ct cl w hm hl ht ha hi hb hj hF hT hk
 ·rw[show bX m locals x=kh m 17 x from by unfold bX;dsimp only;rw[hk];rfl]
  exact sE F m cs locals x lp pt pl lc ct cl w hm hl ht ha hi hb hj hF hT hk
 ·rw[show bX m locals x=cE x.op from by unfold bX;dsimp only;rw[hk];rfl]
  exact ri F m cs locals x lp pt pl lc ct cl w hm hl ht ha hi hb hj hF hT hk
 ·rw[show bX m locals x=cE x.op from by unfold bX;dsimp only;rw[hk];rfl]
  exact qO F m cs locals x lp pt pl lc ct cl w hm hl ht ha hi hb hj hF hT hk
 ·rw[show bX m locals x=(⟨[],[x.a]⟩,0)from by unfold bX;dsimp only;rw[hk];rfl]
  exact rJ F m cs locals x lp pt pl lc ct cl w hm hl ht ha hi hb hj hF hT hk
set_option maxHeartbeats 8000000 in
theorem wU (F:Nat→Prop) (m:aj) (cs:List Value) (locals:List Int) (x:cJ) (lp pt pl:Option Addr) (lc ct cl:Nat) (w:World) (hm:ay F w cs m) (hl:af F w (.slice lp locals.length lc) locals) (ht:af F w (.slice pt x.types.length ct) x.types) (hF:∀k,F k→k<w.heap.size) (hT:kx m) (hl2:af F w (.slice pl x.labels.length cl) x.labels):Calls G.P 13 #[.agg cs.toArray,.slice lp locals.length lc,.agg #[Value.int .i64 x.op,Value.int .i64 x.a,Value.int .i64 x.b,Value.int .u64 x.n,Value.int .i64 x.kind,Value.int .i64 x.val,Value.int .i64 x.index,Value.slice pt x.types.length ct,Value.slice pl x.labels.length cl]] w (ia (jH m locals x) F w):=by
 have hm0:=hm
 obtain⟨v0,v1,v2,v3,v4,v5,v6,v7,v8,v9,rfl,r0,r1,r2,r3,r4,r5,r6,r7,r8,r9,g0⟩:=hm
 have hpl:∀w',Ext w w'→Calls G.P 40 #[.agg #[Value.int .i64 x.op,Value.int .i64 x.a,Value.int .i64 x.b,Value.int .u64 x.n,Value.int .i64 x.kind,Value.int .i64 x.val,Value.int .i64 x.index,Value.slice pt x.types.length ct,Value.slice pl x.labels.length cl]] w' fun e w2=>e=.returned (.bool (cq x))∧Ext w' w2:=fun w' hx=>pJ F x pt pl ct cl w' (ht.aO hx (fun _ _ _ h=>h)) (hl2.aO hx (fun _ _ _ h=>h))
 unfold jH
 cases hp:cq x with
 |false=>
  rw[hp]at hpl
  rw[if_pos rfl]
  refine ae (l:=[_,_,_]) Tryz.func13 rfl Tryz.ntmps13 rfl (Ok.start w) ?_
  repeat'(first|refine ar ?_|(refine aC fun b_=>?_)|(refine bz fun b_=>?_)|(refine au fun b_=>?_)|refine Lg ?_|fail)
  all_goals exact gc
 |true=>
  rw[hp]at hpl
  rw[if_neg Mh]
  have hwa:=fun w' (hx:Ext w w')=>xy F m _ locals x lp pt pl lc ct cl w' (hm0.aO hx (fun _ _ _ h=>h)) (hl.aO hx (fun _ _ _ h=>h)) (ht.aO hx (fun _ _ _ h=>h)) (fun k hk=>Nat.lt_of_lt_of_le (hF k hk) hx.size) hT hp
  obtain⟨r,hr⟩:∃r,bX m locals x=r:=⟨_,rfl⟩
  obtain⟨f,e0⟩:=r
  rw[hr]at hwa ⊢
  by_cases he:e0=0
  ·subst he
   refine ae (l:=[_,_,_]) Tryz.func13 rfl Tryz.ntmps13 rfl (Ok.start w) ?_
   repeat'(first|refine ar ?_|(refine aC fun b_=>?_)|(refine bz fun b_=>?_)|(refine au fun b_=>?_)|refine Lg ?_|(refine aa.ai (f:=41) ?_;refine aa.he (HE.rg (F:=F) (r:=(f,0)) ak hF rfl rfl (fun w' hw'=>hwa w' hw'.at)) rfl ?_;rintro⟨D_,p_,c_,q_,d_⟩ hD_;dsimp only)|fail)
   all_goals(refine ah.aF (.inl rfl) rfl rfl rfl rfl rfl aA rfl rfl ?_;exact fun w' hw'=>bg.iI (f0:=f) (tf:=fun y:Value×Value=>.tuple #[.agg #[y.1,y.2],.int .i64 0]) ⟨D_,p_,c_,q_,d_⟩ hw' ak ak hD_)
  ·obtain rfl:=xr (show kP m locals x=(f,e0)from by rw[rz];unfold jH;rw[hp,if_neg Mh];exact hr) he
   refine ae (l:=[_,_,_]) Tryz.func13 rfl Tryz.ntmps13 rfl (Ok.start w) ?_
   repeat'(first|refine ar ?_|(refine aC fun b_=>?_)|(refine bz fun b_=>?_)|(refine au fun b_=>?_)|refine Lg ?_|(refine aa.ai (f:=41) ?_;refine aa.he (HE.rg (F:=F) (r:=(dy,e0)) ak hF rfl rfl (fun w' hw'=>hwa w' hw'.at)) rfl ?_;rintro⟨D_,p_,c_,q_,d_⟩ hD_;dsimp only)|fail)
   obtain⟨b8,rfl⟩:∃y:Nat,y=b_:=⟨_,rfl⟩
   refine aZ.cT [.aT b8 [.slice p_ dy.params.length c_,.slice q_ dy.results.length d_,.int .i64 e0] 120] [Ext w] bc aV ?_
   repeat'(first|refine og ?_|(refine av.nw ?_;refine av.jf rfl (fQ.bn _ rfl rfl rfl rfl rfl rfl aA rfl) (fun _=>bc) (fun _=>aV) ?_;rintro⟨⟩ _)|refine aP.nil LX ?_|refine aP.any LX ?_|exact aN.fin rfl|refine aN.skip LX ?_|refine aN.go ?_ ?_)
   all_goals repeat'(first|refine ar ?_|fail)
   all_goals exact gc
theorem kt {g g':Prop} (h:g') (hw:dS g'→g:=by(intro hk_;(first|(refine aa.ai (f:=40) ?_;refine aa.aq rfl rfl rfl (fun w' hw'=>hplain w' hw'.at) ?_));exact hk_.out)):g:=hw ⟨h⟩
set_option maxHeartbeats 128000000 in
theorem wz (F:Nat→Prop) (c:fN) (y:iP) (m:aj) (cs:List Value) (locals:List Int) (x:cJ) (lp pt pl:Option Addr) (lc ct cl:Nat) (w:World) (h:bY c F w y) (hm:ay F w cs m) (hl:af F w (.slice lp locals.length lc) locals) (ht:af F w (.slice pt x.types.length ct) x.types) (hl2:af F w (.slice pl x.labels.length cl) x.labels) (hF:∀k,F k→k<w.heap.size) (hT:kx m) (hs:c.ao.Wf) (hfl:c.fs.length≤1000000) (hpl:c.ao.ps.length≤1000000) (hmany:c.ao.ps.length=c.fs.length+1) (hts:c.ao.ts.length≤1000000000000) (hpar:(ix c.fs (c.fs.length - 1)).par.length≤100000000000) (hres:(ix c.fs (c.fs.length - 1)).res.length≤100000000000) (hlb:∀n,(eA c n).1.length≤100000000000) (hll:x.labels.length≤1000) (hbk:∀f,cA m x.kind x.val x.index=some f→c.ao.ts.length+f.params.length≤17592186044416) (htb:cq x=true→ij x.op=false→c.ao.ts.length+(jH m locals x).1.results.length≤17592186044416):Calls G.P 26 #[.agg (er c y).toArray,.agg cs.toArray,.slice lp locals.length lc,.agg #[Value.int .i64 x.op,Value.int .i64 x.a,Value.int .i64 x.b,Value.int .u64 x.n,Value.int .i64 x.kind,Value.int .i64 x.val,Value.int .i64 x.index,Value.slice pt x.types.length ct,Value.slice pl x.labels.length cl]] w (fT (oa c m locals x) F w):=by
 obtain⟨p1,c1,p2,c2,p3,c3,p4,c4,p5,c5,ey,k4,h4,kz⟩:=h.fP;obtain⟨y,fv,rv,z⟩:=y;cases ey;have hm0:=hm;obtain⟨v0,v1,v2,v3,v4,v5,v6,v7,v8,v9,rfl,r0,r1,r2,r3,r4,r5,r6,r7,r8,r9,g0⟩:=hm;have hplain:∀w',Ext w w'→Calls G.P 40 #[.agg #[Value.int .i64 x.op,Value.int .i64 x.a,Value.int .i64 x.b,Value.int .u64 x.n,Value.int .i64 x.kind,Value.int .i64 x.val,Value.int .i64 x.index,Value.slice pt x.types.length ct,Value.slice pl x.labels.length cl]] w' fun e w2=>e=.returned (.bool (cq x))∧Ext w' w2:=fun w' hx=>pJ F x pt pl ct cl w' (ht.aO hx (fun _ _ _ h=>h)) (hl2.aO hx (fun _ _ _ h=>h));have hst:∀w',Ext w w'→bY c (AF F w (fun _=>False)) w' ⟨⟨.slice p1 c.ao.ts.length c1,.slice p2 c.ao.ps.length c2,.slice p3 c.ao.ps.length c3⟩,.slice p4 c.fs.length c4,.slice p5 c.results.length c5,z⟩:=fun w' hx=>(bY.fr c (bY.lt c h) hx (fun _ _ _ h=>h)).mono fun _ hk=>.inl hk
 obtain⟨r,hr⟩:∃r,oa c m locals x=r:=⟨_,rfl⟩
 rw[hr]
 unfold oa at hr
 refine ae (l:=[_,.agg ([v0,v1,v2,v3,v4,v5,v6,Value.bool m.br,Value.int .i64 m.start,v7,v8,v9]).toArray,_,_]) Tryz.func26 rfl Tryz.ntmps26 rfl (Ok.eI (V:=bY c) (bY.fr c) (bY.lt c) h) ?_
 dsimp only[er];refine ar ?_;refine aa.box [.slice p1 c.ao.ts.length c1,.slice p2 c.ao.ps.length c2,.slice p3 c.ao.ps.length c3,.int .i64 c.ao.bH,.slice p4 c.fs.length c4,.slice p5 c.results.length c5,.int .i64 0] rfl rfl rfl fun b4=>?_;refine aa.box [v0,v1,v2,v3,v4,v5,v6,Value.bool m.br,Value.int .i64 m.start,v7,v8,v9] rfl rfl rfl fun b5=>?_;refine aa.box [Value.int .i64 x.op,Value.int .i64 x.a,Value.int .i64 x.b,Value.int .u64 x.n,Value.int .i64 x.kind,Value.int .i64 x.val,Value.int .i64 x.index,Value.slice pt x.types.length ct,Value.slice pl x.labels.length cl] rfl rfl rfl fun b7=>?_;refine aa.alloc (t:=uA) [.slice none 0 0,.slice none 0 0,.slice none 0 0,.int .i64 0,.slice none 0 0,.slice none 0 0,.int .i64 0] rfl rfl rfl fun b8=>?_
 by_cases hp:cq x=false
 ·rw[if_pos hp]at hr
  subst hr
  rw[hp]at hplain
  repeat'(first|refine ar ?_|(refine KT fun b_=>?_)|refine kt ?_|fail)
  all_goals exact kw
 rw[if_neg hp]at hr
 have hp:cq x=true:=by simpa using hp
 rw[hp]at hplain
 by_cases q1:opens x.op
 ·have hop:=q1
  have hb:=hbk
  rw[if_pos q1]at hr
  have hbl:∀w',Ext w w'→Calls G.P 66 #[.agg ([v0,v1,v2,v3,v4,v5,v6,Value.bool m.br,Value.int .i64 m.start,v7,v8,v9]).toArray,.agg #[.int .i64 x.kind,.int .i64 x.val,.int .i64 x.index]] w' (iZ (cA m x.kind x.val x.index) (AF F w (fun _=>False)) w'):=fun w' hx=>(wZ F m x.kind x.val x.index _ w' (hm0.aO hx (fun _ _ _ h=>h)) (fun k hk=>Nat.lt_of_lt_of_le (hF k hk) hx.size)).mono fun _ _ hg=>bg.EJ (V:=dr _) (fun h hd=>h.mono hd) hg (fun k hk=>.inl ⟨hk,hF k hk⟩)
  generalize cA m x.kind x.val x.index=q at hbl hb hr
  unfold opens at hop
  cases q with
  |none=>
   dsimp only at hr
   subst hr
   rcases hop with hop|hop|hop
   all_goals
    repeat'(first|refine ar ?_|(refine KT fun b_=>?_)|refine kt ?_|(refine aa.ai (f:=66) ?_;refine aa.he (HE.qB (V:=dr dy) (w0:=w) (F:=F) (tf:=fun y:Value×Value=>.tuple #[.agg #[y.1,y.2],.bool false]) (dr.fr _) (dr.lt _) (dr.mo _) ak rfl rfl (fun w' hw'=>hbl w' hw'.at)) rfl ?_;rintro⟨D_,u1_,u2_⟩ _;dsimp only;refine aa.pure (φ:=(∃p c,u1_=.slice p (dy).params.length c)∧∃p c,u2_=.slice p (dy).results.length c) (fun w' hw'=>dr.shape (hw'.an (V:=dr dy) (w0:=w) (F:=F) (D:=D_) (y:=(u1_,u2_)) ak bG)) ?_;rintro⟨⟨p_,c_,rfl⟩,⟨q_,d_,rfl⟩⟩)|fail)
    all_goals exact kw
  |some f=>
   dsimp only at hr
   have hb:=hb f rfl
   have hk:∀D w' pa ca pb cb,Ext w w'→bY c (AF F w D) w' ⟨⟨.slice p1 c.ao.ts.length c1,.slice p2 c.ao.ps.length c2,.slice p3 c.ao.ps.length c3⟩,.slice p4 c.fs.length c4,.slice p5 c.results.length c5,z⟩→dr f (AF F w D) w' (.slice pa f.params.length ca,.slice pb f.results.length cb)→Calls G.P 20 #[.agg (er c ⟨⟨.slice p1 c.ao.ts.length c1,.slice p2 c.ao.ps.length c2,.slice p3 c.ao.ps.length c3⟩,.slice p4 c.fs.length c4,.slice p5 c.results.length c5,z⟩).toArray,.int .i64 x.op,.agg #[.slice pa f.params.length ca,.slice pb f.results.length cb]] w' (fT r (AF F w D) w'):=fun D w' pa ca pb cb hx h1 h2=>by rw[←hr];exact pG _ c _ x.op f pa pb ca cb w' h1 h2 hs hfl hpl hb
   dsimp only[er]at hk
   rcases hop with hop|hop|hop
   all_goals
    repeat'(first|refine ar ?_|(refine KT fun b_=>?_)|refine kt ?_|(refine aa.ai (f:=66) ?_;refine aa.he (HE.qB (V:=dr f) (w0:=w) (F:=F) (tf:=fun y:Value×Value=>.tuple #[.agg #[y.1,y.2],.bool true]) (dr.fr _) (dr.lt _) (dr.mo _) ak rfl rfl (fun w' hw'=>hbl w' hw'.at)) rfl ?_;rintro⟨D_,u1_,u2_⟩ _;dsimp only;refine aa.pure (φ:=(∃p c,u1_=.slice p (f).params.length c)∧∃p c,u2_=.slice p (f).results.length c) (fun w' hw'=>dr.shape (hw'.an (V:=dr f) (w0:=w) (F:=F) (D:=D_) (y:=(u1_,u2_)) ak bG)) ?_;rintro⟨⟨p_,c_,rfl⟩,⟨q_,d_,rfl⟩⟩)|fail)
    all_goals first|(exfalso;omega)|skip
    refine JU ?_
    refine JV ?_
    rintro⟨D1,y1,l1⟩ _;refine aa.pure (φ:=fh l1) (fun w' hw'=>(hw'.an (V:=fm r) (w0:=w) (F:=F) (D:=D1) (y:=(y1,l1)) ak bG).1) ?_;rintro⟨a1,n1,k1,a2,n2,k2,a3,n3,k3,mm,a4,n4,k4',a5,n5,k5,bb,rfl⟩;dsimp only
    repeat'(first|refine ar ?_|fail)
    all_goals exact li
 rw[if_neg q1]at hr
 by_cases q2:x.op=5
 ·have hop:=q2
  have hb:c.ao.ts.length+(ix c.fs (c.fs.length - 1)).par.length≤17592186044416:=by omega
  rw[if_pos q2]at hr
  have hk:∀w',Ext w w'→Calls G.P 67 #[.agg (er c ⟨⟨.slice p1 c.ao.ts.length c1,.slice p2 c.ao.ps.length c2,.slice p3 c.ao.ps.length c3⟩,.slice p4 c.fs.length c4,.slice p5 c.results.length c5,z⟩).toArray] w' (fT r (AF F w (fun _=>False)) w'):=fun w' hx=>by rw[←hr];exact yw _ c _ w' (hst w' hx) hs hfl hpl hmany hb
  dsimp only[er]at hk
  repeat'(first|refine ar ?_|(refine KT fun b_=>?_)|refine kt ?_|fail)
  all_goals first|(exfalso;omega)|skip
  refine JW ?_
  rintro⟨D1,y1,l1⟩ _;refine aa.pure (φ:=fh l1) (fun w' hw'=>(hw'.an (V:=fm r) (w0:=w) (F:=F) (D:=D1) (y:=(y1,l1)) ak bG).1) ?_;rintro⟨a1,n1,k1,a2,n2,k2,a3,n3,k3,mm,a4,n4,k4',a5,n5,k5,bb,rfl⟩;dsimp only
  repeat'(first|refine ar ?_|fail)
  all_goals exact li
 rw[if_neg q2]at hr
 by_cases q3:x.op=11
 ·have hop:=q3
  have hb:c.ao.ts.length+(ix c.fs (c.fs.length - 1)).res.length≤17592186044416:=by omega
  rw[if_pos q3]at hr
  have hk:∀w',Ext w w'→Calls G.P 68 #[.agg (er c ⟨⟨.slice p1 c.ao.ts.length c1,.slice p2 c.ao.ps.length c2,.slice p3 c.ao.ps.length c3⟩,.slice p4 c.fs.length c4,.slice p5 c.results.length c5,z⟩).toArray] w' (fT r (AF F w (fun _=>False)) w'):=fun w' hx=>by rw[←hr];exact xD _ c _ w' (hst w' hx) hs hfl hpl hmany hb
  dsimp only[er]at hk
  repeat'(first|refine ar ?_|(refine KT fun b_=>?_)|refine kt ?_|fail)
  all_goals first|(exfalso;omega)|skip
  refine JW ?_
  rintro⟨D1,y1,l1⟩ _;refine aa.pure (φ:=fh l1) (fun w' hw'=>(hw'.an (V:=fm r) (w0:=w) (F:=F) (D:=D1) (y:=(y1,l1)) ak bG).1) ?_;rintro⟨a1,n1,k1,a2,n2,k2,a3,n3,k3,mm,a4,n4,k4',a5,n5,k5,bb,rfl⟩;dsimp only
  repeat'(first|refine ar ?_|fail)
  all_goals exact li
 rw[if_neg q3]at hr
 by_cases q4:x.op=0
 ·have hop:=q4
  rw[if_pos q4]at hr
  obtain⟨cc,hcc⟩:∃cc,fF c=cc:=⟨_,rfl⟩
  have hk:∀w',Ext w w'→Calls G.P 22 #[.agg (er c ⟨⟨.slice p1 c.ao.ts.length c1,.slice p2 c.ao.ps.length c2,.slice p3 c.ao.ps.length c3⟩,.slice p4 c.fs.length c4,.slice p5 c.results.length c5,z⟩).toArray] w' (bg (bY cc) (fun y=>.agg (er cc y).toArray) (AF F w (fun _=>False)) w'):=fun w' hx=>by rw[←hcc];exact km _ c _ w' (hst w' hx) hfl hs hpl
  rw[hcc]at hr
  subst hr
  dsimp only[er]at hk
  repeat'(first|refine ar ?_|(refine KT fun b_=>?_)|refine kt ?_|fail)
  all_goals first|(exfalso;omega)|skip
  refine aa.he (HE.bF (V:=bY c) (V2:=bY cc) (tf:=fun y=>.agg (er cc y).toArray) (w0:=w) (F:=F) (D:=fun _=>False) (y:=⟨⟨.slice p1 c.ao.ts.length c1,.slice p2 c.ao.ps.length c2,.slice p3 c.ao.ps.length c3⟩,.slice p4 c.fs.length c4,.slice p5 c.results.length c5,z⟩) (bY.fr _) (bY.lt _) (bY.mo _) ak bG (fun _=>aA) rfl rfl (fun w' hw' _=>hk w' hw'.at)) rfl ?_
  rintro⟨D5,y5⟩ _
  refine aa.pure (φ:=∃a1 n1 c1 a2 n2 c2 a3 n3 c3 a4 n4 c4 a5 n5 c5,∃z:List rU,y5=⟨⟨.slice a1 n1 c1,.slice a2 n2 c2,.slice a3 n3 c3⟩,.slice a4 n4 c4,.slice a5 n5 c5,z⟩) (fun w' hw'=>by obtain⟨p1,c1,p2,c2,p3,c3,p4,c4,p5,c5,e,-⟩:=(hw'.an (V:=bY cc) (w0:=w) (F:=F) (D:=D5) (y:=y5) ak bG).fP;exact⟨p1,_,c1,p2,_,c2,p3,_,c3,p4,_,c4,p5,_,c5,_,e⟩) ?_
  rintro⟨t1,m1,j1,t2,m2,j2,t3,m3,j3,t4,m4,j4,t5,m5,j5,z5,rfl⟩
  dsimp only[er]
  repeat'(first|refine ar ?_|fail)
  all_goals first|(exfalso;omega)|(refine ah.aF (.inl rfl) rfl rfl rfl rfl rfl aA rfl rfl ?_;exact fun w' hw'=>fT.ok (c:=cc) ⟨⟨.slice t1 m1 j1,.slice t2 m2 j2,.slice t3 m3 j3⟩,.slice t4 m4 j4,.slice t5 m5 j5,z5⟩ (hw'.new (V:=bY cc) (w:=w) (F:=F) (D:=D5) (y:=⟨⟨.slice t1 m1 j1,.slice t2 m2 j2,.slice t3 m3 j3⟩,.slice t4 m4 j4,.slice t5 m5 j5,z5⟩) (bY.mo _) ak bG) hw'.at)
 rw[if_neg q4]at hr
 by_cases q5:jumps x.op
 ·rw[if_pos q5]at hr
  unfold qC at hr
  have q5':=q5
  unfold jumps at q5'
  by_cases r15:x.op=15
  ·have hop:=r15
   have hb:c.ao.ts.length≤17592186044416:=by omega
   rw[if_pos r15]at hr
   have hk:∀w',Ext w w'→Calls G.P 69 #[.agg (er c ⟨⟨.slice p1 c.ao.ts.length c1,.slice p2 c.ao.ps.length c2,.slice p3 c.ao.ps.length c3⟩,.slice p4 c.fs.length c4,.slice p5 c.results.length c5,z⟩).toArray,.slice p5 c.results.length c5,.int .i64 0] w' (fT r (AF F w (fun _=>False)) w'):=fun w' hx=>by rw[←hr];exact oG _ c _ w' (hst w' hx) c.results p5 c.results.length c5 0 (fun _=>⟨rfl,jw h.2.2.1 hx _⟩) hfl hs hpl hb
   dsimp only[er]at hk
   repeat'(first|refine ar ?_|(refine KT fun b_=>?_)|refine kt ?_|fail)
   all_goals first|(exfalso;omega)|skip
   refine JX ?_
   repeat'(first|refine og ?_|(refine av.ep 70 ?_;refine av.he rfl rfl (HE.dX rfl rfl (fun w' hw'=>vT _ c ⟨⟨.slice p1 c.ao.ts.length c1,.slice p2 c.ao.ps.length c2,.slice p3 c.ao.ps.length c3⟩,.slice p4 c.fs.length c4,.slice p5 c.results.length c5,z⟩ w' (hst w' hw'.at))) (fun _=>bc) (fun _=>aV) ?_;rintro⟨⟩ _)|(refine av.ep 69 ?_;refine av.he rfl rfl (HE.bF (V:=bY c) (V2:=fm r) (tf:=fun x=>.tuple #[.agg x.2.toArray,.int .i64 r.2]) (w0:=w) (F:=F) (D:=fun _=>False) (y:=⟨⟨.slice p1 c.ao.ts.length c1,.slice p2 c.ao.ps.length c2,.slice p3 c.ao.ps.length c3⟩,.slice p4 c.fs.length c4,.slice p5 c.results.length c5,z⟩) (fm.fr _) (fm.lt _) (fm.mo _) ak bG (fun _=>aA) rfl rfl (fun w' hw' _=>hk w' hw'.at)) (fun _=>bc) (fun _=>aV) ?_;rintro⟨D1,y1,l1⟩ _;refine aP.pure (φ:=fh l1) (fun w' hw'=>(hw'.an (V:=fm r) (w0:=w) (F:=F) (D:=D1) (y:=(y1,l1)) ak bG).1) ?_;rintro⟨a1,n1,k1,a2,n2,k2,a3,n3,k3,mm,a4,n4,k4',a5,n5,k5,bb,rfl⟩;dsimp only)|(refine av.nw ?_;refine av.jf rfl (fQ.bn _ rfl rfl rfl rfl rfl rfl aA rfl) (fun _=>bc) (fun _=>aV) ?_;rintro⟨⟩ _)|refine aP.nil LX ?_|refine aP.any LX ?_|exact aN.fin rfl|refine aN.skip LX ?_|refine aN.go ?_ ?_)
   all_goals
    repeat'(first|refine ar ?_|fail)
    all_goals exact li
  rw[if_neg r15]at hr
  by_cases r14:x.op=14
  ·have hop:=r14
   rw[if_pos r14]at hr
   have hk:∀w',Ext w w'→Calls G.P 73 #[.agg (er c ⟨⟨.slice p1 c.ao.ts.length c1,.slice p2 c.ao.ps.length c2,.slice p3 c.ao.ps.length c3⟩,.slice p4 c.fs.length c4,.slice p5 c.results.length c5,z⟩).toArray,.agg #[Value.int .i64 x.op,Value.int .i64 x.a,Value.int .i64 x.b,Value.int .u64 x.n,Value.int .i64 x.kind,Value.int .i64 x.val,Value.int .i64 x.index,Value.slice pt x.types.length ct,Value.slice pl x.labels.length cl]] w' (fT r (AF F w (fun _=>False)) w'):=fun w' hx=>by rw[←hr];exact tm _ c _ w' (hst w' hx) x pt pl ct cl (jw hl2 hx _) hll hfl hs hpl hlb
   dsimp only[er]at hk
   repeat'(first|refine ar ?_|(refine KT fun b_=>?_)|refine kt ?_|fail)
   all_goals first|(exfalso;omega)|skip
   refine JW ?_
   rintro⟨D1,y1,l1⟩ _;refine aa.pure (φ:=fh l1) (fun w' hw'=>(hw'.an (V:=fm r) (w0:=w) (F:=F) (D:=D1) (y:=(y1,l1)) ak bG).1) ?_;rintro⟨a1,n1,k1,a2,n2,k2,a3,n3,k3,mm,a4,n4,k4',a5,n5,k5,bb,rfl⟩;dsimp only
   repeat'(first|refine ar ?_|fail)
   all_goals exact li
  rw[if_neg r14]at hr
  by_cases r13:x.op=13
  ·have hop:=r13
   have hb:=hts
   rw[if_pos r13]at hr
   obtain⟨u,hu,hcall⟩:=lK F c ⟨⟨.slice p1 c.ao.ts.length c1,.slice p2 c.ao.ps.length c2,.slice p3 c.ao.ps.length c3⟩,.slice p4 c.fs.length c4,.slice p5 c.results.length c5,z⟩ w h x.a
   have hlb:=hlb x.a
   obtain⟨q,hq⟩:∃q,eA c x.a=q:=⟨_,rfl⟩
   rw[hq]at hu hcall hlb hr
   obtain⟨l,e⟩:=q
   dsimp only at hu hcall hlb hr
   obtain⟨pu,cu,rfl,_⟩:=hu.slice
   dsimp only[er]at hcall
   by_cases he:e=0
   ·subst he
    rw[if_neg (fun h=>h rfl)]at hr
    have hk:∀D w' pb cb,Ext w w'→bY c (AF F w D) w' ⟨⟨.slice p1 c.ao.ts.length c1,.slice p2 c.ao.ps.length c2,.slice p3 c.ao.ps.length c3⟩,.slice p4 c.fs.length c4,.slice p5 c.results.length c5,z⟩→af (AF F w D) w' (.slice pb (l++[(1:Int)]).length cb) (l++[(1:Int)])→Calls G.P 72 #[.agg (er c ⟨⟨.slice p1 c.ao.ts.length c1,.slice p2 c.ao.ps.length c2,.slice p3 c.ao.ps.length c3⟩,.slice p4 c.fs.length c4,.slice p5 c.results.length c5,z⟩).toArray,.agg #[.slice pb (l++[(1:Int)]).length cb,.slice pu l.length cu]] w' (fT r (AF F w D) w'):=fun D w' pb cb hx h1 h2=>by rw[←hr];exact mR _ c _ w' h1 ⟨l++[(1:Int)],l⟩ pb pu cb cu ⟨h2,jw hu hx _⟩ hs (by show c.ao.ts.length+l.length≤_;omega)
    dsimp only[er]at hk
    repeat'(first|refine ar ?_|(refine KT fun b_=>?_)|refine kt ?_|refine La ?_|fail)
    all_goals first|(exfalso;omega)|skip
    (try simp only[List.getElem_toArray,List.getElem_cons_zero,List.getElem_cons_succ])
    refine JX ?_
    repeat'(first|refine og ?_|(refine av.kZ ?_;refine av.he rfl rfl (HE.jJ rfl rfl rfl rfl rfl eT Ml Ml) (fun _=>bc) (fun _=>aV) ?_;rintro bl0 _;refine aP.map (fun w' hw'=>hw'.iS (b:=bl0) (len:=0) (s:=1) aA rfl LR) ?_)|(refine av.kZ ?_;refine av.he rfl rfl (HE.jJ rfl rfl rfl rfl rfl eT Ml Ml) (fun _=>bc) (fun _=>aV) ?_;rintro bl _)|(refine av.ug ?_;refine av.he rfl rfl (HE.app rfl rfl (fun _=>aA) aA rfl rfl rfl Ml Ml Ml Ml Ml Ml Mj (fun _ _=>Nat.zero_le _)) (fun _=>bc) (fun _=>aV) ?_;rintro vb _;refine aP.pure (φ:=∃p cc,vb=.slice p (l++[(1:Int)]).length cc) (fun w' hw'=>by obtain⟨p,cc,e,_⟩:=ax (hw'.own (v:=vb));exact⟨p,cc,by rw[e,List.length_append];rfl⟩) ?_;rintro⟨pb,cb,rfl⟩;refine aP.Gc (B:=0) (T:=fY) (m:=l.length+1) (v:=.slice pb (l++[(1:Int)]).length cb) (cs:=aX l++[.int .i64 1]) (w0:=w) (F:=F) (l++[(1:Int)]) aA (by rw[List.length_append];rfl) (nU l 1).symm (by rw[List.length_append];show l.length+1≤_;omega) ?_;refine aP.rh (V:=bY c) (V2:=A0 (l++[(1:Int)])) (w0:=w) (F:=F) (D:=fun _=>False) (D2:=fun k=>(Value.slice pb (l++[(1:Int)]).length cb).ownBlock=some k) (y:=⟨⟨.slice p1 c.ao.ts.length c1,.slice p2 c.ao.ps.length c2,.slice p3 c.ao.ps.length c3⟩,.slice p4 c.fs.length c4,.slice p5 c.results.length c5,z⟩) (y2:=.slice pb (l++[(1:Int)]).length cb) (bY.mo _) (A0.mo _) je je ?_)|(refine av.ug ?_;refine av.he rfl rfl (HE.gA (aX l) rfl rfl (fun _=>aA) (iT hu ak) Me rfl rfl rfl Ml Ml Ml (eV _) (by show(0+l.length)*8≤_;omega) Mj (fun _ _=>Nat.zero_le _)) (fun _=>bc) (fun _=>aV) ?_;rintro va _;simp only[Nat.zero_add,List.nil_append];refine aP.pure (φ:=∃p cc,va=.slice p l.length cc) (fun w' hw'=>by obtain⟨p,cc,e,_⟩:=ax (hw'.own (v:=va));exact⟨p,cc,e⟩) ?_;rintro⟨pa,ca,rfl⟩)|(refine av.ep 72 ?_;refine av.he rfl rfl (HE.bF (V:=Ex (bY c) (A0 (l++[(1:Int)]))) (V2:=fm r) (tf:=fun x=>.tuple #[.agg x.2.toArray,.int .i64 r.2]) (w0:=w) (F:=F) (D:=fun k=>False∨(Value.slice pb (l++[(1:Int)]).length cb).ownBlock=some k) (y:=(⟨⟨.slice p1 c.ao.ts.length c1,.slice p2 c.ao.ps.length c2,.slice p3 c.ao.ps.length c3⟩,.slice p4 c.fs.length c4,.slice p5 c.results.length c5,z⟩,.slice pb (l++[(1:Int)]).length cb)) (fm.fr _) (fm.lt _) (fm.mo _) ak bG (fun _=>aA) rfl rfl (fun w' hw' hh=>hk _ w' pb cb hw'.at hh.1 hh.2)) (fun _=>bc) (fun _=>aV) ?_;rintro⟨D1,y1,l1⟩ _;refine aP.pure (φ:=fh l1) (fun w' hw'=>(hw'.an (V:=fm r) (w0:=w) (F:=F) (D:=D1) (y:=(y1,l1)) ak bG).1) ?_;rintro⟨a1,n1,k1,a2,n2,k2,a3,n3,k3,mm,a4,n4,k4',a5,n5,k5,bb,rfl⟩;dsimp only)|(refine av.nw ?_;refine av.jf rfl (fQ.bn _ rfl rfl rfl rfl rfl rfl aA rfl) (fun _=>bc) (fun _=>aV) ?_;rintro⟨⟩ _)|refine aP.nil LX ?_|refine aP.any LX ?_|exact aN.fin rfl|refine aN.skip LX ?_|refine aN.go ?_ ?_)
    all_goals
     repeat'(first|refine ar ?_|fail)
     all_goals exact li
   ·rw[if_pos he]at hr
    subst hr
    repeat'(first|refine ar ?_|(refine KT fun b_=>?_)|refine kt ?_|refine La ?_|fail)
    all_goals exact lm
  rw[if_neg r13]at hr
  have hop:x.op=12:=by omega
  have hb:c.ao.ts.length≤17592186044416:=by omega
  obtain⟨u,hu,hcall⟩:=lK F c ⟨⟨.slice p1 c.ao.ts.length c1,.slice p2 c.ao.ps.length c2,.slice p3 c.ao.ps.length c3⟩,.slice p4 c.fs.length c4,.slice p5 c.results.length c5,z⟩ w h x.a
  have hlb:=hlb x.a
  obtain⟨q,hq⟩:∃q,eA c x.a=q:=⟨_,rfl⟩
  rw[hq]at hu hcall hlb hr
  obtain⟨l,e⟩:=q
  dsimp only at hu hcall hlb hr
  obtain⟨pu,cu,rfl,_⟩:=hu.slice
  have hk:∀w',Ext w w'→Calls G.P 69 #[.agg (er c ⟨⟨.slice p1 c.ao.ts.length c1,.slice p2 c.ao.ps.length c2,.slice p3 c.ao.ps.length c3⟩,.slice p4 c.fs.length c4,.slice p5 c.results.length c5,z⟩).toArray,.slice pu l.length cu,.int .i64 e] w' (fT r (AF F w (fun _=>False)) w'):=fun w' hx=>by rw[←hr];exact oG _ c _ w' (hst w' hx) l pu l.length cu e (fun _=>⟨rfl,jw hu hx _⟩) hfl hs hpl hb
  dsimp only[er]at hk hcall
  repeat'(first|refine ar ?_|(refine KT fun b_=>?_)|refine kt ?_|refine La ?_|fail)
  all_goals first|(exfalso;omega)|skip
  refine JW ?_
  rintro⟨D1,y1,l1⟩ _;refine aa.pure (φ:=fh l1) (fun w' hw'=>(hw'.an (V:=fm r) (w0:=w) (F:=F) (D:=D1) (y:=(y1,l1)) ak bG).1) ?_;rintro⟨a1,n1,k1,a2,n2,k2,a3,n3,k3,mm,a4,n4,k4',a5,n5,k5,bb,rfl⟩;dsimp only
  repeat'(first|refine ar ?_|fail)
  all_goals exact li
 rw[if_neg q5]at hr
 by_cases q6:jy x.op
 ·have hop:=q6
  have hb:c.ao.ts.length+1≤17592186044416:=by omega
  rw[if_pos q6]at hr
  have hk:∀w',Ext w w'→Calls G.P 74 #[.agg (er c ⟨⟨.slice p1 c.ao.ts.length c1,.slice p2 c.ao.ps.length c2,.slice p3 c.ao.ps.length c3⟩,.slice p4 c.fs.length c4,.slice p5 c.results.length c5,z⟩).toArray,.int .i64 x.op] w' (fT r (AF F w (fun _=>False)) w'):=fun w' hx=>by rw[←hr];exact yi _ c _ w' (hst w' hx) x.op hop hs hb
  dsimp only[er]at hk
  unfold jy at hop
  rcases hop with hop|hop|hop
  all_goals
   repeat'(first|refine ar ?_|(refine KT fun b_=>?_)|refine kt ?_|fail)
   all_goals first|(exfalso;omega)|skip
   refine JW ?_
   rintro⟨D1,y1,l1⟩ _;refine aa.pure (φ:=fh l1) (fun w' hw'=>(hw'.an (V:=fm r) (w0:=w) (F:=F) (D:=D1) (y:=(y1,l1)) ak bG).1) ?_;rintro⟨a1,n1,k1,a2,n2,k2,a3,n3,k3,mm,a4,n4,k4',a5,n5,k5,bb,rfl⟩;dsimp only
   repeat'(first|refine ar ?_|fail)
   all_goals exact li
 rw[if_neg q6]at hr
 have ha:=sf q1 q2 q3 q4 q5 q6
 have hb:=htb hp ha
 have hop:x.op≠2∧x.op≠3∧x.op≠4∧x.op≠5∧x.op≠11∧x.op≠0∧x.op≠12∧x.op≠13∧x.op≠14∧x.op≠15∧x.op≠26∧x.op≠27∧x.op≠209:=by simpa[ij,and_assoc]using ha
 have hwa:∀w',Ext w w'→Calls G.P 13 #[.agg ([v0,v1,v2,v3,v4,v5,v6,Value.bool m.br,Value.int .i64 m.start,v7,v8,v9]).toArray,.slice lp locals.length lc,.agg #[Value.int .i64 x.op,Value.int .i64 x.a,Value.int .i64 x.b,Value.int .u64 x.n,Value.int .i64 x.kind,Value.int .i64 x.val,Value.int .i64 x.index,Value.slice pt x.types.length ct,Value.slice pl x.labels.length cl]] w' (ia (jH m locals x) (AF F w (fun _=>False)) w'):=fun w' hx=>(wU F m _ locals x lp pt pl lc ct cl w' (hm0.aO hx (fun _ _ _ h=>h)) (hl.aO hx (fun _ _ _ h=>h)) (ht.aO hx (fun _ _ _ h=>h)) (fun k hk=>Nat.lt_of_lt_of_le (hF k hk) hx.size) hT (hl2.aO hx (fun _ _ _ h=>h))).mono fun _ _ hg=>bg.EJ (V:=dr _) (fun h hd=>h.mono hd) hg (fun k hk=>.inl ⟨hk,hF k hk⟩)
 obtain⟨q,hq⟩:∃q,jH m locals x=q:=⟨_,rfl⟩
 rw[hq]at hwa hb hr
 obtain⟨f,e⟩:=q
 dsimp only at hwa hb hr
 by_cases he:e=0
 ·subst he
  rw[if_neg (fun h=>h rfl)]at hr
  have hk:∀D w' pa ca pb cb,Ext w w'→bY c (AF F w D) w' ⟨⟨.slice p1 c.ao.ts.length c1,.slice p2 c.ao.ps.length c2,.slice p3 c.ao.ps.length c3⟩,.slice p4 c.fs.length c4,.slice p5 c.results.length c5,z⟩→dr f (AF F w D) w' (.slice pa f.params.length ca,.slice pb f.results.length cb)→Calls G.P 72 #[.agg (er c ⟨⟨.slice p1 c.ao.ts.length c1,.slice p2 c.ao.ps.length c2,.slice p3 c.ao.ps.length c3⟩,.slice p4 c.fs.length c4,.slice p5 c.results.length c5,z⟩).toArray,.agg #[.slice pa f.params.length ca,.slice pb f.results.length cb]] w' (fT r (AF F w D) w'):=fun D w' pa ca pb cb hx h1 h2=>by rw[←hr];exact mR _ c _ w' h1 f pa pb ca cb h2 hs hb
  dsimp only[er]at hk
  repeat'(first|refine ar ?_|(refine KT fun b_=>?_)|refine kt ?_|(refine aa.ai (f:=13) ?_;refine aa.he (HE.qB (V:=dr f) (w0:=w) (F:=F) (tf:=fun y:Value×Value=>.tuple #[.agg #[y.1,y.2],.int .i64 0]) (dr.fr f) (dr.lt f) (dr.mo f) ak rfl rfl (fun w' hw'=>hwa w' hw'.at)) rfl ?_;rintro⟨D_,u1_,u2_⟩ _;dsimp only;refine aa.pure (φ:=(∃p c,u1_=.slice p f.params.length c)∧∃p c,u2_=.slice p f.results.length c) (fun w' hw'=>dr.shape (hw'.an (V:=dr f) (w0:=w) (F:=F) (D:=D_) (y:=(u1_,u2_)) ak bG)) ?_;rintro⟨⟨p_,c_,rfl⟩,⟨q_,d_,rfl⟩⟩)|fail)
  all_goals first|(exfalso;omega)|skip
  refine JU ?_
  refine JV ?_
  rintro⟨D1,y1,l1⟩ _;refine aa.pure (φ:=fh l1) (fun w' hw'=>(hw'.an (V:=fm r) (w0:=w) (F:=F) (D:=D1) (y:=(y1,l1)) ak bG).1) ?_;rintro⟨a1,n1,k1,a2,n2,k2,a3,n3,k3,mm,a4,n4,k4',a5,n5,k5,bb,rfl⟩;dsimp only
  repeat'(first|refine ar ?_|fail)
  all_goals exact li
 ·rw[if_pos he]at hr
  subst hr
  repeat'(first|refine ar ?_|(refine KT fun b_=>?_)|refine kt ?_|(refine aa.ai (f:=13) ?_;refine aa.he (HE.qB (V:=dr f) (w0:=w) (F:=F) (tf:=fun y:Value×Value=>.tuple #[.agg #[y.1,y.2],.int .i64 e]) (dr.fr f) (dr.lt f) (dr.mo f) ak rfl rfl (fun w' hw'=>hwa w' hw'.at)) rfl ?_;rintro⟨D_,u1_,u2_⟩ _;dsimp only;refine aa.pure (φ:=(∃p c,u1_=.slice p f.params.length c)∧∃p c,u2_=.slice p f.results.length c) (fun w' hw'=>dr.shape (hw'.an (V:=dr f) (w0:=w) (F:=F) (D:=D_) (y:=(u1_,u2_)) ak bG)) ?_;rintro⟨⟨p_,c_,rfl⟩,⟨q_,d_,rfl⟩⟩)|fail)
  all_goals exact lm
structure GK (c:di) (m:aj) (locals:List Int) (x:cJ):Prop where
 fs:c.fs.length≤1000
 ts:c.ao.ts.length≤1000000000000
 res:c.results.length≤100000000000
 kR:∀n,(cy c n).1.length≤100000000000
 par:c.top.par.length≤100000000000
 rs:c.top.res.length≤100000000000
 ll:x.labels.length≤1000
 aT:∀f,cA m x.kind x.val x.index=some f→(c.ao.ts.length+f.params.length)*8≤140737488355328
 Hq:(c.ao.ts.length+(ed m locals x).1.results.length)*8≤140737488355328
theorem zj (B:Nat) (F:Nat→Prop) (cp:Nat) (c:di) (v:iY) (m:aj) (locals:List Int) (sv:Value) (x:cJ) (lp pt pl:Option Addr) (lc ct cl:Nat) (w:World) (hw:Ok (aQ cp c v) (nP B F m sv locals (.slice lp locals.length lc) x (.slice pt x.types.length ct) (.slice pl x.labels.length cl)) w) (hg:v.Good c) (hwf:c.Wf) (hb:c.broken=0) (hT:kx m) (hB:GK c m locals x):
  Calls G.P 16 #[.pointer (some ⟨cp,0,none⟩),sv,.slice lp locals.length lc,.agg #[Value.int .i64 x.op,Value.int .i64 x.a,Value.int .i64 x.b,Value.int .u64 x.n,Value.int .i64 x.kind,Value.int .i64 x.val,Value.int .i64 x.index,Value.slice pt x.types.length ct,Value.slice pl x.labels.length cl]] w (aD (aQ cp c v) cp (jV c m locals x) w):=by
 have h1:=hB.fs
 have h2:=hB.ts
 have h3:=hB.par
 have h4:=hB.rs
 unfold jV
 cases hp:cq x with
 |false=>rw[if_pos rfl];exact uw B F cp c v m locals sv x lp pt pl lc ct cl w hw hp
 |true=>
  rw[if_neg Mh]
  by_cases q1:opens x.op
  ·rw[if_pos q1];exact qj B F cp c v m locals sv x lp pt pl lc ct cl w hw hg hwf hb hp q1 h1 hB.aT
  rw[if_neg q1]
  by_cases q2:x.op=5
  ·rw[if_pos q2];exact qi B F cp c v m locals sv x lp pt pl lc ct cl w hw hg hwf hb hp q2 h1 Mj
  rw[if_neg q2]
  by_cases q3:x.op=11
  ·rw[if_pos q3];exact qZ B F cp c v m locals sv x lp pt pl lc ct cl w hw hg hwf hb hp q3 h1 Mj
  rw[if_neg q3]
  by_cases q4:x.op=0
  ·rw[if_pos q4];exact sR B F cp c v m locals sv x lp pt pl lc ct cl w hw hg hwf hb hp q4
  rw[if_neg q4]
  by_cases q5:jumps x.op
  ·rw[if_pos q5];exact qm B F cp c v m locals sv x lp pt pl lc ct cl w hw hg hwf hb hp q5 hB.res hB.kR hB.ll h2
  rw[if_neg q5]
  by_cases q6:jy x.op
  ·rw[if_pos q6];exact ql B F cp c v m locals sv x lp pt pl lc ct cl w hw hg hwf hb hp q6 Mj
  rw[if_neg q6]
  exact jt B F cp c v m locals sv x lp pt pl lc ct cl w hw hg hwf hp (sf q1 q2 q3 q4 q5 q6) hT (EF _ hB.Hq)
theorem yL {c:di} (hb:c.broken=0) (hk:c.Ok) {k:Nat} (h:∀n,(cy c n).1.length≤k) (n:Int):(eA (bB c) n).1.length≤k:=by rw[←o9 c n hb hk];exact h n
theorem xw (F:Nat→Prop) (c:di) (y:iP) (m:aj) (cs:List Value) (locals:List Int) (x:cJ) (lp pt pl:Option Addr) (lc ct cl:Nat) (w:World) (h:bY (bB c) F w y) (hm:ay F w cs m) (hl:af F w (.slice lp locals.length lc) locals) (ht:af F w (.slice pt x.types.length ct) x.types) (hl2:af F w (.slice pl x.labels.length cl) x.labels) (hF:∀k,F k→k<w.heap.size) (hT:kx m) (hwf:c.Wf) (hok:c.Ok) (hb:c.broken=0) (hB:GK c m locals x):
  Calls G.P 26 #[.agg (er (bB c) y).toArray,.agg cs.toArray,.slice lp locals.length lc,.agg #[Value.int .i64 x.op,Value.int .i64 x.a,Value.int .i64 x.b,Value.int .u64 x.n,Value.int .i64 x.kind,Value.int .i64 x.val,Value.int .i64 x.index,Value.slice pt x.types.length ct,Value.slice pl x.labels.length cl]] w (fT (oa (bB c) m locals x) F w):=by
 have h1:=hB.fs
 have h2:=hB.ts
 have h3:=hB.par
 have h4:=hB.rs
 have hts:(bB c).ao.ts.length=c.ao.ts.length:=rfl
 have hs:(bB c).ao.Wf:=hwf.ao
 have hfl:(bB c).fs.length≤1000000:=by rw[cB];omega
 have hmany:(bB c).ao.ps.length=(bB c).fs.length+1:=by rw[cB];exact hwf.many
 have hpl:(bB c).ao.ps.length≤1000000:=by rw[hmany,cB];omega
 have hlb:∀n,(eA (bB c) n).1.length≤100000000000:=yL hb hok hB.kR
 have htop:(bB c).fs.length≠0→(ix (bB c).fs ((bB c).fs.length - 1)).par=c.top.par∧(ix (bB c).fs ((bB c).fs.length - 1)).res=c.top.res:=fun hn=>by
  rw[cB]at hn ⊢
  rw[hZ c Mj];exact⟨rfl,rfl⟩
 have hpar:(ix (bB c).fs ((bB c).fs.length - 1)).par.length≤100000000000:=by
  by_cases hn:(bB c).fs.length=0
  ·rw[hn];have:(bB c).fs=[]:=List.eq_nil_of_length_eq_zero hn;rw[this];exact Nat.zero_le _
  ·rw[(htop hn).1];exact h3
 have hres:(ix (bB c).fs ((bB c).fs.length - 1)).res.length≤100000000000:=by
  by_cases hn:(bB c).fs.length=0
  ·rw[hn];have:(bB c).fs=[]:=List.eq_nil_of_length_eq_zero hn;rw[this];exact Nat.zero_le _
  ·rw[(htop hn).2];exact h4
 exact wz F (bB c) y m cs locals x lp pt pl lc ct cl w h hm hl ht hl2 hF hT hs hfl hpl hmany Mj hpar hres hlb hB.ll (fun f hf=>by have:=hB.aT f hf;omega) (fun hp ha=>by
  have e:=rz m locals x
  unfold kP at e
  rw[if_neg (by rw[hp];decide),ha,if_neg Mh]at e
  rw[←e];have:=hB.Hq;omega)
theorem An.HN {β:Type} {V:(Nat→Prop)→World→β→Prop} (hV:tp V) (hm:vP V) {w0 w:World} {F D:Nat→Prop} {x:β} (h:V D w x):An V w0 F D w x:=fun _ _ h2=>hm (fun _ h=>.inr h) (hV h h2 (fun _ _ hk hn=>hn hk))
theorem Ok.IE {β:Type} {V:(Nat→Prop)→World→β→Prop} {M Mc:List a8} {R:List (World→Prop)} {w0 w:World} {F D:Nat→Prop} {y:β} (h:Ok M R w) (hr:js (a8.an V w0 F D y::Mc) M) (hR:Ext w0∈R):Ok Mc [fun w=>V (AF F w0 D) w y] w:=by
 have h1:Ok (a8.an V w0 F D y::Mc) [Ext w0] w:=h.cF hr (fun p hp=>by rw[List.mem_singleton]at hp;subst hp;exact hR)
 have h2:=h1.kB (q:=a8.an V w0 F D y) (p:=fun w=>V (AF F w0 D) w y) Rm.head (fun w' hp hr=>An.now hp (hr (Ext w0) Mk))
 exact h2.sub (List.Sublist.refl _) (fun p hp=>by rw[List.mem_singleton]at hp;subst hp;simp)
theorem A0.fr (xs:List Int):tp (A0 xs):=fun h hc hd=>af.aO h hc hd
theorem DL {F:Nat→Prop} {w w':World} {cs:List Value} {m:aj} (h:ay F w cs m) (hx:Ext w w') (D:Nat→Prop):ay (AF F w D) w' cs m:=((h.mono fun _ hk hF=>⟨hF,hk⟩:ay (fun k=>F k∧k<w.heap.size) w cs m).aO hx (fun _ _ _ h=>h)).mono fun _ _ h=>.inl h
theorem sW {m:aj} (hT:kx m) {k v i:Int} {f:aL} (h:cA m k v i=some f):f.params.length≤17592186043904∧f.results.length≤17592186043904:=by
 unfold cA at h
 split at h
 ·cases h;exact⟨Nat.zero_le _,Nat.zero_le _⟩
 ·split at h
  ·split at h
   ·cases h;exact⟨Nat.zero_le _,by show 1≤17592186043904;omega⟩
   ·cases h
  ·split at h
   ·exact hT _ (nc h)
   ·cases h
theorem bY.sh {c:fN} {D:Nat→Prop} {w:World} {y:iP} (h:bY c D w y):∃a1 n1 c1 a2 n2 c2 a3 n3 c3 a4 n4 c4 a5 n5 c5,∃z:List rU,y=⟨⟨.slice a1 n1 c1,.slice a2 n2 c2,.slice a3 n3 c3⟩,.slice a4 n4 c4,.slice a5 n5 c5,z⟩:=by
 obtain⟨p1,c1,p2,c2,p3,c3,p4,c4,p5,c5,e,-⟩:=h.fP
 exact⟨p1,_,c1,p2,_,c2,p3,_,c3,p4,_,c4,p5,_,c5,_,e⟩
theorem aY.sh {s:bP} {D:Nat→Prop} {w:World} {x:jq} (h:aY s D w x):∃p1 n1 c1 p2 n2 c2 p3 n3 c3,x=⟨.slice p1 n1 c1,.slice p2 n2 c2,.slice p3 n3 c3⟩:=by
 obtain⟨p1,c1,p2,c2,p3,c3,e,-⟩:=h.fP
 exact⟨p1,_,c1,p2,_,c2,p3,_,c3,e⟩
theorem Yl.Hg {n:Nat} {E:Env} {C:World→Prop} {t t2:TypeId} {x y:Operand} {a:Bool} (hx:ev E x=some (.bool a)) (hy:ev E y=some (.bool a)) (ht:∀w,(Op.equal t (.bool a) (.bool a)).run G.P w=.ok (a==a) w:=by intro w;kernel_rfl):Yl G n (.binOp .eql t x y t2) E C (.bool true):=by
 have:=Yl.G2 (G:=G) (n:=n) (E:=E) (C:=C) (t2:=t2) hx hy ht
 rwa[show(a==a)=true from by cases a<;>rfl]at this
theorem xT (D:Nat→Prop) (c:di) (y:iP) (w:World) (h:bY (bB c) D w y) (hb:c.broken=0) (hn:0<c.fs.length):Calls G.P 30 #[.agg (er (bB c) y).toArray] w fun e w'=>e=.returned (.bool c.live)∧Ext w w':=by
 have:=zA D (bB c) y w h (by rw[cB];exact hn)
 rw[DH c hb hn]at this;exact this
end Go.Proofs.YtgbgnipidakdhaaGreatDoor
