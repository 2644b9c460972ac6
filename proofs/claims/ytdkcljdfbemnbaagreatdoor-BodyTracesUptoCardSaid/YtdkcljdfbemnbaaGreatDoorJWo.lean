import Derived.Test.YtdkcljdfbemnbaaGreatDoorJWq
namespace Go.Proofs.YtdkcljdfbemnbaaGreatDoor
section
open Go.RowKit
set_option maxHeartbeats 8000000
open Value renaming int→Pm,slice→Pn
set_option maxRecDepth 100000
variable (F:Nat→Prop)
theorem wv (m:af) (cs:List Value) (locals:List Int) (x:cv) (lp pt pl:Option Addr) (lc ct cl:Nat) (w:World) (hm:au F w cs m) (_hl:ai F w (.slice lp locals.length lc) locals) (_ht:ai F w (.slice pt x.types.length ct) x.types) (_ha:0≤x.a) (_hi:eP x.a) (_hb:0≤x.b) (_hj:eP x.b) (_hF:∀k,F k→k<w.heap.size) (_hT:nb m) (hk:eR x.op=1):Calls G.P 122 #[.agg cs.toArray,.slice lp locals.length lc,.agg #[Pm .i64 x.op,Pm .i64 x.a,Pm .i64 x.b,Pm .u64 x.n,Pm .i64 x.kind,Pm .i64 x.val,Pm .i64 x.index,Pn pt x.types.length ct,Pn pl x.labels.length cl]] w (fL (dF,1) F w):=by
 have hm0:=hm
 obtain⟨v0,v1,v2,v3,v4,v5,v6,v7,v8,v9,rfl,r0,r1,r2,r3,r4,r5,r6,r7,r8,r9,g0⟩:=hm
 have hof:∀w',Calls G.P 105 #[.int .i64 x.op] w' fun e w2=>e=.returned (.int .i64 1)∧Ext w' w2:=fun w'=>by have:=dq x.op w';rw[show(eH x.op).2.2=1 from hk]at this;exact this
 refine Ms ?_
 repeat'(first|refine ar ?_|(refine NU fun b_=>?_)|refine Oz ?_|refine OB ?_|fail)
 all_goals exact lw
theorem wA (m:af) (cs:List Value) (locals:List Int) (x:cv) (lp pt pl:Option Addr) (lc ct cl:Nat) (w:World) (hm:au F w cs m) (_hl:ai F w (.slice lp locals.length lc) locals) (_ht:ai F w (.slice pt x.types.length ct) x.types) (_ha:0≤x.a) (_hi:eP x.a) (_hb:0≤x.b) (_hj:eP x.b) (_hF:∀k,F k→k<w.heap.size) (_hT:nb m) (hk:eR x.op=2):Calls G.P 122 #[.agg cs.toArray,.slice lp locals.length lc,.agg #[Pm .i64 x.op,Pm .i64 x.a,Pm .i64 x.b,Pm .u64 x.n,Pm .i64 x.kind,Pm .i64 x.val,Pm .i64 x.index,Pn pt x.types.length ct,Pn pl x.labels.length cl]] w (fL (dF,1) F w):=by
 have hm0:=hm
 obtain⟨v0,v1,v2,v3,v4,v5,v6,v7,v8,v9,rfl,r0,r1,r2,r3,r4,r5,r6,r7,r8,r9,g0⟩:=hm
 have hof:∀w',Calls G.P 105 #[.int .i64 x.op] w' fun e w2=>e=.returned (.int .i64 2)∧Ext w' w2:=fun w'=>by have:=dq x.op w';rw[show(eH x.op).2.2=2 from hk]at this;exact this
 refine Ms ?_
 repeat'(first|refine ar ?_|(refine NU fun b_=>?_)|refine Oz ?_|refine OB ?_|fail)
 all_goals exact lw
theorem wB (m:af) (cs:List Value) (locals:List Int) (x:cv) (lp pt pl:Option Addr) (lc ct cl:Nat) (w:World) (hm:au F w cs m) (_hl:ai F w (.slice lp locals.length lc) locals) (_ht:ai F w (.slice pt x.types.length ct) x.types) (_ha:0≤x.a) (_hi:eP x.a) (_hb:0≤x.b) (_hj:eP x.b) (_hF:∀k,F k→k<w.heap.size) (_hT:nb m) (hk:eR x.op=3):Calls G.P 122 #[.agg cs.toArray,.slice lp locals.length lc,.agg #[Pm .i64 x.op,Pm .i64 x.a,Pm .i64 x.b,Pm .u64 x.n,Pm .i64 x.kind,Pm .i64 x.val,Pm .i64 x.index,Pn pt x.types.length ct,Pn pl x.labels.length cl]] w (fL (dF,1) F w):=by
 have hm0:=hm
 obtain⟨v0,v1,v2,v3,v4,v5,v6,v7,v8,v9,rfl,r0,r1,r2,r3,r4,r5,r6,r7,r8,r9,g0⟩:=hm
 have hof:∀w',Calls G.P 105 #[.int .i64 x.op] w' fun e w2=>e=.returned (.int .i64 3)∧Ext w' w2:=fun w'=>by have:=dq x.op w';rw[show(eH x.op).2.2=3 from hk]at this;exact this
 refine Ms ?_
 repeat'(first|refine ar ?_|(refine NU fun b_=>?_)|refine Oz ?_|refine OB ?_|fail)
 all_goals exact lw
theorem wE (m:af) (cs:List Value) (locals:List Int) (x:cv) (lp pt pl:Option Addr) (lc ct cl:Nat) (w:World) (hm:au F w cs m) (_hl:ai F w (.slice lp locals.length lc) locals) (_ht:ai F w (.slice pt x.types.length ct) x.types) (ha:0≤x.a) (hi:eP x.a) (hb:0≤x.b) (hj:eP x.b) (hF:∀k,F k→k<w.heap.size) (_hT:nb m) (hk:eR x.op=4):Calls G.P 122 #[.agg cs.toArray,.slice lp locals.length lc,.agg #[Pm .i64 x.op,Pm .i64 x.a,Pm .i64 x.b,Pm .u64 x.n,Pm .i64 x.kind,Pm .i64 x.val,Pm .i64 x.index,Pn pt x.types.length ct,Pn pl x.labels.length cl]] w (fL (lP m x) F w):=by
 have hm0:=hm
 obtain⟨v0,v1,v2,v3,v4,v5,v6,v7,v8,v9,rfl,r0,r1,r2,r3,r4,r5,r6,r7,r8,r9,g0⟩:=hm
 have hof:∀w',Calls G.P 105 #[.int .i64 x.op] w' fun e w2=>e=.returned (.int .i64 4)∧Ext w' w2:=fun w'=>by have:=dq x.op w';rw[show(eH x.op).2.2=4 from hk]at this;exact this
 refine Ms ?_
 repeat'(first|refine ar ?_|(refine NU fun b_=>?_)|refine OB ?_|(refine aa.aj (f:=153) ?_;refine aa.he (HE.rg (F:=F) (r:=lP m x) ak hF rfl rfl (fun w' hw'=>BQ F m _ x pt pl ct cl w' (hm0.aN (show Ext w w' from hw'.at) (fun _ _ _ h=>h)) ha hi hb hj (fun k hk=>Nat.lt_of_lt_of_le (hF k hk) (show Ext w w' from hw'.at).size))) rfl ?_;rintro⟨D_,p_,c_,q_,d_⟩ hD_;dsimp only)|fail)
 all_goals first|omega|(refine ah.bB (.inl rfl) rfl rfl rfl rfl rfl aH rfl ?_;exact fun w' hw'=>bD.jl (f0:=(lP m x).1) (tf:=fun y:Value×Value=>.agg #[y.1,y.2,.int .i64 (lP m x).2]) ⟨D_,p_,c_,q_,d_⟩ hw' ak ak hD_)
theorem wF (m:af) (cs:List Value) (locals:List Int) (x:cv) (lp pt pl:Option Addr) (lc ct cl:Nat) (w:World) (hm:au F w cs m) (_hl:ai F w (.slice lp locals.length lc) locals) (_ht:ai F w (.slice pt x.types.length ct) x.types) (ha:0≤x.a) (hi:eP x.a) (hb:0≤x.b) (hj:eP x.b) (hF:∀k,F k→k<w.heap.size) (hT:nb m) (hk:eR x.op=5):Calls G.P 122 #[.agg cs.toArray,.slice lp locals.length lc,.agg #[Pm .i64 x.op,Pm .i64 x.a,Pm .i64 x.b,Pm .u64 x.n,Pm .i64 x.kind,Pm .i64 x.val,Pm .i64 x.index,Pn pt x.types.length ct,Pn pl x.labels.length cl]] w (fL (bZ m x) F w):=by
 have hm0:=hm
 obtain⟨v0,v1,v2,v3,v4,v5,v6,v7,v8,v9,rfl,r0,r1,r2,r3,r4,r5,r6,r7,r8,r9,g0⟩:=hm
 have hof:∀w',Calls G.P 105 #[.int .i64 x.op] w' fun e w2=>e=.returned (.int .i64 5)∧Ext w' w2:=fun w'=>by have:=dq x.op w';rw[show(eH x.op).2.2=5 from hk]at this;exact this
 refine Ms ?_
 repeat'(first|refine ar ?_|(refine NU fun b_=>?_)|refine OB ?_|(refine aa.aj (f:=154) ?_;refine aa.he (HE.rg (F:=F) (r:=bZ m x) ak hF rfl rfl (fun w' hw'=>uJ F m _ x pt pl ct cl w' (hm0.aN (show Ext w w' from hw'.at) (fun _ _ _ h=>h)) ha hi hb hj (fun k hk=>Nat.lt_of_lt_of_le (hF k hk) (show Ext w w' from hw'.at).size) hT)) rfl ?_;rintro⟨D_,p_,c_,q_,d_⟩ hD_;dsimp only)|fail)
 all_goals first|omega|(refine ah.bB (.inl rfl) rfl rfl rfl rfl rfl aH rfl ?_;exact fun w' hw'=>bD.jl (f0:=(bZ m x).1) (tf:=fun y:Value×Value=>.agg #[y.1,y.2,.int .i64 (bZ m x).2]) ⟨D_,p_,c_,q_,d_⟩ hw' ak ak hD_)
theorem wG (m:af) (cs:List Value) (locals:List Int) (x:cv) (lp pt pl:Option Addr) (lc ct cl:Nat) (w:World) (hm:au F w cs m) (hl:ai F w (.slice lp locals.length lc) locals) (ht:ai F w (.slice pt x.types.length ct) x.types) (_ha:0≤x.a) (hi:eP x.a) (hb:0≤x.b) (_hj:eP x.b) (_hF:∀k,F k→k<w.heap.size) (_hT:nb m) (hk:eR x.op=6) (_h1:x.types.length=1):Calls G.P 122 #[.agg cs.toArray,.slice lp locals.length lc,.agg #[Pm .i64 x.op,Pm .i64 x.a,Pm .i64 x.b,Pm .u64 x.n,Pm .i64 x.kind,Pm .i64 x.val,Pm .i64 x.index,Pn pt x.types.length ct,Pn pl x.labels.length cl]] w (fL (⟨[ix x.types 0,ix x.types 0,1],[ix x.types 0]⟩,0) F w):=by
 have:=hl;clear this;have:=hi;clear this;have:=hb;clear this
 have hm0:=hm
 obtain⟨v0,v1,v2,v3,v4,v5,v6,v7,v8,v9,rfl,r0,r1,r2,r3,r4,r5,r6,r7,r8,r9,g0⟩:=hm
 have hof:∀w',Calls G.P 105 #[.int .i64 x.op] w' fun e w2=>e=.returned (.int .i64 6)∧Ext w' w2:=fun w'=>by have:=dq x.op w';rw[show(eH x.op).2.2=6 from hk]at this;exact this
 obtain⟨bt,ot,rfl,-,hc⟩:=ht.at (i:=0) Pi
 have hcell:w.cell? ⟨bt,ot+0,none⟩=some (.int .i64 (ix x.types 0)):=hc 0 Pi
 generalize ix x.types 0=t0 at hcell ⊢
 refine Ms ?_
 repeat'(first|refine ar ?_|(refine NU fun b_=>?_)|refine OB ?_|fail)
 rename_i b5
 refine Mt ?_
 repeat'(first|refine pN ?_|(refine aP.qy 2 rfl (Yl.gn (i:=0) rfl rfl rfl rfl rfl rfl Pi) ?_)|(refine aP.qy 6 rfl (Yl.gn (i:=0) rfl rfl rfl rfl rfl rfl Pi) ?_)|(refine aP.qy 12 rfl (Yl.gn (i:=0) rfl rfl rfl rfl rfl rfl Pi) ?_)|(refine ax.lD ?_;refine ax.he rfl rfl (HE.jG rfl rfl rfl rfl rfl er Pk Pk) (fun _=>bz) (fun _=>aU) ?_;rintro b7 _)|(refine ax.dA 118 ?_;refine ax.he rfl rfl (HE.eU rfl rfl (fun w' hw'=>gq _ _ _ w')) (fun _=>bz) (fun _=>aU) ?_;rintro⟨⟩ _)|(refine ax.dA 155 ?_;refine ax.he rfl rfl (HE.eU rfl rfl (fun w' hw'=>gU _ _ _ _ _ _ w')) (fun _=>bz) (fun _=>aU) ?_;rintro⟨⟩ _)|(refine ax.nj ?_;refine ax.jO rfl (gj.bn _ rfl rfl rfl rfl rfl rfl aH rfl) (fun _=>bz) (fun _=>aU) ?_;rintro⟨⟩ _)|refine aP.nil O9 ?_|refine aP.any O9 ?_|exact aB.fin rfl|refine aB.skip O9 ?_|refine aB.go ?_ ?_)
 all_goals repeat'(first|refine ar ?_|fail)
 all_goals first|omega|exact ah.bB (.inl rfl) rfl rfl rfl rfl rfl aH rfl fun w' hw'=>⟨⟨(_,_),rfl,by first|exact kP _ hw' ak (hD:=fun _ h=>.inr h),by first|exact kP _ hw' ak (hD:=fun _ h=>.inr h)⟩,hw'.at⟩
end
section
open Go.RowKit _root_.Go.Proofs.Tryz
set_option maxHeartbeats 8000000
open Value renaming int→Pm,slice→Pn
set_option maxRecDepth 100000
theorem Ax (F:Nat→Prop) (m:af) (cs:List Value) (locals:List Int) (x:cv) (lp pt pl:Option Addr) (lc ct cl:Nat) (w:World) (hm:au F w cs m) (hl:ai F w (.slice lp locals.length lc) locals) (ht:ai F w (.slice pt x.types.length ct) x.types) (hF:∀k,F k→k<w.heap.size) (hT:nb m) (hp:cW x=true):Calls G.P 122 #[.agg cs.toArray,.slice lp locals.length lc,.agg #[Pm .i64 x.op,Pm .i64 x.a,Pm .i64 x.b,Pm .u64 x.n,Pm .i64 x.kind,Pm .i64 x.val,Pm .i64 x.index,Pn pt x.types.length ct,Pn pl x.labels.length cl]] w (fL (cF m locals x) F w):=by
 obtain⟨hi,hj,ha,hb,h6⟩:=lY hp
 have hr:=zV x.op
 have hkk:eR x.op=0∨eR x.op=1∨eR x.op=2∨eR x.op=3∨eR x.op=4∨eR x.op=5∨eR x.op=6∨eR x.op=7∨eR x.op=8∨eR x.op=9∨eR x.op=10∨eR x.op=11∨eR x.op=12∨eR x.op=13∨eR x.op=14∨eR x.op=15∨eR x.op=16∨eR x.op=17∨eR x.op=18∨eR x.op=19∨eR x.op=20:=by omega
 rcases hkk with hk|hk|hk|hk|hk|hk|hk|hk|hk|hk|hk|hk|hk|hk|hk|hk|hk|hk|hk|hk|hk
 ·rw[show cF m locals x=da x.op from by unfold cF;dsimp only;rw[hk];rfl]
  exact wu F m cs locals x lp pt pl lc ct cl w hm hl ht ha hi hb hj hF hT hk
 ·rw[show cF m locals x=(dF,1)from by unfold cF;dsimp only;rw[hk];rfl]
  exact wv F m cs locals x lp pt pl lc ct cl w hm hl ht ha hi hb hj hF hT hk
 ·rw[show cF m locals x=(dF,1)from by unfold cF;dsimp only;rw[hk];rfl]
  exact wA F m cs locals x lp pt pl lc ct cl w hm hl ht ha hi hb hj hF hT hk
 ·rw[show cF m locals x=(dF,1)from by unfold cF;dsimp only;rw[hk];rfl]
  exact wB F m cs locals x lp pt pl lc ct cl w hm hl ht ha hi hb hj hF hT hk
 ·rw[show cF m locals x=lP m x from by unfold cF;dsimp only;rw[hk];rfl]
  exact wE F m cs locals x lp pt pl lc ct cl w hm hl ht ha hi hb hj hF hT hk
 ·rw[show cF m locals x=bZ m x from by unfold cF;dsimp only;rw[hk];rfl]
  exact wF F m cs locals x lp pt pl lc ct cl w hm hl ht ha hi hb hj hF hT hk
 ·rw[show cF m locals x=(⟨[ix x.types 0,ix x.types 0,1],[ix x.types 0]⟩,0)from by unfold cF;dsimp only;rw[hk];rfl]
  exact wG F m cs locals x lp pt pl lc ct cl w hm hl ht ha hi hb hj hF hT hk (h6 hk)
 ·rw[show cF m locals x=eQ locals x from by unfold cF;dsimp only;rw[hk];rfl]
  exact wH F m cs locals x lp pt pl lc ct cl w hm hl ht ha hi hb hj hF hT hk
 ·rw[show cF m locals x=dt m x from by unfold cF;dsimp only;rw[hk];rfl]
  exact wI F m cs locals x lp pt pl lc ct cl w hm hl ht ha hi hb hj hF hT hk
 ·rw[show cF m locals x=dr m x from by unfold cF;dsimp only;rw[hk];rfl]
  exact wJ F m cs locals x lp pt pl lc ct cl w hm hl ht ha hi hb hj hF hT hk
 ·rw[show cF m locals x=oO m x from by unfold cF oO;dsimp only;rw[hk,if_pos (Ii hk)];cases cJ (bM m) x.a<;>cases cJ (bM m) x.b<;>rfl]
  exact uM F m cs locals x lp pt pl lc ct cl w hm hl ht ha hi hb hj hF hT hk
 ·rw[show cF m locals x=oO m x from by unfold cF oO;dsimp only;rw[hk,if_neg (show¬x.op=64526 from fun h=>by rw[h]at hk;exact absurd hk O9)];cases cJ (dO m) x.a<;>cases cJ (bM m) x.b<;>rfl]
  exact uN F m cs locals x lp pt pl lc ct cl w hm hl ht ha hi hb hj hF hT hk
 ·rw[show cF m locals x=if(cJ (dO m) x.a).isNone then(dF,11)else da x.op from by unfold cF;dsimp only;rw[hk];rfl]
  exact uO F m cs locals x lp pt pl lc ct cl w hm hl ht ha hi hb hj hF hT hk
 ·rw[show cF m locals x=lI m 13 x from by unfold cF;dsimp only;rw[hk];rfl]
  exact uP F m cs locals x lp pt pl lc ct cl w hm hl ht ha hi hb hj hF hT hk
 ·rw[show cF m locals x=lI m 14 x from by unfold cF;dsimp only;rw[hk];rfl]
  exact uQ F m cs locals x lp pt pl lc ct cl w hm hl ht ha hi hb hj hF hT hk
 ·rw[show cF m locals x=lI m 15 x from by unfold cF;dsimp only;rw[hk];rfl]
  exact uR F m cs locals x lp pt pl lc ct cl w hm hl ht ha hi hb hj hF hT hk
 ·rw[show cF m locals x=if(m.bg.length:Int)≤x.a then(dF,11)else da x.op from by unfold cF;dsimp only;rw[hk];rfl]
  exact uS F m cs locals x lp pt pl lc ct cl w hm hl ht ha hi hb hj hF hT hk
 ·rw[show cF m locals x=lI m 17 x from by unfold cF;dsimp only;rw[hk];rfl]
  exact uT F m cs locals x lp pt pl lc ct cl w hm hl ht ha hi hb hj hF hT hk
 ·rw[show cF m locals x=da x.op from by unfold cF;dsimp only;rw[hk];rfl]
  exact uU F m cs locals x lp pt pl lc ct cl w hm hl ht ha hi hb hj hF hT hk
 ·rw[show cF m locals x=da x.op from by unfold cF;dsimp only;rw[hk];rfl]
  exact uV F m cs locals x lp pt pl lc ct cl w hm hl ht ha hi hb hj hF hT hk
 ·rw[show cF m locals x=(⟨[],[x.a]⟩,0)from by unfold cF;dsimp only;rw[hk];rfl]
  exact uW F m cs locals x lp pt pl lc ct cl w hm hl ht ha hi hb hj hF hT hk
theorem At (F:Nat→Prop) (m:af) (cs:List Value) (locals:List Int) (x:cv) (lp pt pl:Option Addr) (lc ct cl:Nat) (w:World) (hm:au F w cs m) (hl:ai F w (.slice lp locals.length lc) locals) (ht:ai F w (.slice pt x.types.length ct) x.types) (hF:∀k,F k→k<w.heap.size) (hT:nb m) (hl2:ai F w (.slice pl x.labels.length cl) x.labels):Calls G.P 76 #[.agg cs.toArray,.slice lp locals.length lc,.agg #[Pm .i64 x.op,Pm .i64 x.a,Pm .i64 x.b,Pm .u64 x.n,Pm .i64 x.kind,Pm .i64 x.val,Pm .i64 x.index,Pn pt x.types.length ct,Pn pl x.labels.length cl]] w (jw (kB m locals x) F w):=by
 have hm0:=hm
 obtain⟨v0,v1,v2,v3,v4,v5,v6,v7,v8,v9,rfl,r0,r1,r2,r3,r4,r5,r6,r7,r8,r9,g0⟩:=hm
 have hpl:∀w',Ext w w'→Calls G.P 64 #[.agg #[Pm .i64 x.op,Pm .i64 x.a,Pm .i64 x.b,Pm .u64 x.n,Pm .i64 x.kind,Pm .i64 x.val,Pm .i64 x.index,Pn pt x.types.length ct,Pn pl x.labels.length cl]] w' fun e w2=>e=.returned (.bool (cW x))∧Ext w' w2:=fun w' hx=>sj F x pt pl ct cl w' (ht.aN hx (fun _ _ _ h=>h)) (hl2.aN hx (fun _ _ _ h=>h))
 unfold kB
 cases hp:cW x with
 |false=>
  rw[hp]at hpl
  rw[if_pos rfl]
  refine ae (l:=[_,_,_]) func76 rfl ntmps76 rfl (Ok.start w) ?_
  repeat'(first|refine ar ?_|(refine aF fun b_=>?_)|(refine bL fun b_=>?_)|(refine ay fun b_=>?_)|refine Ov ?_|fail)
  all_goals exact am
 |true=>
  rw[hp]at hpl
  rw[if_neg Ph]
  have hwa:=fun w' (hx:Ext w w')=>Ax F m _ locals x lp pt pl lc ct cl w' (hm0.aN hx (fun _ _ _ h=>h)) (hl.aN hx (fun _ _ _ h=>h)) (ht.aN hx (fun _ _ _ h=>h)) (fun k hk=>Nat.lt_of_lt_of_le (hF k hk) hx.size) hT hp
  obtain⟨r,hr⟩:∃r,cF m locals x=r:=⟨_,rfl⟩
  obtain⟨f,e0⟩:=r
  rw[hr]at hwa ⊢
  by_cases he:e0=0
  ·subst he
   refine ae (l:=[_,_,_]) func76 rfl ntmps76 rfl (Ok.start w) ?_
   repeat'(first|refine ar ?_|(refine aF fun b_=>?_)|(refine bL fun b_=>?_)|(refine ay fun b_=>?_)|refine Ov ?_|(refine aa.aj (f:=122) ?_;refine aa.he (HE.rg (F:=F) (r:=(f,0)) ak hF rfl rfl (fun w' hw'=>hwa w' hw'.at)) rfl ?_;rintro⟨D_,p_,c_,q_,d_⟩ hD_;dsimp only)|fail)
   all_goals(refine ah.aM (.inl rfl) rfl rfl rfl rfl rfl aH rfl rfl ?_;exact fun w' hw'=>bD.jl (f0:=f) (tf:=fun y:Value×Value=>.tuple #[.agg #[y.1,y.2],.int .i64 0]) ⟨D_,p_,c_,q_,d_⟩ hw' ak ak hD_)
  ·obtain rfl:=AW (show ql m locals x=(f,e0)from by rw[vF];unfold kB;rw[hp,if_neg Ph];exact hr) he
   refine ae (l:=[_,_,_]) func76 rfl ntmps76 rfl (Ok.start w) ?_
   repeat'(first|refine ar ?_|(refine aF fun b_=>?_)|(refine bL fun b_=>?_)|(refine ay fun b_=>?_)|refine Ov ?_|(refine aa.aj (f:=122) ?_;refine aa.he (HE.rg (F:=F) (r:=(dF,e0)) ak hF rfl rfl (fun w' hw'=>hwa w' hw'.at)) rfl ?_;rintro⟨D_,p_,c_,q_,d_⟩ hD_;dsimp only)|fail)
   obtain⟨b8,rfl⟩:∃y:Nat,y=b_:=⟨_,rfl⟩
   refine bh.cI [.aW b8 [.slice p_ dF.params.length c_,.slice q_ dF.results.length d_,.int .i64 e0] 211] [Ext w] bz aU ?_
   repeat'(first|refine pN ?_|(refine ax.nj ?_;refine ax.jO rfl (gj.bn _ rfl rfl rfl rfl rfl rfl aH rfl) (fun _=>bz) (fun _=>aU) ?_;rintro⟨⟩ _)|refine aP.nil O9 ?_|refine aP.any O9 ?_|exact aB.fin rfl|refine aB.skip O9 ?_|refine aB.go ?_ ?_)
   all_goals repeat'(first|refine ar ?_|fail)
   all_goals exact am
end
end Go.Proofs.YtdkcljdfbemnbaaGreatDoor
