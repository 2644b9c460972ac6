/- The reference of layer 23: wants. Printed by gen_wt.py. -/
import Derived.Test.YtgbgnipidakdhaaGreatDoorJWw
namespace Go.Proofs.YtgbgnipidakdhaaGreatDoor
open Go.RowKit
set_option maxRecDepth 100000
set_option maxHeartbeats 8000000 in
theorem uq (F:Nat→Prop) (m:aj) (cs:List Value) (locals:List Int) (x:cJ) (lp pt pl:Option Addr) (lc ct cl:Nat) (w:World) (hm:ay F w cs m) (_hl:af F w (.slice lp locals.length lc) locals) (_ht:af F w (.slice pt x.types.length ct) x.types) (_ha:0≤x.a) (_hi:dV x.a) (_hb:0≤x.b) (_hj:dV x.b) (_hF:∀k,F k→k<w.heap.size) (_hT:kx m) (hk:dZ x.op=1):Calls G.P 41 #[.agg cs.toArray,.slice lp locals.length lc,.agg #[Value.int .i64 x.op,Value.int .i64 x.a,Value.int .i64 x.b,Value.int .u64 x.n,Value.int .i64 x.kind,Value.int .i64 x.val,Value.int .i64 x.index,Value.slice pt x.types.length ct,Value.slice pl x.labels.length cl]] w (fe (dy,1) F w):=by
 have hm0:=hm
 obtain⟨v0,v1,v2,v3,v4,v5,v6,v7,v8,v9,rfl,r0,r1,r2,r3,r4,r5,r6,r7,r8,r9,g0⟩:=hm
 have hof:∀w',Calls G.P 86 #[.int .i64 x.op] w' fun e w2=>e=.returned (.int .i64 1)∧Ext w' w2:=fun w'=>by have:=cW x.op w';rw[show(dU x.op).2.2=1 from hk]at this;exact this
 refine Jy ?_
 repeat'(first|refine ar ?_|(refine KN fun b_=>?_)|refine Lo ?_|refine Lq ?_|fail)
 all_goals exact ii
set_option maxHeartbeats 8000000 in
theorem tt (F:Nat→Prop) (m:aj) (cs:List Value) (locals:List Int) (x:cJ) (lp pt pl:Option Addr) (lc ct cl:Nat) (w:World) (hm:ay F w cs m) (_hl:af F w (.slice lp locals.length lc) locals) (_ht:af F w (.slice pt x.types.length ct) x.types) (_ha:0≤x.a) (_hi:dV x.a) (_hb:0≤x.b) (_hj:dV x.b) (_hF:∀k,F k→k<w.heap.size) (_hT:kx m) (hk:dZ x.op=2):Calls G.P 41 #[.agg cs.toArray,.slice lp locals.length lc,.agg #[Value.int .i64 x.op,Value.int .i64 x.a,Value.int .i64 x.b,Value.int .u64 x.n,Value.int .i64 x.kind,Value.int .i64 x.val,Value.int .i64 x.index,Value.slice pt x.types.length ct,Value.slice pl x.labels.length cl]] w (fe (dy,1) F w):=by
 have hm0:=hm
 obtain⟨v0,v1,v2,v3,v4,v5,v6,v7,v8,v9,rfl,r0,r1,r2,r3,r4,r5,r6,r7,r8,r9,g0⟩:=hm
 have hof:∀w',Calls G.P 86 #[.int .i64 x.op] w' fun e w2=>e=.returned (.int .i64 2)∧Ext w' w2:=fun w'=>by have:=cW x.op w';rw[show(dU x.op).2.2=2 from hk]at this;exact this
 refine Jy ?_
 repeat'(first|refine ar ?_|(refine KN fun b_=>?_)|refine Lo ?_|refine Lq ?_|fail)
 all_goals exact ii
set_option maxHeartbeats 8000000 in
theorem tO (F:Nat→Prop) (m:aj) (cs:List Value) (locals:List Int) (x:cJ) (lp pt pl:Option Addr) (lc ct cl:Nat) (w:World) (hm:ay F w cs m) (_hl:af F w (.slice lp locals.length lc) locals) (_ht:af F w (.slice pt x.types.length ct) x.types) (_ha:0≤x.a) (_hi:dV x.a) (_hb:0≤x.b) (_hj:dV x.b) (_hF:∀k,F k→k<w.heap.size) (_hT:kx m) (hk:dZ x.op=3):Calls G.P 41 #[.agg cs.toArray,.slice lp locals.length lc,.agg #[Value.int .i64 x.op,Value.int .i64 x.a,Value.int .i64 x.b,Value.int .u64 x.n,Value.int .i64 x.kind,Value.int .i64 x.val,Value.int .i64 x.index,Value.slice pt x.types.length ct,Value.slice pl x.labels.length cl]] w (fe (dy,1) F w):=by
 have hm0:=hm
 obtain⟨v0,v1,v2,v3,v4,v5,v6,v7,v8,v9,rfl,r0,r1,r2,r3,r4,r5,r6,r7,r8,r9,g0⟩:=hm
 have hof:∀w',Calls G.P 86 #[.int .i64 x.op] w' fun e w2=>e=.returned (.int .i64 3)∧Ext w' w2:=fun w'=>by have:=cW x.op w';rw[show(dU x.op).2.2=3 from hk]at this;exact this
 refine Jy ?_
 repeat'(first|refine ar ?_|(refine KN fun b_=>?_)|refine Lo ?_|refine Lq ?_|fail)
 all_goals exact ii
set_option maxHeartbeats 8000000 in
theorem tD (F:Nat→Prop) (m:aj) (cs:List Value) (locals:List Int) (x:cJ) (lp pt pl:Option Addr) (lc ct cl:Nat) (w:World) (hm:ay F w cs m) (_hl:af F w (.slice lp locals.length lc) locals) (_ht:af F w (.slice pt x.types.length ct) x.types) (ha:0≤x.a) (hi:dV x.a) (hb:0≤x.b) (hj:dV x.b) (hF:∀k,F k→k<w.heap.size) (_hT:kx m) (hk:dZ x.op=4):Calls G.P 41 #[.agg cs.toArray,.slice lp locals.length lc,.agg #[Value.int .i64 x.op,Value.int .i64 x.a,Value.int .i64 x.b,Value.int .u64 x.n,Value.int .i64 x.kind,Value.int .i64 x.val,Value.int .i64 x.index,Value.slice pt x.types.length ct,Value.slice pl x.labels.length cl]] w (fe (kL m x) F w):=by
 have hm0:=hm
 obtain⟨v0,v1,v2,v3,v4,v5,v6,v7,v8,v9,rfl,r0,r1,r2,r3,r4,r5,r6,r7,r8,r9,g0⟩:=hm
 have hof:∀w',Calls G.P 86 #[.int .i64 x.op] w' fun e w2=>e=.returned (.int .i64 4)∧Ext w' w2:=fun w'=>by have:=cW x.op w';rw[show(dU x.op).2.2=4 from hk]at this;exact this
 refine Jy ?_
 repeat'(first|refine ar ?_|(refine KN fun b_=>?_)|refine Lq ?_|(refine aa.ai (f:=93) ?_;refine aa.he (HE.rg (F:=F) (r:=kL m x) ak hF rfl rfl (fun w' hw'=>yJ F m _ x pt pl ct cl w' (hm0.aO (show Ext w w' from hw'.at) (fun _ _ _ h=>h)) ha hi hb hj (fun k hk=>Nat.lt_of_lt_of_le (hF k hk) (show Ext w w' from hw'.at).size))) rfl ?_;rintro⟨D_,p_,c_,q_,d_⟩ hD_;dsimp only)|fail)
 all_goals first|omega|(refine ah.a6 (.inl rfl) rfl rfl rfl rfl rfl aA rfl ?_;exact fun w' hw'=>bg.iI (f0:=(kL m x).1) (tf:=fun y:Value×Value=>.agg #[y.1,y.2,.int .i64 (kL m x).2]) ⟨D_,p_,c_,q_,d_⟩ hw' ak ak hD_)
set_option maxHeartbeats 8000000 in
theorem tw (F:Nat→Prop) (m:aj) (cs:List Value) (locals:List Int) (x:cJ) (lp pt pl:Option Addr) (lc ct cl:Nat) (w:World) (hm:ay F w cs m) (_hl:af F w (.slice lp locals.length lc) locals) (_ht:af F w (.slice pt x.types.length ct) x.types) (ha:0≤x.a) (hi:dV x.a) (hb:0≤x.b) (hj:dV x.b) (hF:∀k,F k→k<w.heap.size) (hT:kx m) (hk:dZ x.op=5):Calls G.P 41 #[.agg cs.toArray,.slice lp locals.length lc,.agg #[Value.int .i64 x.op,Value.int .i64 x.a,Value.int .i64 x.b,Value.int .u64 x.n,Value.int .i64 x.kind,Value.int .i64 x.val,Value.int .i64 x.index,Value.slice pt x.types.length ct,Value.slice pl x.labels.length cl]] w (fe (bM m x) F w):=by
 have hm0:=hm
 obtain⟨v0,v1,v2,v3,v4,v5,v6,v7,v8,v9,rfl,r0,r1,r2,r3,r4,r5,r6,r7,r8,r9,g0⟩:=hm
 have hof:∀w',Calls G.P 86 #[.int .i64 x.op] w' fun e w2=>e=.returned (.int .i64 5)∧Ext w' w2:=fun w'=>by have:=cW x.op w';rw[show(dU x.op).2.2=5 from hk]at this;exact this
 refine Jy ?_
 repeat'(first|refine ar ?_|(refine KN fun b_=>?_)|refine Lq ?_|(refine aa.ai (f:=94) ?_;refine aa.he (HE.rg (F:=F) (r:=bM m x) ak hF rfl rfl (fun w' hw'=>qV F m _ x pt pl ct cl w' (hm0.aO (show Ext w w' from hw'.at) (fun _ _ _ h=>h)) ha hi hb hj (fun k hk=>Nat.lt_of_lt_of_le (hF k hk) (show Ext w w' from hw'.at).size) hT)) rfl ?_;rintro⟨D_,p_,c_,q_,d_⟩ hD_;dsimp only)|fail)
 all_goals first|omega|(refine ah.a6 (.inl rfl) rfl rfl rfl rfl rfl aA rfl ?_;exact fun w' hw'=>bg.iI (f0:=(bM m x).1) (tf:=fun y:Value×Value=>.agg #[y.1,y.2,.int .i64 (bM m x).2]) ⟨D_,p_,c_,q_,d_⟩ hw' ak ak hD_)
set_option maxHeartbeats 8000000 in
theorem uf (F:Nat→Prop) (m:aj) (cs:List Value) (locals:List Int) (x:cJ) (lp pt pl:Option Addr) (lc ct cl:Nat) (w:World) (hm:ay F w cs m) (_hl:af F w (.slice lp locals.length lc) locals) (ht:af F w (.slice pt x.types.length ct) x.types) (_ha:0≤x.a) (_hi:dV x.a) (_hb:0≤x.b) (_hj:dV x.b) (_hF:∀k,F k→k<w.heap.size) (_hT:kx m) (hk:dZ x.op=6) (h1:x.types.length=1):Calls G.P 41 #[.agg cs.toArray,.slice lp locals.length lc,.agg #[Value.int .i64 x.op,Value.int .i64 x.a,Value.int .i64 x.b,Value.int .u64 x.n,Value.int .i64 x.kind,Value.int .i64 x.val,Value.int .i64 x.index,Value.slice pt x.types.length ct,Value.slice pl x.labels.length cl]] w (fe (⟨[ix x.types 0,ix x.types 0,1],[ix x.types 0]⟩,0) F w):=by
 have hm0:=hm
 obtain⟨v0,v1,v2,v3,v4,v5,v6,v7,v8,v9,rfl,r0,r1,r2,r3,r4,r5,r6,r7,r8,r9,g0⟩:=hm
 have hof:∀w',Calls G.P 86 #[.int .i64 x.op] w' fun e w2=>e=.returned (.int .i64 6)∧Ext w' w2:=fun w'=>by have:=cW x.op w';rw[show(dU x.op).2.2=6 from hk]at this;exact this
 obtain⟨bt,ot,rfl,-,hc⟩:=ht.at (i:=0) Mj
 have hcell:w.cell? ⟨bt,ot+0,none⟩=some (.int .i64 (ix x.types 0)):=hc 0 Mj
 generalize ix x.types 0=t0 at hcell ⊢
 refine Jy ?_
 repeat'(first|refine ar ?_|(refine KN fun b_=>?_)|refine Lq ?_|fail)
 rename_i b5
 refine Kl ?_
 repeat'(first|refine og ?_|(refine aP.qy 2 rfl (Yl.gh (i:=0) rfl rfl rfl rfl rfl rfl Mj) ?_)|(refine aP.qy 6 rfl (Yl.gh (i:=0) rfl rfl rfl rfl rfl rfl Mj) ?_)|(refine aP.qy 12 rfl (Yl.gh (i:=0) rfl rfl rfl rfl rfl rfl Mj) ?_)|(refine av.kZ ?_;refine av.he rfl rfl (HE.jJ rfl rfl rfl rfl rfl eT Ml Ml) (fun _=>bc) (fun _=>aV) ?_;rintro b7 _)|(refine av.ep 96 ?_;refine av.he rfl rfl (HE.dX rfl rfl (fun w' hw'=>fJ _ _ _ w')) (fun _=>bc) (fun _=>aV) ?_;rintro⟨⟩ _)|(refine av.ep 95 ?_;refine av.he rfl rfl (HE.dX rfl rfl (fun w' hw'=>gk _ _ _ _ _ _ w')) (fun _=>bc) (fun _=>aV) ?_;rintro⟨⟩ _)|(refine av.nw ?_;refine av.jf rfl (fQ.bn _ rfl rfl rfl rfl rfl rfl aA rfl) (fun _=>bc) (fun _=>aV) ?_;rintro⟨⟩ _)|refine aP.nil LX ?_|refine aP.any LX ?_|exact aN.fin rfl|refine aN.skip LX ?_|refine aN.go ?_ ?_)
 all_goals repeat'(first|refine ar ?_|fail)
 all_goals first|omega|exact ah.a6 (.inl rfl) rfl rfl rfl rfl rfl aA rfl fun w' hw'=>⟨⟨(_,_),rfl,by first|exact lg _ hw' ak (hD:=fun _ h=>.inr h),by first|exact lg _ hw' ak (hD:=fun _ h=>.inr h)⟩,hw'.at⟩
end Go.Proofs.YtgbgnipidakdhaaGreatDoor
