/- The reference of layer 23: wants. Printed by gen_wt.py. -/
import Derived.Test.YtdkcljdfbemnbaaGreatDoorJWu
import Derived.Test.YtdkcljdfbemnbaaGreatDoorJGd
namespace Go.Proofs.YtdkcljdfbemnbaaGreatDoor
open Go.RowKit _root_.Go.Proofs.Tryz
set_option maxHeartbeats 8000000
open Value renaming int→Pf,slice→Pg
set_option maxRecDepth 100000
variable (F:Nat→Prop) (m:af) (cs:List Value) (locals:List Int) (x:cv) (lp pt pl:Option Addr)
theorem wA (lc ct cl:Nat) (w:World) (hm:av F w cs m) (hl:ai F w (.slice lp locals.length lc) locals) (_ht:ai F w (.slice pt x.types.length ct) x.types) (ha:0≤x.a) (_hi:eO x.a) (_hb:0≤x.b) (_hj:eO x.b) (_hF:∀k,F k→k<w.heap.size) (_hT:m7 m) (hk:eQ x.op=7):Calls G.P 122 #[.agg cs.toArray,.slice lp locals.length lc,.agg #[Pf .i64 x.op,Pf .i64 x.a,Pf .i64 x.b,Pf .u64 x.n,Pf .i64 x.kind,Pf .i64 x.val,Pf .i64 x.index,Pg pt x.types.length ct,Pg pl x.labels.length cl]] w (fK (eP locals x) F w):=by
 have hm0:=hm
 obtain⟨v0,v1,v2,v3,v4,v5,v6,v7,v8,v9,rfl,r0,r1,r2,r3,r4,r5,r6,r7,r8,r9,g0⟩:=hm
 have hof:∀w',Calls G.P 105 #[.int .i64 x.op] w' fun e w2=>e=.returned (.int .i64 7)∧Ext w' w2:=fun w'=>by have:=dq x.op w';rw[show(eE x.op).2.2=7 from hk]at this;exact this
 refine Ma ?_
 repeat'(first|refine ar ?_|(refine NO fun b_=>?_)|refine Ov ?_|(refine aa.aj (f:=156) ?_;refine aa.he (HE.rg (F:=fun _=>False) (r:=eP locals x) ak (fun _ h=>h.elim) rfl rfl (fun w' hw'=>Aq F locals x lp pt pl lc ct cl w' (hl.aP (show Ext w w' from hw'.at) (fun _ _ _ h=>h)) ha)) rfl ?_;rintro⟨D_,p_,c_,q_,d_⟩ hD_;dsimp only)|fail)
 all_goals first|omega|(refine ah.bB (.inl rfl) rfl rfl rfl rfl rfl aH rfl ?_;exact fun w' hw'=>bD.jm (f0:=(eP locals x).1) (tf:=fun y:Value×Value=>.agg #[y.1,y.2,.int .i64 (eP locals x).2]) ⟨D_,p_,c_,q_,d_⟩ hw' ak ak (fun k h=>.inr ((hD_ k h).resolve_left id)))
theorem wB (lc ct cl:Nat) (w:World) (hm:av F w cs m) (_hl:ai F w (.slice lp locals.length lc) locals) (_ht:ai F w (.slice pt x.types.length ct) x.types) (ha:0≤x.a) (hi:eO x.a) (hb:0≤x.b) (hj:eO x.b) (_hF:∀k,F k→k<w.heap.size) (_hT:m7 m) (hk:eQ x.op=8):Calls G.P 122 #[.agg cs.toArray,.slice lp locals.length lc,.agg #[Pf .i64 x.op,Pf .i64 x.a,Pf .i64 x.b,Pf .u64 x.n,Pf .i64 x.kind,Pf .i64 x.val,Pf .i64 x.index,Pg pt x.types.length ct,Pg pl x.labels.length cl]] w (fK (dt m x) F w):=by
 have hm0:=hm
 obtain⟨v0,v1,v2,v3,v4,v5,v6,v7,v8,v9,rfl,r0,r1,r2,r3,r4,r5,r6,r7,r8,r9,g0⟩:=hm
 have hof:∀w',Calls G.P 105 #[.int .i64 x.op] w' fun e w2=>e=.returned (.int .i64 8)∧Ext w' w2:=fun w'=>by have:=dq x.op w';rw[show(eE x.op).2.2=8 from hk]at this;exact this
 refine Ma ?_
 repeat'(first|refine ar ?_|(refine NO fun b_=>?_)|refine Ov ?_|(refine aa.aj (f:=157) ?_;refine aa.he (HE.rg (F:=fun _=>False) (r:=dt m x) ak (fun _ h=>h.elim) rfl rfl (fun w' hw'=>yF F m _ x pt pl ct cl w' (hm0.aP (show Ext w w' from hw'.at) (fun _ _ _ h=>h)) ha hi hb hj)) rfl ?_;rintro⟨D_,p_,c_,q_,d_⟩ hD_;dsimp only)|fail)
 all_goals first|omega|(refine ah.bB (.inl rfl) rfl rfl rfl rfl rfl aH rfl ?_;exact fun w' hw'=>bD.jm (f0:=(dt m x).1) (tf:=fun y:Value×Value=>.agg #[y.1,y.2,.int .i64 (dt m x).2]) ⟨D_,p_,c_,q_,d_⟩ hw' ak ak (fun k h=>.inr ((hD_ k h).resolve_left id)))
theorem wE (lc ct cl:Nat) (w:World) (hm:av F w cs m) (_hl:ai F w (.slice lp locals.length lc) locals) (_ht:ai F w (.slice pt x.types.length ct) x.types) (ha:0≤x.a) (hi:eO x.a) (hb:0≤x.b) (hj:eO x.b) (_hF:∀k,F k→k<w.heap.size) (_hT:m7 m) (hk:eQ x.op=9):Calls G.P 122 #[.agg cs.toArray,.slice lp locals.length lc,.agg #[Pf .i64 x.op,Pf .i64 x.a,Pf .i64 x.b,Pf .u64 x.n,Pf .i64 x.kind,Pf .i64 x.val,Pf .i64 x.index,Pg pt x.types.length ct,Pg pl x.labels.length cl]] w (fK (dr m x) F w):=by
 have hm0:=hm
 obtain⟨v0,v1,v2,v3,v4,v5,v6,v7,v8,v9,rfl,r0,r1,r2,r3,r4,r5,r6,r7,r8,r9,g0⟩:=hm
 have hof:∀w',Calls G.P 105 #[.int .i64 x.op] w' fun e w2=>e=.returned (.int .i64 9)∧Ext w' w2:=fun w'=>by have:=dq x.op w';rw[show(eE x.op).2.2=9 from hk]at this;exact this
 refine Ma ?_
 repeat'(first|refine ar ?_|(refine NO fun b_=>?_)|refine Ov ?_|(refine aa.aj (f:=158) ?_;refine aa.he (HE.rg (F:=fun _=>False) (r:=dr m x) ak (fun _ h=>h.elim) rfl rfl (fun w' hw'=>As F m _ x pt pl ct cl w' (hm0.aP (show Ext w w' from hw'.at) (fun _ _ _ h=>h)) ha hi hb hj)) rfl ?_;rintro⟨D_,p_,c_,q_,d_⟩ hD_;dsimp only)|fail)
 all_goals first|omega|(refine ah.bB (.inl rfl) rfl rfl rfl rfl rfl aH rfl ?_;exact fun w' hw'=>bD.jm (f0:=(dr m x).1) (tf:=fun y:Value×Value=>.agg #[y.1,y.2,.int .i64 (dr m x).2]) ⟨D_,p_,c_,q_,d_⟩ hw' ak ak (fun k h=>.inr ((hD_ k h).resolve_left id)))
theorem uH (lc ct cl:Nat) (w:World) (hm:av F w cs m) (_hl:ai F w (.slice lp locals.length lc) locals) (_ht:ai F w (.slice pt x.types.length ct) x.types) (ha:0≤x.a) (hi:eO x.a) (hb:0≤x.b) (hj:eO x.b) (_hF:∀k,F k→k<w.heap.size) (_hT:m7 m) (hk:eQ x.op=10):Calls G.P 122 #[.agg cs.toArray,.slice lp locals.length lc,.agg #[Pf .i64 x.op,Pf .i64 x.a,Pf .i64 x.b,Pf .u64 x.n,Pf .i64 x.kind,Pf .i64 x.val,Pf .i64 x.index,Pg pt x.types.length ct,Pg pl x.labels.length cl]] w (fK (oF m x) F w):=by
 have hm0:=hm
 obtain⟨v0,v1,v2,v3,v4,v5,v6,v7,v8,v9,rfl,r0,r1,r2,r3,r4,r5,r6,r7,r8,r9,g0⟩:=hm
 have hof:∀w',Calls G.P 105 #[.int .i64 x.op] w' fun e w2=>e=.returned (.int .i64 10)∧Ext w' w2:=fun w'=>by have:=dq x.op w';rw[show(eE x.op).2.2=10 from hk]at this;exact this
 refine Ma ?_
 repeat'(first|refine ar ?_|(refine NO fun b_=>?_)|refine Ov ?_|(refine aa.aj (f:=159) ?_;refine aa.he (HE.rg (F:=fun _=>False) (r:=oF m x) ak (fun _ h=>h.elim) rfl rfl (fun w' hw'=>xC F m _ x pt pl ct cl w' (hm0.aP (show Ext w w' from hw'.at) (fun _ _ _ h=>h)) ha hi hb hj)) rfl ?_;rintro⟨D_,p_,c_,q_,d_⟩ hD_;dsimp only)|fail)
 all_goals exact am
theorem uI (lc ct cl:Nat) (w:World) (hm:av F w cs m) (_hl:ai F w (.slice lp locals.length lc) locals) (_ht:ai F w (.slice pt x.types.length ct) x.types) (ha:0≤x.a) (hi:eO x.a) (hb:0≤x.b) (hj:eO x.b) (_hF:∀k,F k→k<w.heap.size) (_hT:m7 m) (hk:eQ x.op=11):Calls G.P 122 #[.agg cs.toArray,.slice lp locals.length lc,.agg #[Pf .i64 x.op,Pf .i64 x.a,Pf .i64 x.b,Pf .u64 x.n,Pf .i64 x.kind,Pf .i64 x.val,Pf .i64 x.index,Pg pt x.types.length ct,Pg pl x.labels.length cl]] w (fK (oF m x) F w):=by
 have hm0:=hm
 obtain⟨v0,v1,v2,v3,v4,v5,v6,v7,v8,v9,rfl,r0,r1,r2,r3,r4,r5,r6,r7,r8,r9,g0⟩:=hm
 have hof:∀w',Calls G.P 105 #[.int .i64 x.op] w' fun e w2=>e=.returned (.int .i64 11)∧Ext w' w2:=fun w'=>by have:=dq x.op w';rw[show(eE x.op).2.2=11 from hk]at this;exact this
 refine Ma ?_
 repeat'(first|refine ar ?_|(refine NO fun b_=>?_)|refine Ov ?_|(refine aa.aj (f:=159) ?_;refine aa.he (HE.rg (F:=fun _=>False) (r:=oF m x) ak (fun _ h=>h.elim) rfl rfl (fun w' hw'=>xC F m _ x pt pl ct cl w' (hm0.aP (show Ext w w' from hw'.at) (fun _ _ _ h=>h)) ha hi hb hj)) rfl ?_;rintro⟨D_,p_,c_,q_,d_⟩ hD_;dsimp only)|fail)
 all_goals exact am
theorem uJ (lc ct cl:Nat) (w:World) (hm:av F w cs m) (_hl:ai F w (.slice lp locals.length lc) locals) (_ht:ai F w (.slice pt x.types.length ct) x.types) (_ha:0≤x.a) (_hi:eO x.a) (_hb:0≤x.b) (_hj:eO x.b) (_hF:∀k,F k→k<w.heap.size) (_hT:m7 m) (hk:eQ x.op=12):Calls G.P 122 #[.agg cs.toArray,.slice lp locals.length lc,.agg #[Pf .i64 x.op,Pf .i64 x.a,Pf .i64 x.b,Pf .u64 x.n,Pf .i64 x.kind,Pf .i64 x.val,Pf .i64 x.index,Pg pt x.types.length ct,Pg pl x.labels.length cl]] w (fK (if(cJ (dN m) x.a).isNone then(dF,11)else da x.op) F w):=by
 have hm0:=hm
 obtain⟨v0,v1,v2,v3,v4,v5,v6,v7,v8,v9,rfl,r0,r1,r2,r3,r4,r5,r6,r7,r8,r9,g0⟩:=hm
 have hof:∀w',Calls G.P 105 #[.int .i64 x.op] w' fun e w2=>e=.returned (.int .i64 12)∧Ext w' w2:=fun w'=>by have:=dq x.op w';rw[show(eE x.op).2.2=12 from hk]at this;exact this
 obtain⟨e0,jQ⟩:∃e,(cJ (dN m) x.a).getD 0=e:=⟨_,rfl⟩
 cases hs:(cJ (dN m) x.a).isSome with
 |false=>
  rw[if_pos (by cases hz:cJ (dN m) x.a<;>simp_all)]
  refine Ma ?_
  repeat'(first|refine ar ?_|(refine NO fun b_=>?_)|refine Ot ?_|refine Ov ?_|(refine aa.aj (f:=160) ?_;refine aa.au (v:=.tuple #[.int .i64 e0,.bool false]) rfl rfl rfl (fun w' hw'=>by have:=pW F m x.a _ w' (hm0.aP (show Ext w w' from hw'.at) (fun _ _ _ h=>h));rw[jQ,hs]at this;exact this) ?_)|fail)
  all_goals exact ap
 |true=>
  rw[if_neg (by cases hz:cJ (dN m) x.a<;>simp_all)]
  refine Ma ?_
  repeat'(first|refine ar ?_|(refine NO fun b_=>?_)|refine Ot ?_|refine Ov ?_|(refine aa.aj (f:=160) ?_;refine aa.au (v:=.tuple #[.int .i64 e0,.bool true]) rfl rfl rfl (fun w' hw'=>by have:=pW F m x.a _ w' (hm0.aP (show Ext w w' from hw'.at) (fun _ _ _ h=>h));rw[jQ,hs]at this;exact this) ?_)|(refine aa.aj (f:=163) ?_;refine aa.he (HE.rg (F:=fun _=>False) (r:=da x.op) ak (fun _ h=>h.elim) rfl rfl (fun w' hw'=>dK x.op w')) rfl ?_;rintro⟨D_,p_,c_,q_,d_⟩ hD_;dsimp only)|fail)
  all_goals exact bi
open Go.ChangeShapes Go.WideShapes Go.ChangeAt Go.RowKit
theorem vH:(Rows.bodyChecksUptoRow.inPlace==Tryz.pinned.checked.prog.inPlace 3)=true:=by kernel_rfl
theorem vI:(Rows.bodyChecksUptoRow.unfollowed==Tryz.pinned.checked.prog.unfollowed 3)=true:=by kernel_rfl
theorem vJ:(Rows.bodyChecksUptoRow.recurses==Tryz.pinned.checked.prog.recurses 3)=true:=by kernel_rfl
theorem vK:(Rows.bodyChecksUptoRow.named==Tryz.pinned.checked.prog.varsNamed 3)=true:=by kernel_rfl
theorem qv:joinedFacts Tryz.pinned.checked.prog 3 f3 (Rows.OpenSpec.upto Rows.bodyChecksSpec).bare Rows.bodyChecksUptoRow=true:=by
 unfold joinedFacts
 rw[vH,vI,vJ,vK]
 kernel_rfl
theorem sy:(f3).isInstance Tryz.pinned.checked.prog Rows.bodyChecksUptoRow.origin Rows.bodyChecksUptoRow.targs:=of_decide_eq_true O5
theorem sA:(f3).isWrapper Tryz.pinned.checked.prog Rows.bodyChecksUptoRow.wrapper Rows.bodyChecksUptoRow.mainSum:=by
 unfold Func.isWrapper;first|(rw[if_pos O3];kernel_rfl)|(rw[if_neg O3];exact⟨rfl,rfl⟩)
theorem rj (f:FuncId) (fn:Func) (hf:Tryz.pinned.checked.prog.funcNamed "millwright/millwrightlaw24.BodyChecks" =some f) (hfn:Tryz.pinned.checked.prog.funcs[f]?=some fn):
  false=Tryz.pinned.checked.prog.looks []∧∀(j:Nat) t,fn.params[j]?=some t→Tryz.pinned.checked.prog.wantsStandIn t=false:=by
 obtain rfl:f=3:=Option.some.inj ((show prog.funcNamed "millwright/millwrightlaw24.BodyChecks" =some 3 by kernel_rfl).symm.trans hf) |>.symm
 obtain rfl:fn=f3:=(Option.some.inj (func3.symm.trans hfn)).symm
 refine⟨by kernel_rfl,fun j t ht=>?_⟩
 rw[params3]at ht
 rcases(show t=33∨t=3 by simpa using Array.mem_of_getElem? ht)with rfl|rfl
 ·exact(show prog.wantsStandIn 33=false by kernel_rfl)
 ·exact(show prog.wantsStandIn 3=false by kernel_rfl)
end Go.Proofs.YtdkcljdfbemnbaaGreatDoor
