/- Layer 23: rule.Apply of unreachable; signatures told by rule.Wants; an operand stack that is polymorphic. -/
import Derived.Test.YtceedealggognaaGreatDoorJNb
namespace Go.Proofs.YtceedealggognaaGreatDoor
open Go.RowKit
set_option maxRecDepth 100000
set_option maxHeartbeats 4000000 in
theorem pE (B:Nat) (F:Nat→Prop) (cp:Nat) (c:dq) (v:fU) (m:ae) (locals:List Int) (sv:Value) (x:bP) (lp pt pl:Option Addr) (lc ct cl:Nat) (w:World) (hw:Ok (aw cp c v) (mj B F m sv locals (.slice lp locals.length lc) x (.slice pt x.types.length ct) (.slice pl x.labels.length cl)) w) (hg:v.Good c) (hwf:c.Wf) (hb:c.broken=0) (hp:db x=true) (hop:x.op=0):Calls G.P 35 #[.pointer (some ⟨cp,0,none⟩),sv,.slice lp locals.length lc,.agg #[Value.int .i64 x.op,Value.int .i64 x.a,Value.int .i64 x.b,Value.int .u64 x.n,Value.int .i64 x.kind,Value.int .i64 x.val,Value.int .i64 x.index,Value.slice pt x.types.length ct,Value.slice pl x.labels.length cl]] w (ar (aw cp c v) cp (fD c,0) w):=by
 refine aj (l:=[_,_,_,_]) Tryz.func35 rfl Tryz.ntmps35 rfl (Ok.bW hw) ?_
 generalize hS:Mb (aw cp c v)=S0
 unfold mj
 obtain⟨sp,tv,pv,bv,rv,fv,D,L⟩:=v
 dsimp only[aw,ay,List.cons_append,List.nil_append]
 have hno:=fun w' M (hw':Ok M _ w')=>jc (B:=B) (F:=F) (m:=m) (locals:=locals) (sv:=sv) (lv:=.slice lp locals.length lc) (x:=x) (pt:=pt) (pl:=pl) (ct:=ct) (cl:=cl) hw'
 rw[hp]at hno
 repeat'(first|refine ax ?_|(refine bz fun b_=>?_)|refine GD ?_|refine Gw ?_|refine Gv ?_|fail)
 refine aa.he (HE.aW (M0:=aw cp c ⟨sp,tv,pv,bv,rv,fv,D,L⟩) cE rfl rfl (fun w' hw'=>lg cp c ⟨sp,tv,pv,bv,rv,fv,D,L⟩ w' (hw'.bV cT (fun p hp=>absurd hp Hc)) hg hb hwf)) rfl ?_
 rintro⟨sp2,tv2,pv2,bv2,rv2,fv2,D2,L2⟩ hg2
 dsimp only[aw,ay,List.cons_append,List.nil_append]at hg2 ⊢
 repeat'(first|refine ax ?_|fail)
 exact ai.aA rfl rfl fun w' hw'=>ar.ok (r:=(fD c,0)) (⟨sp2,tv2,pv2,bv2,rv2,fv2,D2,L2⟩:fU) rfl hg2 hS hw' GP ao
end Go.Proofs.YtceedealggognaaGreatDoor
