/- Rules for functions that give a signature: where its two rows lie, written out. -/
import Derived.Test.YtceedealggognaaGreatDoorJGc
import Derived.Test.YtceedealggognaaGreatDoorJGh
import Derived.Test.YtceedealggognaaGreatDoorJRt
import Derived.Test.YtceedealggognaaGreatDoorJP1
namespace Go.Proofs.YtceedealggognaaGreatDoor
open Go.RowKit
set_option maxRecDepth 100000
theorem eO.shape {f:aC} {D:Nat→Prop} {w:World} {u0 u1:Value} (h:eO f D w (u0,u1)):(∃p c,u0=.slice p f.params.length c)∧∃p c,u1=.slice p f.results.length c:=by
 obtain⟨p,c,e,_⟩:=h.1.slice
 obtain⟨p2,c2,e2,_⟩:=h.2.slice
 exact⟨⟨p,c,e⟩,⟨p2,c2,e2⟩⟩
structure yw where
 D:Nat→Prop
 p:Option Addr
 c:Nat
 q:Option Addr
 d:Nat
def tt (f:aC) (x:yw):World→Prop:=fun w=>eO f x.D w (.slice x.p f.params.length x.c,.slice x.q f.results.length x.d)
section
variable {n:Nat} {E:Env} {M M':List aU} {R R':List (World→Prop)} {w:World}
theorem HE.zJ {f0:aC} {tf:Value→Value→Value} {F:Nat→Prop} {w0:World} {f:Nat} {args:List Operand} {tys:Array TypeId} {vs:List Value} (hR:Ext w0∈R) (hF:∀k,F k→k<w0.heap.size) (hf:G.fb[f]?=some true) (ha:ji E args=some vs)
  (hc:∀w,Ok M R w→Calls G.P f vs.toArray w (eU (eO f0) (fun y:Value×Value=>tf y.1 y.2) F w)):
  HE n (.call ⟨.value (.func f),args.toArray,tys⟩) E M R (fun x:yw=>∀k,x.D k→F k∨w0.heap.size≤k) (fun x=>tf (.slice x.p f0.params.length x.c) (.slice x.q f0.results.length x.d)) (fun _=>M) (fun x=>tt f0 x::R):=
 ⟨fun w hw=>(bC.call hf ha (hc w hw) (fun e w' h=>by obtain⟨⟨x,e1,_⟩,_⟩:=h;exact⟨_,e1⟩)).mono fun v w' ⟨⟨⟨x1,x2⟩,e1,hv⟩,hx⟩=>by
  cases e1
  obtain⟨⟨p,c,rfl⟩,⟨q,d,rfl⟩⟩:=hv.shape
  refine⟨⟨fun k=>F k∨w.heap.size≤k,p,c,q,d⟩,?_,rfl,(hw.ext hx).add fun w2 h2=>eO.fr f0 hv h2 fun k hk1 hk hm=>?_⟩
  ·rintro k (h|h)
   ·exact .inl h
   ·exact .inr (Nat.le_trans (show Ext w0 w from hw.get hR).size h)
  ·rcases hk with hk|hk
   ·exact hw.origin (S:=fun _=>False) hR k hm (hF k hk)
   ·obtain⟨q,hq,hk'⟩:=hm
    have:=(hw.m q hq).2 k hk';omega⟩
theorem eU.mZ {f0:aC} {tf:Value×Value→Value} {F:Nat→Prop} {w0 w':World} (x:yw) (h:Ok M R w') (hr:tt f0 x∈R) (hR:Ext w0∈R) (hD:∀k,x.D k→F k∨w0.heap.size≤k):eU (eO f0) tf F w0 (.returned (tf (.slice x.p f0.params.length x.c,.slice x.q f0.results.length x.d))) w':=
 ⟨⟨_,rfl,eO.mono (D:=x.D) (h.get hr) hD⟩,h.get hR⟩
theorem eU.CW {tf:Value×Value→Value} {F:Nat→Prop} {w0 w':World} (h:Ok M R w') (hR:Ext w0∈R):eU (eO gw) tf F w0 (.returned (tf (.slice none 0 0,.slice none 0 0))) w':=⟨⟨_,rfl,eO.nil _ _⟩,h.get hR⟩
theorem AA {B:Nat} {f:aC} {x:Value×Value} {w:World} (h1:w.ownsRow B kI 1 x.1 f.params.length (f.params.map (Value.int .i64))) (h2:w.ownsRow B kI 1 x.2 f.results.length (f.results.map (Value.int .i64))) (l1:f.params.length≤17592186044416) (l2:f.results.length≤17592186044416):eO f (fun k=>B≤k) w x:=⟨jt h1 l1,jt h2 l2⟩
end
def kh (r:Option aC) (F:Nat→Prop) (w:World):Ending→World→Prop:=eU (eO (r.getD gw)) (fun x:Value×Value=>.tuple #[.agg #[x.1,x.2],.bool r.isSome]) F w
section
variable {n:Nat} {E:Env} {M:List aU} {R:List (World→Prop)} {w0:World} {f:Nat} {args:List Operand} {tys:Array TypeId} {vs:List Value} {F:Nat→Prop}
theorem HE.CY {r:Option aC} (hR:Ext w0∈R) (hF:∀k,F k→k<w0.heap.size) (hf:G.fb[f]?=some true) (ha:ji E args=some vs) (hc:∀w,Ok M R w→Calls G.P f vs.toArray w (kh r F w)):
  HE n (.call ⟨.value (.func f),args.toArray,tys⟩) E M R (fun x:yw=>∀k,x.D k→F k∨w0.heap.size≤k) (fun x=>.tuple #[.agg #[.slice x.p (r.getD gw).params.length x.c,.slice x.q (r.getD gw).results.length x.d],.bool r.isSome]) (fun _=>M) (fun x=>tt (r.getD gw) x::R):=
 HE.zJ (tf:=fun u v=>.tuple #[.agg #[u,v],.bool r.isSome]) hR hF hf ha hc
theorem HE.lB {r:Option aC} (hR:Ext w0∈R) (hf:G.fb[f]?=some true) (ha:ji E args=some vs) (hc:∀w,Ok M R w→Calls G.P f vs.toArray w (kh r (fun _=>False) w)):
  HE n (.call ⟨.value (.func f),args.toArray,tys⟩) E M R (fun x:yw=>∀k,x.D k→False∨w0.heap.size≤k) (fun x=>.tuple #[.agg #[.slice x.p (r.getD gw).params.length x.c,.slice x.q (r.getD gw).results.length x.d],.bool r.isSome]) (fun _=>M) (fun x=>tt (r.getD gw) x::R):=HE.CY hR (fun _ h=>h.elim) hf ha hc
theorem HE.DN {r:aC×Int} (hR:Ext w0∈R) (hF:∀k,F k→k<w0.heap.size) (hf:G.fb[f]?=some true) (ha:ji E args=some vs) (hc:∀w,Ok M R w→Calls G.P f vs.toArray w (fU r F w)):
  HE n (.call ⟨.value (.func f),args.toArray,tys⟩) E M R (fun x:yw=>∀k,x.D k→F k∨w0.heap.size≤k) (fun x=>.tuple #[.agg #[.slice x.p r.1.params.length x.c,.slice x.q r.1.results.length x.d],.int .i64 r.2]) (fun _=>M) (fun x=>tt r.1 x::R):=
 HE.zJ (tf:=fun u v=>.tuple #[.agg #[u,v],.int .i64 r.2]) hR hF hf ha hc
theorem HE.yh {r:aC×Int} (hR:Ext w0∈R) (hf:G.fb[f]?=some true) (ha:ji E args=some vs) (hc:∀w,Ok M R w→Calls G.P f vs.toArray w (fU r (fun _=>False) w)):
  HE n (.call ⟨.value (.func f),args.toArray,tys⟩) E M R (fun x:yw=>∀k,x.D k→False∨w0.heap.size≤k) (fun x=>.tuple #[.agg #[.slice x.p r.1.params.length x.c,.slice x.q r.1.results.length x.d],.int .i64 r.2]) (fun _=>M) (fun x=>tt r.1 x::R):=HE.DN hR (fun _ h=>h.elim) hf ha hc
end
theorem gg (B0:Nat) (m:ae) (v:Value) (i:Int) (w:World) (h:aV B0 m w v):Calls G.P 46 #[v,.int .i64 i] w (kh (eE m.types i) (fun _=>False) w):=by
 have hl:((eE m.types i).getD gw).params.length≤17592186044416∧((eE m.types i).getD gw).results.length≤17592186044416:=by
  obtain⟨bS,sp,im,dm,vs,tc,ig,dg,rfl,-,h⟩:=h
  obtain⟨p,c,e,hh⟩:=zN (i:=i) (gD h.ts) h.ty
  rcases hh with⟨-,hat⟩|⟨j,b,o,x0,x1,y0,y1,rfl,hj,rfl,hat,-,-,q0,q1⟩
  ·rw[hat];exact⟨by show 0≤_;omega,by show 0≤_;omega⟩
  ·rw[hat]
   obtain⟨_,_,_,h0⟩:=q0.slice
   obtain⟨_,_,_,h1⟩:=q1.slice
   exact⟨h0,h1⟩
 refine(m5 B0 w.heap.size m v i w h (Nat.le_refl _)).mono fun e w' ⟨x,e1,_,hok,hch,_⟩=>?_
 subst e1
 have hx:Ext w w':=hch.mono (fun k _ hk=>by obtain⟨q,hq,-⟩:=hk;simp at hq)
 refine⟨⟨x,rfl,eO.mono (AA ?_ ?_ hl.1 hl.2) fun k hk=>.inr hk⟩,hx⟩
 ·exact(hok.m (.own w.heap.size kI 1 x.1 _ _) (by simp[yx])).1
 ·exact(hok.m (.own w.heap.size kI 1 x.2 _ _) (by simp[yx])).1
theorem jQ (B0:Nat) (m:ae) (v:Value) (i:Int) (w:World) (h:aV B0 m w v):Calls G.P 138 #[v,.int .i64 i] w (kh (jJ m i) (fun _=>False) w):=by
 have h0:=h
 obtain⟨bS,sp,im,dm,vs,tc,ig,dg,rfl,-,h⟩:=h
 have hb:=gD h.fs
 have c2:w.cell? ⟨sp,1,none⟩=some vs.fv:=h.x.cell rfl
 have et:(pK m).funcs=jc m:=by rw[lC]
 rw[et]at hb
 cases hat:eE (jc m) i with
 |none=>
  rw[show jJ m i=none from by unfold jJ;rw[hat];rfl]
  refine aj (l:=[_,_]) Tryz.func138 rfl Tryz.ntmps138 rfl (Ok.start w) ?_
  repeat'(first|refine ay ?_|(refine Fa fun b_=>?_)|refine Fh ?_|(refine aa.ak (f:=170) ?_;refine aa.az (v:=.tuple #[.int .i64 0,.bool false]) rfl rfl rfl (fun w' hw'=>by have:=xp _ _ i w' (hb.ext hw'.at);rw[hat]at this;exact this) ?_)|fail)
  all_goals exact ai.bh (.inl rfl) rfl rfl rfl rfl rfl bM rfl rfl fun w' hw'=>eU.CW (tf:=fun x:Value×Value=>.tuple #[.agg #[x.1,x.2],.bool false]) hw' ao
 |some t=>
  rw[show jJ m i=eE m.types t from by unfold jJ;rw[hat];rfl]
  refine aj (l:=[_,_]) Tryz.func138 rfl Tryz.ntmps138 rfl (Ok.start w) ?_
  repeat'(first|refine ay ?_|(refine Fa fun b_=>?_)|refine Fh ?_|(refine aa.ak (f:=170) ?_;refine aa.az (v:=.tuple #[.int .i64 t,.bool true]) rfl rfl rfl (fun w' hw'=>by have:=xp _ _ i w' (hb.ext hw'.at);rw[hat]at this;exact this) ?_)|(refine aa.ak (f:=46) ?_;refine aa.he (HE.lB ao rfl rfl (fun w' hw'=>gg B0 m _ t w' (h0.aB (show Ext w w' from hw'.at) (fun _ _ h=>h)))) rfl ?_;rintro⟨D_,p_,c_,q_,d_⟩ hD_;dsimp only)|fail)
  all_goals exact ai.bh (.inl rfl) rfl rfl rfl rfl rfl bM rfl rfl fun w' hw'=>eU.mZ (tf:=fun x:Value×Value=>.tuple #[.agg #[x.1,x.2],.bool (eE m.types t).isSome]) ⟨D_,p_,c_,q_,d_⟩ hw' ao ao hD_
def dy (m:ae) (k v i:Int):Option aC:=if k=0 then some gw else if k=1 then(if kg v=true then some ⟨[],[v]⟩else none)else if k=2 then eE m.types i else none
theorem yd {g g':Prop} (h:g') (hw:dP g'→g:=by(intro hk_;(first|refine Fs ?_|(refine aa.an ?_;refine aa.yg F0 (Yl.lz Tryz.underlying80 rfl rfl) rfl ?_));exact hk_.out)):g:=hw ⟨h⟩
set_option maxHeartbeats 4000000 in
theorem kx (B0:Nat) (m:ae) (v:Value) (k t i:Int) (w:World) (h:aV B0 m w v):Calls G.P 52 #[v,.agg #[.int .i64 k,.int .i64 t,.int .i64 i]] w (kh (dy m k t i) (fun _=>False) w):=by
 have h0:=h
 obtain⟨bS,sp,im,dm,vs,tc,ig,dg,rfl,-,h⟩:=h
 have c0:w.cell? ⟨bS,0,none⟩=some (.pointer (some ⟨sp,0,none⟩)):=h.s.cell rfl
 by_cases k0:k=0
 ·subst k0
  rw[show dy m 0 t i=some gw from rfl]
  refine Eq ?_
  repeat'(first|refine ay ?_|(refine E9 fun b_=>?_)|(refine fP fun b_ _=>?_)|refine yd ?_|fail)
  all_goals exact f8
 ·by_cases k1:k=1
  ·subst k1
   cases hv:kg t with
   |true=>
    rw[show dy m 1 t i=some ⟨[],[t]⟩from by unfold dy;rw[if_neg FY,if_pos rfl,if_pos hv]]
    refine Eq ?_
    repeat'(first|refine ay ?_|(refine E9 fun b_=>?_)|(refine fP fun b_ _=>?_)|refine yd ?_|(refine aa.ak (f:=84) ?_;refine aa.az (v:=.bool true) rfl rfl rfl (fun w' hw'=>by have:=qv t w';rw[hv]at this;exact this) ?_)|fail)
    all_goals exact f8
   |false=>
    rw[show dy m 1 t i=none from by unfold dy;rw[if_neg FY,if_pos rfl,if_neg (by rw[hv];decide)]]
    refine Eq ?_
    repeat'(first|refine ay ?_|(refine E9 fun b_=>?_)|(refine fP fun b_ _=>?_)|refine yd ?_|(refine aa.ak (f:=84) ?_;refine aa.az (v:=.bool false) rfl rfl rfl (fun w' hw'=>by have:=qv t w';rw[hv]at this;exact this) ?_)|fail)
    all_goals exact f8
  ·by_cases k2:k=2
   ·subst k2
    rw[show dy m 2 t i=eE m.types i from by unfold dy;rw[if_neg FY,if_neg FY,if_pos rfl]]
    refine Eq ?_
    repeat'(first|refine ay ?_|(refine E9 fun b_=>?_)|(refine fP fun b_ _=>?_)|refine yd ?_|(refine aa.ak (f:=46) ?_;refine aa.he (HE.lB ao rfl rfl (fun w' hw'=>gg B0 m _ i w' (h0.aB (show Ext w w' from hw'.at) (fun _ _ h=>h)))) rfl ?_;rintro⟨D_,p_,c_,q_,d_⟩ hD_;dsimp only)|fail)
    all_goals(refine ai.bh (.inl rfl) rfl rfl rfl rfl rfl bM rfl rfl ?_;exact fun w' hw'=>eU.mZ (tf:=fun x:Value×Value=>.tuple #[.agg #[x.1,x.2],.bool (eE m.types i).isSome]) ⟨D_,p_,c_,q_,d_⟩ hw' ao ao hD_)
   ·rw[show dy m k t i=none from by unfold dy;rw[if_neg k0,if_neg k1,if_neg k2]]
    refine Eq ?_
    repeat'(first|refine ay ?_|(refine E9 fun b_=>?_)|(refine fP fun b_ _=>?_)|refine yd ?_|fail)
    all_goals exact f8
def db (m:ae) (x:bZ):aC×Int:=match jJ m x.a with
 |none=>(gw,11)
 |some f=>if x.op=16 then(f,0)else if uN m x.a=true then(⟨[],[3]⟩,0)else(gw,22)
set_option maxHeartbeats 4000000 in
theorem pE (B:Nat) (m:ae) (v:Value) (x:bZ) (pt pl:Option Addr) (ct cl:Nat) (w:World) (h:aV B m w v) (ha:gJ x.a):Calls G.P 99 #[v,.agg #[Value.int .i64 x.op,Value.int .i64 x.a,Value.int .i64 x.b,Value.int .u64 x.n,Value.int .i64 x.kind,Value.int .i64 x.val,Value.int .i64 x.index,Value.slice pt x.types.length ct,Value.slice pl x.labels.length cl]] w (fU (db m x) (fun _=>False) w):=by
 obtain⟨op,a,b,n,kind,val,index,types,labels⟩:=x
 dsimp only at ha ⊢
 cases hf:jJ m a with
 |none=>
  rw[show db m ⟨op,a,b,n,kind,val,index,types,labels⟩=(gw,11)from by unfold db;dsimp only;rw[hf]]
  refine Ew ?_
  repeat'(first|refine ay ?_|(refine E9 fun b_=>?_)|(refine fP fun b_ _=>?_)|refine kt ?_|(refine aa.ak (f:=138) ?_;refine aa.he (HE.lB (r:=none) ao rfl rfl (fun w' hw'=>by have:=jQ B m v a w' (h.aB (show Ext w w' from hw'.at) (fun _ _ h=>h));rw[hf]at this;exact this)) rfl ?_;rintro⟨D_,p_,c_,q_,d_⟩ hD_;dsimp only)|fail)
  all_goals exact f8
 |some f=>
  by_cases h1:op=16
  ·subst h1
   rw[show db m ⟨16,a,b,n,kind,val,index,types,labels⟩=(f,0)from by unfold db;dsimp only;rw[hf];rfl]
   refine Ew ?_
   repeat'(first|refine ay ?_|(refine E9 fun b_=>?_)|(refine fP fun b_ _=>?_)|refine kt ?_|(refine aa.ak (f:=138) ?_;refine aa.he (HE.lB (r:=some f) ao rfl rfl (fun w' hw'=>by have:=jQ B m v a w' (h.aB (show Ext w w' from hw'.at) (fun _ _ h=>h));rw[hf]at this;exact this)) rfl ?_;rintro⟨D_,p_,c_,q_,d_⟩ hD_;dsimp only)|fail)
   all_goals(refine ai.bh (.inl rfl) rfl rfl rfl rfl rfl bM rfl rfl ?_;exact fun w' hw'=>eU.mZ (f0:=(some f).getD gw) (tf:=fun x:Value×Value=>.tuple #[.agg #[x.1,x.2],.int .i64 0]) ⟨D_,p_,c_,q_,d_⟩ hw' ao ao hD_)
  ·cases hd:uN m a with
   |true=>
    rw[show db m ⟨op,a,b,n,kind,val,index,types,labels⟩=(⟨[],[3]⟩,0)from by unfold db;dsimp only;rw[hf];dsimp only;rw[if_neg h1,if_pos hd]]
    refine Ew ?_
    repeat'(first|refine ay ?_|(refine E9 fun b_=>?_)|(refine fP fun b_ _=>?_)|refine kt ?_|(refine aa.ak (f:=138) ?_;refine aa.he (HE.lB (r:=some f) ao rfl rfl (fun w' hw'=>by have:=jQ B m v a w' (h.aB (show Ext w w' from hw'.at) (fun _ _ h=>h));rw[hf]at this;exact this)) rfl ?_;rintro⟨D_,p_,c_,q_,d_⟩ hD_;dsimp only)|(refine aa.ak (f:=139) ?_;refine aa.az (v:=.bool true) rfl rfl rfl (fun w' hw'=>by have:=ky B m v a w' (h.aB (show Ext w w' from hw'.at) (fun _ _ h=>h)) ha;rw[hd]at this;exact this) ?_)|fail)
    all_goals exact f8
   |false=>
    rw[show db m ⟨op,a,b,n,kind,val,index,types,labels⟩=(gw,22)from by unfold db;dsimp only;rw[hf];dsimp only;rw[if_neg h1,if_neg (by rw[hd];decide)]]
    refine Ew ?_
    repeat'(first|refine ay ?_|(refine E9 fun b_=>?_)|(refine fP fun b_ _=>?_)|refine kt ?_|(refine aa.ak (f:=138) ?_;refine aa.he (HE.lB (r:=some f) ao rfl rfl (fun w' hw'=>by have:=jQ B m v a w' (h.aB (show Ext w w' from hw'.at) (fun _ _ h=>h));rw[hf]at this;exact this)) rfl ?_;rintro⟨D_,p_,c_,q_,d_⟩ hD_;dsimp only)|(refine aa.ak (f:=139) ?_;refine aa.az (v:=.bool false) rfl rfl rfl (fun w' hw'=>by have:=ky B m v a w' (h.aB (show Ext w w' from hw'.at) (fun _ _ h=>h)) ha;rw[hd]at this;exact this) ?_)|fail)
    all_goals exact f8
set_option maxHeartbeats 4000000 in
theorem sR (B:Nat) (m:ae) (v:Value) (x:bZ) (pt pl:Option Addr) (ct cl:Nat) (w:World) (h:aV B m w v) (hop:x.op=37∨x.op=38∨x.op=64528∨x.op=64527∨x.op=64529):Calls G.P 104 #[v,.agg #[Value.int .i64 x.op,Value.int .i64 x.a,Value.int .i64 x.b,Value.int .u64 x.n,Value.int .i64 x.kind,Value.int .i64 x.val,Value.int .i64 x.index,Value.slice pt x.types.length ct,Value.slice pl x.labels.length cl]] w (fU (ep m x) (fun _=>False) w):=by
 obtain⟨op,a,b,n,kind,val,index,types,labels⟩:=x
 dsimp only at hop ⊢
 cases hg:eE (dz m) a with
 |none=>
  rw[show ep m ⟨op,a,b,n,kind,val,index,types,labels⟩=(gw,11)from by unfold ep;dsimp only;rw[hg]]
  refine aj (l:=[_,_]) Tryz.func104 rfl Tryz.ntmps104 rfl (Ok.start w) ?_
  repeat'(first|refine ay ?_|(refine E9 fun b_=>?_)|(refine fP fun b_ _=>?_)|refine kt ?_|(refine aa.ak (f:=140) ?_;refine aa.az (v:=.tuple #[.agg #[.int .i64 0,.int .i64 0,.int .i64 0,.bool false],.bool false]) rfl rfl rfl (fun w' hw'=>by have:=ef B m v a w' (h.aB (show Ext w w' from hw'.at) (fun _ _ h=>h));rw[hg]at this;exact this) ?_)|fail)
  all_goals exact f8
 |some g=>
  obtain⟨te,l1,l2,l3⟩:=g
  rcases hop with rfl|rfl|rfl|rfl|rfl
  all_goals
   first|rw[show ep m ⟨37,a,b,n,kind,val,index,types,labels⟩=(⟨[1],[te]⟩,0)from by unfold ep;dsimp only;rw[hg];rfl]|rw[show ep m ⟨38,a,b,n,kind,val,index,types,labels⟩=(⟨[1,te],[]⟩,0)from by unfold ep;dsimp only;rw[hg];rfl]|rw[show ep m ⟨64528,a,b,n,kind,val,index,types,labels⟩=(⟨[],[1]⟩,0)from by unfold ep;dsimp only;rw[hg];rfl]|rw[show ep m ⟨64527,a,b,n,kind,val,index,types,labels⟩=(⟨[te,1],[1]⟩,0)from by unfold ep;dsimp only;rw[hg];rfl]|rw[show ep m ⟨64529,a,b,n,kind,val,index,types,labels⟩=(⟨[1,te,1],[]⟩,0)from by unfold ep;dsimp only;rw[hg];rfl]
   refine aj (l:=[_,_]) Tryz.func104 rfl Tryz.ntmps104 rfl (Ok.start w) ?_
   repeat'(first|refine ay ?_|(refine E9 fun b_=>?_)|(refine fP fun b_ _=>?_)|refine kt ?_|(refine aa.ak (f:=140) ?_;refine aa.az (v:=.tuple #[.agg #[.int .i64 te,.int .i64 l1,.int .i64 l2,.bool l3],.bool true]) rfl rfl rfl (fun w' hw'=>by have:=ef B m v a w' (h.aB (show Ext w w' from hw'.at) (fun _ _ h=>h));rw[hg]at this;exact this) ?_)|fail)
   all_goals exact f8
theorem As {M:List aU} {R:List (World→Prop)} {b T:Nat} {cs:List Value} (hM:aU.aH b cs T∈M):∀w,Ok M R w→∀j u,cs[j]?=some u→w.cell? ⟨b,0+j,none⟩=some u:=fun w hw j u hj=>by rw[Nat.zero_add];exact eA.cell (hw.m (.aH b cs T) hM).1 hj
def dc (m:ae) (x:bZ):aC×Int:=match eE m.types x.a,eE (dz m) x.b with
 |some f,some t=>if t.elem≠3 then(gw,12)else(⟨f.params++[1],f.results⟩,0)
 |_,_=>(gw,11)
theorem wu (B:Nat) (m:ae) (v:Value) (x:bZ) (pt pl:Option Addr) (ct cl:Nat) (w:World) (h:aV B m w v) (hp:∀w',Ext w w'→Calls G.P 83 #[.agg #[Value.int .i64 x.op,Value.int .i64 x.a,Value.int .i64 x.b,Value.int .u64 x.n,Value.int .i64 x.kind,Value.int .i64 x.val,Value.int .i64 x.index,Value.slice pt x.types.length ct,Value.slice pl x.labels.length cl]] w' fun e w2=>e=.returned (.bool (cW x))∧Ext w' w2):Calls G.P 51 #[v,.agg #[Value.int .i64 x.op,Value.int .i64 x.a,Value.int .i64 x.b,Value.int .u64 x.n,Value.int .i64 x.kind,Value.int .i64 x.val,Value.int .i64 x.index,Value.slice pt x.types.length ct,Value.slice pl x.labels.length cl]] w fun e w'=>e=.returned (.int .i64 (if cW x=false then 10 else 0))∧Ext w w':=by
 cases hx:cW x with
 |true=>
  rw[hx]at hp
  refine aj (l:=[_,_]) Tryz.func51 rfl Tryz.ntmps51 rfl (Ok.start w) ?_
  repeat'(first|refine ay ?_|(refine E9 fun b_=>?_)|(refine aa.ak (f:=52) ?_;refine aa.he (HE.lB (r:=some gw) ao rfl rfl (fun w' hw'=>kx B m v 0 0 0 w' (h.aB (show Ext w w' from hw'.at) (fun _ _ h=>h)))) rfl ?_;rintro⟨D_,p_,c_,q_,d_⟩ hD_;dsimp only)|(refine aa.ak (f:=83) ?_;refine aa.az rfl rfl rfl (fun w' hw'=>hp w' hw'.at) ?_)|fail)
  all_goals exact bi
 |false=>
  rw[hx]at hp
  refine aj (l:=[_,_]) Tryz.func51 rfl Tryz.ntmps51 rfl (Ok.start w) ?_
  repeat'(first|refine ay ?_|(refine E9 fun b_=>?_)|(refine aa.ak (f:=52) ?_;refine aa.he (HE.lB (r:=some gw) ao rfl rfl (fun w' hw'=>kx B m v 0 0 0 w' (h.aB (show Ext w w' from hw'.at) (fun _ _ h=>h)))) rfl ?_;rintro⟨D_,p_,c_,q_,d_⟩ hD_;dsimp only)|(refine aa.ak (f:=83) ?_;refine aa.az rfl rfl rfl (fun w' hw'=>hp w' hw'.at) ?_)|fail)
  all_goals exact bi
set_option maxHeartbeats 4000000 in
theorem pF (B:Nat) (m:ae) (v:Value) (x:bZ) (pt pl:Option Addr) (ct cl:Nat) (w:World) (h:aV B m w v) (hL:∀f,eE m.types x.a=some f→f.params.length≤17592186043904∧f.results.length≤17592186044416):Calls G.P 100 #[v,.agg #[Value.int .i64 x.op,Value.int .i64 x.a,Value.int .i64 x.b,Value.int .u64 x.n,Value.int .i64 x.kind,Value.int .i64 x.val,Value.int .i64 x.index,Value.slice pt x.types.length ct,Value.slice pl x.labels.length cl]] w (fU (dc m x) (fun _=>False) w):=by
 obtain⟨op,a,b,n,kind,val,index,types,labels⟩:=x
 dsimp only at hL ⊢
 cases hf:eE m.types a with
 |none=>
  rw[show dc m ⟨op,a,b,n,kind,val,index,types,labels⟩=(gw,11)from by unfold dc;dsimp only;rw[hf]]
  refine Ex ?_
  repeat'(first|refine ay ?_|(refine E9 fun b_=>?_)|refine kt ?_|(refine aa.ak (f:=46) ?_;refine aa.he (HE.lB (r:=none) ao rfl rfl (fun w' hw'=>by have:=gg B m v a w' (h.aB (show Ext w w' from hw'.at) (fun _ _ h=>h));rw[hf]at this;exact this)) rfl ?_;rintro⟨D_,p_,c_,q_,d_⟩ hD_;dsimp only)|(refine aa.ak (f:=140) ?_;refine aa.az rfl rfl rfl (fun w' hw'=>ef B m v b w' (h.aB (show Ext w w' from hw'.at) (fun _ _ h=>h))) ?_)|fail)
  all_goals exact gc
 |some f=>
  have hl:=hL f hf
  cases hg:eE (dz m) b with
  |none=>
   rw[show dc m ⟨op,a,b,n,kind,val,index,types,labels⟩=(gw,11)from by unfold dc;dsimp only;rw[hf,hg]]
   refine Ex ?_
   repeat'(first|refine ay ?_|(refine E9 fun b_=>?_)|refine kt ?_|(refine aa.ak (f:=46) ?_;refine aa.he (HE.lB (r:=some f) ao rfl rfl (fun w' hw'=>by have:=gg B m v a w' (h.aB (show Ext w w' from hw'.at) (fun _ _ h=>h));rw[hf]at this;exact this)) rfl ?_;rintro⟨D_,p_,c_,q_,d_⟩ hD_;dsimp only)|(refine aa.ak (f:=140) ?_;refine aa.az (v:=.tuple #[.agg #[.int .i64 0,.int .i64 0,.int .i64 0,.bool false],.bool false]) rfl rfl rfl (fun w' hw'=>by have:=ef B m v b w' (h.aB (show Ext w w' from hw'.at) (fun _ _ h=>h));rw[hg]at this;exact this) ?_)|fail)
   all_goals exact gc
  |some g=>
   obtain⟨te,l1,l2,l3⟩:=g
   by_cases h3:te=3
   ·subst h3
    rw[show dc m ⟨op,a,b,n,kind,val,index,types,labels⟩=(⟨f.params++[1],f.results⟩,0)from by unfold dc;dsimp only;rw[hf,hg];rfl]
    refine Ex ?_
    repeat'(first|refine ay ?_|(refine E9 fun b_=>?_)|(refine aa.ak (f:=140) ?_;refine aa.az (v:=.tuple #[.agg #[.int .i64 3,.int .i64 l1,.int .i64 l2,.bool l3],.bool true]) rfl rfl rfl (fun w' hw'=>by have:=ef B m v b w' (h.aB (show Ext w w' from hw'.at) (fun _ _ h=>h));rw[hg]at this;exact this) ?_)|fail)
    refine aa.he (HE.nV (M0:=[]) rfl rfl (fun w' hw'=>by have:=m5 B w.heap.size m v a w' (h.aB (show Ext w w' from hw'.at) (fun _ _ h=>h)) (show Ext w w' from hw'.at).size;rw[hf]at this;exact this)) rfl ?_
    rintro⟨v1,v2⟩ _
    dsimp only[yx,List.cons_append,List.nil_append,Option.getD_some]
    refine aa.pure (φ:=(∃p c,v1=.slice p f.params.length c)∧∃p c,v2=.slice p f.results.length c∧f.results.length≤17592186044416) (fun w' hw'=>⟨?_,?_⟩) ?_
    ·obtain⟨p,c,e,_⟩:=au (hw'.own (v:=v1));exact⟨p,c,e⟩
    ·obtain⟨p,c,e,_⟩:=au (hw'.own (v:=v2));exact⟨p,c,e,hl.2⟩
    rintro⟨⟨q1,d1,rfl⟩,⟨q2,d2,rfl,hl2⟩⟩
    repeat'(first|refine ay ?_|(refine Fa fun b_=>?_)|(refine aa.ak (f:=140) ?_;refine aa.az (v:=.tuple #[.agg #[.int .i64 3,.int .i64 l1,.int .i64 l2,.bool l3],.bool true]) rfl rfl rfl (fun w' hw'=>by have:=ef B m v b w' (h.aB (show Ext w w' from hw'.at) (fun _ _ h=>h));rw[hg]at this;exact this) ?_)|fail)
    rename_i b6
    refine aP.du [.aH b6 [.slice q1 f.params.length d1,.slice q2 f.results.length d2] pR] [Ext w] bN aX ?_
    repeat'(first|refine tx ?_|(refine aK.vL ?_;refine aK.he rfl rfl (HE.mq rfl rfl rfl rfl rfl fS F0 F0) (fun _=>bN) (fun _=>aX) ?_;rintro b7 _)|(refine aK.vK ?_;refine aK.he rfl rfl (HE.lL [.int .i64 1] rfl rfl (fun _=>bM) (.inr ⟨_,0,rfl,As gG⟩) rfl rfl rfl rfl F0 F0 F0 (fun u hu=>by rw[List.mem_singleton.1 hu];rfl) (by show(f.params.length+1)*8≤_;omega) FY (fun w' hw'=>(show Ext w w' from hw'.at).size)) (fun _=>bN) (fun _=>aX) ?_;rintro v9 _;refine aN.pure (φ:=∃p c,v9=.slice p (f.params.length+1) c) (fun w' hw'=>by obtain⟨p,c,e,_⟩:=au (hw'.own (v:=v9));exact⟨p,c,e⟩) ?_;rintro⟨p9,c9,rfl⟩)|(refine aK.fe 101 ?_;refine aK.he rfl rfl (HE.kl rfl rfl (fun w' hw'=>nJ p9 q2 (f.params.length+1) f.results.length c9 d2 w')) (fun _=>bN) (fun _=>aX) ?_;rintro⟨⟩ _)|(refine aK.yX ?_;refine aK.nc rfl (gI.aL _ rfl rfl rfl rfl rfl rfl bM rfl) (fun _=>bN) (fun _=>aX) ?_;rintro⟨⟩ _)|refine aN.nil FR ?_|refine aN.any FR ?_|exact aE.fin rfl|refine aE.skip FR ?_|refine aE.go ?_ ?_)
    all_goals
     repeat'(first|refine ay ?_|fail)
     refine ai.bh (.inl rfl) rfl rfl rfl rfl rfl bM rfl rfl ?_
     intro w' hw'
     have g1:af (fun k=>w.heap.size≤k) w' (.slice p9 (f.params.length+1) c9) (f.params++[1]):=jt (xs:=f.params++[1]) (by have:=hw'.own (B:=w.heap.size) (T:=kI) (s:=1) (v:=.slice p9 (f.params.length+1) c9);simpa using this) (by simp;omega)
     have g2:af (fun k=>w.heap.size≤k) w' (.slice q2 f.results.length d2) f.results:=jt (hw'.own (B:=w.heap.size) (T:=kI) (s:=1) (v:=.slice q2 f.results.length d2)) hl2
     exact⟨⟨(_,_),rfl,g1.mono fun _ _ h=>.inr h,g2.mono fun _ _ h=>.inr h⟩,hw'.at⟩
   ·rw[show dc m ⟨op,a,b,n,kind,val,index,types,labels⟩=(gw,12)from by unfold dc;dsimp only;rw[hf,hg];dsimp only;rw[if_pos h3]]
    refine Ex ?_
    repeat'(first|refine ay ?_|(refine E9 fun b_=>?_)|refine kt ?_|(refine aa.ak (f:=46) ?_;refine aa.he (HE.lB (r:=some f) ao rfl rfl (fun w' hw'=>by have:=gg B m v a w' (h.aB (show Ext w w' from hw'.at) (fun _ _ h=>h));rw[hf]at this;exact this)) rfl ?_;rintro⟨D_,p_,c_,q_,d_⟩ hD_;dsimp only)|(refine aa.ak (f:=140) ?_;refine aa.az (v:=.tuple #[.agg #[.int .i64 te,.int .i64 l1,.int .i64 l2,.bool l3],.bool true]) rfl rfl rfl (fun w' hw'=>by have:=ef B m v b w' (h.aB (show Ext w w' from hw'.at) (fun _ _ h=>h));rw[hg]at this;exact this) ?_)|fail)
    all_goals exact gc
def dD (k:Int) (ba bb:Bool) (ta tb:Int) (be:Bool) (te:Int) (ma mb:Bool) (a nd al:Int):Int:=
 if k=10 then(if(ba && bb)=false then 11 else if ta≠tb then 12 else 0)else if k=11 then(if(be && bb)=false then 11 else if te≠tb then 12 else 0)else
 if k=12 then(if be=false then 11 else 0)else if k=16 then(if a<nd then 0 else 11)else if k=15 then(if mb=true∧a<nd then 0 else 11)else
 if k=14 then(if ma=false∨mb=false then 11 else 0)else if k=13 then(if mb=false then 11 else 0)else
 if k=17 then(if mb=true∧al<a then 19 else if mb=false then 11 else 0)else 0
def iV (m:ae) (x:bZ):Int:=dD (ir x.op) (eE (dz m) x.a).isSome (eE (dz m) x.b).isSome ((eE (dz m) x.a).getD AN).elem ((eE (dz m) x.b).getD AN).elem (eE (hH m) x.a).isSome ((eE (hH m) x.a).getD 0) (eE (ko m) x.a).isSome (eE (ko m) x.b).isSome x.a m.aW.length (qB x.op)
theorem nq {g g':Prop} (h:g') (hw:dP g'→g:=by(intro hk_;(first|refine Fo ?_);exact hk_.out)):g:=hw ⟨h⟩
theorem sK {g g':Prop} (h:g') (hw:dP g'→g:=by(intro hk_;(first|refine nq ?_|(refine aa.ak (f:=145) ?_;refine aa.az (v:=.tuple #[.agg #[.int .i64 (ML b).min,.int .i64 (ML b).max,.bool (ML b).has],.bool false]) rfl rfl rfl (fun w' hw'=>by have:=gM b w' hw'.at;rw[hz]at this;exact this) ?_));exact hk_.out)):g:=hw ⟨h⟩
theorem sL {g g':Prop} (h:g') (hw:dP g'→g:=by(intro hk_;(first|refine nq ?_|(refine aa.ak (f:=145) ?_;refine aa.az (v:=.tuple #[.agg #[.int .i64 (ML b).min,.int .i64 (ML b).max,.bool (ML b).has],.bool true]) rfl rfl rfl (fun w' hw'=>by have:=gM b w' hw'.at;rw[hz]at this;exact this) ?_));exact hk_.out)):g:=hw ⟨h⟩
set_option maxHeartbeats 64000000 in
theorem pH (B:Nat) (m:ae) (v:Value) (op a b n kind val index:Int) (pt pl:Option Addr) (nt nl ct cl:Nat) (k:Int) (al:Int) (w:World) (h:aV B m w v)
  (ho:∀w',Ext w w'→Calls G.P 98 #[.int .i64 op] w' fun e w2=>e=.returned (.int .i64 k)∧Ext w' w2)
  (ha:∀w',Ext w w'→Calls G.P 146 #[.int .i64 op] w' fun e w2=>e=.returned (.int .i64 al)∧Ext w' w2):
  Calls G.P 105 #[v,.agg #[Value.int .i64 op,Value.int .i64 a,Value.int .i64 b,Value.int .u64 n,Value.int .i64 kind,Value.int .i64 val,Value.int .i64 index,Value.slice pt nt ct,Value.slice pl nl cl]] w fun e w'=>e=.returned (.int .i64 (dD k (eE (dz m) a).isSome (eE (dz m) b).isSome ((eE (dz m) a).getD AN).elem ((eE (dz m) b).getD AN).elem (eE (hH m) a).isSome ((eE (hH m) a).getD 0) (eE (ko m) a).isSome (eE (ko m) b).isSome a m.aW.length al))∧Ext w w':=by
 obtain⟨T,hT⟩:∃T:Int→dS,∀i,(eE (dz m) i).getD AN=T i:=⟨_,fun _=>rfl⟩
 obtain⟨S,hS⟩:∃T:Int→Bool,∀i,(eE (dz m) i).isSome=T i:=⟨_,fun _=>rfl⟩
 obtain⟨ML,hML⟩:∃T:Int→dt,∀i,(eE (ko m) i).getD Cx=T i:=⟨_,fun _=>rfl⟩
 obtain⟨MS,hMS⟩:∃T:Int→Bool,∀i,(eE (ko m) i).isSome=T i:=⟨_,fun _=>rfl⟩
 obtain⟨te,hte⟩:∃t,(eE (hH m) a).getD 0=t:=⟨_,rfl⟩
 obtain⟨be,hbe⟩:∃t,(eE (hH m) a).isSome=t:=⟨_,rfl⟩
 obtain⟨nd,hnd⟩:∃t:Int,(m.aW.length:Int)=t:=⟨_,rfl⟩
 have gT:∀i w',Ext w w'→Calls G.P 140 #[v,.int .i64 i] w' fun e w2=>e=.returned (.tuple #[.agg #[.int .i64 (T i).elem,.int .i64 (T i).qV.min,.int .i64 (T i).qV.max,.bool (T i).qV.has],.bool (S i)])∧Ext w' w2:=fun i w' hx=>by have:=ef B m v i w' (h.aB hx (fun _ _ h=>h));rw[hT,hS]at this;exact this
 have gM:∀i w',Ext w w'→Calls G.P 145 #[v,.int .i64 i] w' fun e w2=>e=.returned (.tuple #[.agg #[.int .i64 (ML i).min,.int .i64 (ML i).max,.bool (ML i).has],.bool (MS i)])∧Ext w' w2:=fun i w' hx=>by have:=wB B m v i w' (h.aB hx (fun _ _ h=>h));rw[hML,hMS]at this;exact this
 have gE:∀w',Ext w w'→Calls G.P 143 #[v,.int .i64 a] w' fun e w2=>e=.returned (.tuple #[.int .i64 te,.bool be])∧Ext w' w2:=fun w' hx=>by have:=uo B m v a w' (h.aB hx (fun _ _ h=>h));rw[hte,hbe]at this;exact this
 have gnd:∀w',Ext w w'→Calls G.P 144 #[v] w' fun e w2=>e=.returned (.int .i64 nd)∧Ext w' w2:=fun w' hx=>by have:=sW B m v w' (h.aB hx (fun _ _ h=>h));rw[hnd]at this;exact this
 simp only[hT,hS,hMS,hte,hbe,hnd]
 clear hT hS hML hMS hte hbe hnd
 by_cases hk:k=10
 ·obtain rfl:=hk
  skip
  refine Ey ?_
  repeat'(first|refine ay ?_|(refine E9 fun b_=>?_)|refine nq ?_|(refine aa.ak (f:=140) ?_;refine aa.az rfl rfl rfl (fun w' hw'=>gT _ w' hw'.at) ?_)|(refine aa.ak (f:=142) ?_;refine aa.az rfl rfl rfl (fun w' hw'=>oM _ _ _ w') ?_)|(refine aY ?_ ?_<;>intro hc_))
  all_goals exact ge
 by_cases hk:k=11
 ·obtain rfl:=hk
  skip
  refine Ey ?_
  repeat'(first|refine ay ?_|(refine E9 fun b_=>?_)|refine nq ?_|(refine aa.ak (f:=143) ?_;refine aa.az rfl rfl rfl (fun w' hw'=>gE w' hw'.at) ?_)|(refine aa.ak (f:=140) ?_;refine aa.az rfl rfl rfl (fun w' hw'=>gT _ w' hw'.at) ?_)|(refine aa.ak (f:=142) ?_;refine aa.az rfl rfl rfl (fun w' hw'=>oM _ _ _ w') ?_)|(refine aY ?_ ?_<;>intro hc_))
  all_goals exact ge
 by_cases hk:k=12
 ·obtain rfl:=hk
  skip
  refine Ey ?_
  repeat'(first|refine ay ?_|(refine E9 fun b_=>?_)|refine nq ?_|(refine aa.ak (f:=143) ?_;refine aa.az rfl rfl rfl (fun w' hw'=>gE w' hw'.at) ?_)|(refine aY ?_ ?_<;>intro hc_))
  all_goals exact ge
 by_cases hk:k=16
 ·obtain rfl:=hk
  by_cases hlt:a<nd
  ·refine Ey ?_
   repeat'(first|refine ay ?_|(refine E9 fun b_=>?_)|refine nq ?_|(refine aY ?_ ?_<;>intro hc_))
   refine Ez ?_
   refine dr ?_
   refine ah.zI (v:=.int .i64 nd) rfl rfl rfl (fun w' hw'=>gnd w' hw'.at) ?_
   refine dr ?_
   repeat'(first|refine ay ?_|(refine E9 fun b_=>?_)|refine nq ?_|(refine aY ?_ ?_<;>intro hc_))
   all_goals exact ge
  ·refine Ey ?_
   repeat'(first|refine ay ?_|(refine E9 fun b_=>?_)|refine nq ?_|(refine aY ?_ ?_<;>intro hc_))
   refine Ez ?_
   refine dr ?_
   refine ah.zI (v:=.int .i64 nd) rfl rfl rfl (fun w' hw'=>gnd w' hw'.at) ?_
   refine dr ?_
   repeat'(first|refine ay ?_|(refine E9 fun b_=>?_)|refine nq ?_|(refine aY ?_ ?_<;>intro hc_))
   all_goals exact ge
 by_cases hk:k=15
 ·obtain rfl:=hk
  by_cases hlt:a<nd
  ·cases hz:MS b with
   |true=>
    refine Ey ?_
    repeat'(first|refine ay ?_|(refine E9 fun b_=>?_)|refine sL ?_|(refine aY ?_ ?_<;>intro hc_))
    refine Ez ?_
    refine dr ?_
    refine ah.mE (v:=.int .i64 nd) rfl rfl rfl rfl (fun w' hw'=>gnd w' hw'.at) ?_
    refine dr ?_
    repeat'(first|refine ay ?_|(refine E9 fun b_=>?_)|refine sL ?_|(refine aY ?_ ?_<;>intro hc_))
    all_goals exact ge
   |false=>
    refine Ey ?_
    repeat'(first|refine ay ?_|(refine E9 fun b_=>?_)|refine sK ?_|(refine aY ?_ ?_<;>intro hc_))
    refine Ez ?_
    refine dr ?_
    repeat'(first|refine ay ?_|(refine E9 fun b_=>?_)|refine sK ?_|(refine aY ?_ ?_<;>intro hc_))
    all_goals exact ge
  ·cases hz:MS b with
   |true=>
    refine Ey ?_
    repeat'(first|refine ay ?_|(refine E9 fun b_=>?_)|refine sL ?_|(refine aY ?_ ?_<;>intro hc_))
    refine Ez ?_
    refine dr ?_
    refine ah.mE (v:=.int .i64 nd) rfl rfl rfl rfl (fun w' hw'=>gnd w' hw'.at) ?_
    refine dr ?_
    repeat'(first|refine ay ?_|(refine E9 fun b_=>?_)|refine sL ?_|(refine aY ?_ ?_<;>intro hc_))
    all_goals exact ge
   |false=>
    refine Ey ?_
    repeat'(first|refine ay ?_|(refine E9 fun b_=>?_)|refine sK ?_|(refine aY ?_ ?_<;>intro hc_))
    refine Ez ?_
    refine dr ?_
    repeat'(first|refine ay ?_|(refine E9 fun b_=>?_)|refine sK ?_|(refine aY ?_ ?_<;>intro hc_))
    all_goals exact ge
 by_cases hk:k=14
 ·obtain rfl:=hk
  skip
  refine Ey ?_
  repeat'(first|refine ay ?_|(refine E9 fun b_=>?_)|refine nq ?_|(refine aa.ak (f:=145) ?_;refine aa.az rfl rfl rfl (fun w' hw'=>gM _ w' hw'.at) ?_)|(refine aY ?_ ?_<;>intro hc_))
  all_goals exact ge
 by_cases hk:k=13
 ·obtain rfl:=hk
  skip
  refine Ey ?_
  repeat'(first|refine ay ?_|(refine E9 fun b_=>?_)|refine nq ?_|(refine aa.ak (f:=145) ?_;refine aa.az rfl rfl rfl (fun w' hw'=>gM _ w' hw'.at) ?_)|(refine aY ?_ ?_<;>intro hc_))
  all_goals exact ge
 by_cases hk:k=17
 ·obtain rfl:=hk
  by_cases hlt:al<a
  ·cases hz:MS b with
   |true=>
    refine Ey ?_
    repeat'(first|refine ay ?_|(refine E9 fun b_=>?_)|refine sL ?_|(refine aY ?_ ?_<;>intro hc_))
    refine Ez ?_
    refine dr ?_
    refine ah.mE (v:=.int .i64 al) rfl rfl rfl rfl (fun w' hw'=>ha w' hw'.at) ?_
    refine dr ?_
    repeat'(first|refine ay ?_|(refine E9 fun b_=>?_)|refine sL ?_|(refine aY ?_ ?_<;>intro hc_))
    all_goals exact ge
   |false=>
    refine Ey ?_
    repeat'(first|refine ay ?_|(refine E9 fun b_=>?_)|refine sK ?_|(refine aY ?_ ?_<;>intro hc_))
    refine Ez ?_
    refine dr ?_
    repeat'(first|refine ay ?_|(refine E9 fun b_=>?_)|refine sK ?_|(refine aY ?_ ?_<;>intro hc_))
    all_goals exact ge
  ·cases hz:MS b with
   |true=>
    refine Ey ?_
    repeat'(first|refine ay ?_|(refine E9 fun b_=>?_)|refine sL ?_|(refine aY ?_ ?_<;>intro hc_))
    refine Ez ?_
    refine dr ?_
    refine ah.mE (v:=.int .i64 al) rfl rfl rfl rfl (fun w' hw'=>ha w' hw'.at) ?_
    refine dr ?_
    repeat'(first|refine ay ?_|(refine E9 fun b_=>?_)|refine sL ?_|(refine aY ?_ ?_<;>intro hc_))
    all_goals exact ge
   |false=>
    refine Ey ?_
    repeat'(first|refine ay ?_|(refine E9 fun b_=>?_)|refine sK ?_|(refine aY ?_ ?_<;>intro hc_))
    refine Ez ?_
    refine dr ?_
    repeat'(first|refine ay ?_|(refine E9 fun b_=>?_)|refine sK ?_|(refine aY ?_ ?_<;>intro hc_))
    all_goals exact ge
 skip
 refine Ey ?_
 repeat'(first|refine ay ?_|(refine E9 fun b_=>?_)|refine nq ?_|(refine aY ?_ ?_<;>intro hc_))
 all_goals exact ge
end Go.Proofs.YtceedealggognaaGreatDoor
