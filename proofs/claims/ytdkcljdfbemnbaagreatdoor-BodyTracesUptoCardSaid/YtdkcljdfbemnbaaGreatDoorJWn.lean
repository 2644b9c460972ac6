import Derived.Test.YtdkcljdfbemnbaaGreatDoorJGi
import Derived.Test.YtdkcljdfbemnbaaGreatDoorJGp
namespace Go.Proofs.YtdkcljdfbemnbaaGreatDoor
open Go.RowKit _root_.Go.Proofs.Tryz
set_option maxHeartbeats 16000000
open Bool renaming false_or→Qb
open List renaming take_length→PA
open Value renaming bool→Po,int→Pm,slice→Pn
set_option maxRecDepth 100000
variable {α:Type} (F:Nat→Prop) (B0:Nat) (B:Nat) {M:List bu} {R:List (World→Prop)}
theorem kP {w0 w:World} {b T n c:Nat} {cs:List Value} {D:Nat→Prop} (xs:List Int) (h:Ok M R w) (hR:Ext w0∈R) (hD:∀k,w0.heap.size≤k→D k) (hm:bu.aW b cs T∈M:=by repeat(first|with_reducible exact List.mem_cons_self|apply List.mem_cons_of_mem)) (hcs:cs=xs.map (Value.int .i64):=by rfl) (hn:n=xs.length:=by rfl) (_hl:xs.length≤1000:=by simp):ai D w (.slice (some ⟨b,0,none⟩) n c) xs:=by
 subst hcs hn
 have hb:gQ w b (xs.map (Pm .i64)) T:=(h.m _ hm).1
 refine⟨_,c,rfl,by omega,.inr ⟨b,0,rfl,hD b ?_,fun i hi=>?_⟩⟩
 ·rcases Nat.lt_or_ge b w0.heap.size with hlt|hge
  ·exact(h.origin (S:=fun _=>False) hR b ⟨_,hm,rfl⟩ hlt).elim
  ·exact hge
 ·rw[Nat.zero_add];exact hb.cell OX
theorem dj {p:Prop} (h:p:=by first|exact ai.cH _ _|exact kP _ hw' ak (hD:=fun _ h=>.inr h)):p:=h
theorem vn (e0:Int) (w:World):Calls G.P 103 #[.int .i64 e0] w fun e w'=>e=.returned (.tuple #[.agg #[.slice none 0 0,.slice none 0 0],.int .i64 e0])∧Ext w w':=by
 refine ae (l:=[_]) func103 rfl ntmps103 rfl (Ok.start w) ?_
 repeat'(first|refine ar ?_|(refine NW fun b_=>?_)|fail)
 all_goals exact li
theorem th (p0 p1:Option Addr) (n0 n1 c0 c1:Nat) (w:World):Calls G.P 98 #[.slice p0 n0 c0,.slice p1 n1 c1] w fun e w'=>e=.returned (.tuple #[.agg #[.slice p0 n0 c0,.slice p1 n1 c1],.int .i64 0])∧Ext w w':=by
 refine ae (l:=[_,_]) func98 rfl ntmps98 rfl (Ok.start w) ?_
 repeat'(first|refine ar ?_|(refine NW fun b_=>?_)|fail)
 all_goals exact li
theorem oz {g g':Prop} (h:g') (hw:eA g'→g:=by(intro hk_;(first|(refine aa.aj (f:=103) ?_;refine aa.av rfl rfl rfl (fun w' hw'=>vn _ w') ?_)|(refine aa.aj (f:=98) ?_;refine aa.av rfl rfl rfl (fun w' hw'=>th _ _ _ _ _ _ w') ?_));exact hk_.out)):g:=hw ⟨h⟩
def eQ (locals:List Int) (x:cv):aO×Int:=if(locals.length:Int)≤x.a then(dF,11)else if x.op=32 then(⟨[],[ix locals x.a.toNat]⟩,0)else if x.op=33 then(⟨[ix locals x.a.toNat],[]⟩,0)else(⟨[ix locals x.a.toNat],[ix locals x.a.toNat]⟩,0)
def dt (m:af) (x:cv):aO×Int:=match cJ (gg m) x.a with
 |none=>(dF,11)
 |some g=>if x.op=35 then(⟨[],[g.nY]⟩,0)else if g.sD=false then(dF,18)else(⟨[g.nY],[]⟩,0)
def dr (m:af) (x:cv):aO×Int:=match cJ (bM m) x.a with
 |none=>(dF,11)
 |some t=>if x.op=37 then(⟨[1],[t.elem]⟩,0)else if x.op=38 then(⟨[1,t.elem],[]⟩,0)else if x.op=64528 then(⟨[],[1]⟩,0)else if x.op=64527 then(⟨[t.elem,1],[1]⟩,0)else(⟨[1,t.elem,1],[]⟩,0)
def jw (r:aO×Int) (F:Nat→Prop) (w:World):Ending→World→Prop:=bD (dH r.1) (fun y:Value×Value=>.tuple #[.agg #[y.1,y.2],.int .i64 r.2]) F w
theorem BX (locals:List Int) (x:cv) (lp pt pl:Option Addr) (lc ct cl:Nat) (w:World) (hl:ai F w (.slice lp locals.length lc) locals) (ha:0≤x.a):Calls G.P 99 #[.slice lp locals.length lc,.agg #[Pm .i64 x.op,Pm .i64 x.a,Pm .i64 x.b,Pm .u64 x.n,Pm .i64 x.kind,Pm .i64 x.val,Pm .i64 x.index,Pn pt x.types.length ct,Pn pl x.labels.length cl]] w (jw (eQ locals x) (fun _=>False) w):=by
 obtain⟨op,a,b,n,kind,val,index,types,labels⟩:=x
 dsimp only at ha ⊢
 obtain⟨j,rfl⟩:=Int.eq_ofNat_of_zero_le ha
 by_cases hj:j<locals.length
 ·obtain⟨bk,o,rfl,hF,hc⟩:=hl.at hj
  have hcj:=hc j hj
  by_cases h1:op=32
  ·subst h1
   rw[show eQ locals ⟨32,(j:Nat),b,n,kind,val,index,types,labels⟩=(⟨[],[ix locals j]⟩,0)from by unfold eQ;dsimp only;rw[if_neg Pi,if_pos rfl,Int.toNat_natCast]]
   refine MC ?_
   repeat'(first|refine ar ?_|(refine NV fun b_=>?_)|(refine fC fun b_ _=>?_)|refine oz ?_|fail)
   all_goals exact mt
  ·by_cases h2:op=33
   ·subst h2
    rw[show eQ locals ⟨33,(j:Nat),b,n,kind,val,index,types,labels⟩=(⟨[ix locals j],[]⟩,0)from by unfold eQ;dsimp only;rw[if_neg Pi,if_neg h1,if_pos rfl,Int.toNat_natCast]]
    refine MC ?_
    repeat'(first|refine ar ?_|(refine NV fun b_=>?_)|(refine fC fun b_ _=>?_)|refine oz ?_|fail)
    all_goals exact mt
   ·rw[show eQ locals ⟨op,(j:Nat),b,n,kind,val,index,types,labels⟩=(⟨[ix locals j],[ix locals j]⟩,0)from by unfold eQ;dsimp only;rw[if_neg Pi,if_neg h1,if_neg h2,Int.toNat_natCast]]
    refine MC ?_
    repeat'(first|refine ar ?_|(refine NV fun b_=>?_)|(refine fC fun b_ _=>?_)|refine oz ?_|fail)
    all_goals exact mt
 ·rw[show eQ locals ⟨op,(j:Nat),b,n,kind,val,index,types,labels⟩=(dF,11)from if_pos O6]
  refine MC ?_
  repeat'(first|refine ar ?_|(refine NV fun b_=>?_)|(refine fC fun b_ _=>?_)|refine oz ?_|fail)
  all_goals exact mt
theorem AH (m:af) (v:Value) (x:cv) (pt pl:Option Addr) (ct cl:Nat) (w:World) (h:bK B m w v):Calls G.P 100 #[v,.agg #[Pm .i64 x.op,Pm .i64 x.a,Pm .i64 x.b,Pm .u64 x.n,Pm .i64 x.kind,Pm .i64 x.val,Pm .i64 x.index,Pn pt x.types.length ct,Pn pl x.labels.length cl]] w (jw (dt m x) (fun _=>False) w):=by
 obtain⟨op,a,b,n,kind,val,index,types,labels⟩:=x
 dsimp only
 cases hg:cJ (gg m) a with
 |none=>
  rw[show dt m ⟨op,a,b,n,kind,val,index,types,labels⟩=(dF,11)from by unfold dt;dsimp only;rw[hg]]
  refine MD ?_
  repeat'(first|refine ar ?_|(refine NV fun b_=>?_)|(refine fC fun b_ _=>?_)|refine oz ?_|(refine aa.aj (f:=138) ?_;refine aa.av (v:=.tuple #[.agg #[.int .i64 0,.bool false],.bool false]) rfl rfl rfl (fun w' hw'=>by have:=kG B m v a w' (h.aN (show Ext w w' from hw'.at) (fun _ _ h=>h));rw[hg]at this;exact this) ?_)|fail)
  all_goals exact mt
 |some g=>
  obtain⟨gv,gm⟩:=g
  by_cases h1:op=35
  ·subst h1
   rw[show dt m ⟨35,a,b,n,kind,val,index,types,labels⟩=(⟨[],[gv]⟩,0)from by unfold dt;dsimp only;rw[hg];rfl]
   refine MD ?_
   repeat'(first|refine ar ?_|(refine NV fun b_=>?_)|(refine fC fun b_ _=>?_)|refine oz ?_|(refine aa.aj (f:=138) ?_;refine aa.av (v:=.tuple #[.agg #[.int .i64 gv,.bool gm],.bool true]) rfl rfl rfl (fun w' hw'=>by have:=kG B m v a w' (h.aN (show Ext w w' from hw'.at) (fun _ _ h=>h));rw[hg]at this;exact this) ?_)|fail)
   all_goals exact mt
  ·cases gm with
   |false=>
    rw[show dt m ⟨op,a,b,n,kind,val,index,types,labels⟩=(dF,18)from by unfold dt;dsimp only;rw[hg];dsimp only;rw[if_neg h1,if_pos rfl]]
    refine MD ?_
    repeat'(first|refine ar ?_|(refine NV fun b_=>?_)|(refine fC fun b_ _=>?_)|refine oz ?_|(refine aa.aj (f:=138) ?_;refine aa.av (v:=.tuple #[.agg #[.int .i64 gv,.bool false],.bool true]) rfl rfl rfl (fun w' hw'=>by have:=kG B m v a w' (h.aN (show Ext w w' from hw'.at) (fun _ _ h=>h));rw[hg]at this;exact this) ?_)|fail)
    all_goals exact mt
   |true=>
    rw[show dt m ⟨op,a,b,n,kind,val,index,types,labels⟩=(⟨[gv],[]⟩,0)from by unfold dt;dsimp only;rw[hg];dsimp only;rw[if_neg h1,if_neg Ph]]
    refine MD ?_
    repeat'(first|refine ar ?_|(refine NV fun b_=>?_)|(refine fC fun b_ _=>?_)|refine oz ?_|(refine aa.aj (f:=138) ?_;refine aa.av (v:=.tuple #[.agg #[.int .i64 gv,.bool true],.bool true]) rfl rfl rfl (fun w' hw'=>by have:=kG B m v a w' (h.aN (show Ext w w' from hw'.at) (fun _ _ h=>h));rw[hg]at this;exact this) ?_)|fail)
    all_goals exact mt
theorem dH.shape {f:aO} {D:Nat→Prop} {w:World} {u0 u1:Value} (h:dH f D w (u0,u1)):(∃p c,u0=.slice p f.params.length c)∧∃p c,u1=.slice p f.results.length c:=by
 obtain⟨p,c,e,_⟩:=h.1.slice
 obtain⟨p2,c2,e2,_⟩:=h.2.slice
 exact⟨⟨p,c,e⟩,⟨p2,c2,e2⟩⟩
structure C4 where
 D:Nat→Prop
 p:Option Addr
 c:Nat
 q:Option Addr
 d:Nat
def sZ (f:aO) (x:C4):World→Prop:=fun w=>dH f x.D w (.slice x.p f.params.length x.c,.slice x.q f.results.length x.d)
section
variable {n:Nat} {E:Env} {M M':List bu} {R R':List (World→Prop)} {w:World}
theorem HE.EY {f0:aO} {tf:Value→Value→Value} {F:Nat→Prop} {w0:World} {f:Nat} {args:List Operand} {tys:Array TypeId} {vs:List Value} (hR:Ext w0∈R) (hF:∀k,F k→k<w0.heap.size) (hf:G.fb[f]?=some true) (ha:kJ E args=some vs)
  (hc:∀w,Ok M R w→Calls G.P f vs.toArray w (bD (dH f0) (fun y:Value×Value=>tf y.1 y.2) F w)):
  HE n (.call ⟨.value (.func f),args.toArray,tys⟩) E M R (fun x:C4=>∀k,x.D k→F k∨w0.heap.size≤k) (fun x=>tf (.slice x.p f0.params.length x.c) (.slice x.q f0.results.length x.d)) (fun _=>M) (fun x=>sZ f0 x::R):=
 ⟨fun w hw=>(bU.call hf ha (hc w hw) (fun e w' h=>by obtain⟨⟨x,e1,_⟩,_⟩:=h;exact⟨_,e1⟩)).mono fun v w' ⟨⟨⟨x1,x2⟩,e1,hv⟩,hx⟩=>by
  cases e1
  obtain⟨⟨p,c,rfl⟩,⟨q,d,rfl⟩⟩:=hv.shape
  refine⟨⟨fun k=>F k∨w.heap.size≤k,p,c,q,d⟩,?_,rfl,(hw.ext hx).add fun w2 h2=>dH.fr f0 hv h2 fun k hk1 hk hm=>?_⟩
  ·rintro k (h|h)
   ·exact .inl h
   ·exact .inr (Nat.le_trans (show Ext w0 w from hw.get hR).size h)
  ·rcases hk with hk|hk
   ·exact hw.origin (S:=fun _=>False) hR k hm (hF k hk)
   ·obtain⟨q,hq,hk'⟩:=hm
    have:=(hw.m q hq).2 k hk';omega⟩
theorem bD.jl {f0:aO} {tf:Value×Value→Value} {F:Nat→Prop} {w0 w':World} (x:C4) (h:Ok M R w') (hr:sZ f0 x∈R) (hR:Ext w0∈R) (hD:∀k,x.D k→F k∨w0.heap.size≤k):bD (dH f0) tf F w0 (.returned (tf (.slice x.p f0.params.length x.c,.slice x.q f0.results.length x.d))) w':=
 ⟨⟨_,rfl,dH.mono (D:=x.D) (h.get hr) hD⟩,h.get hR⟩
theorem bD.JI {tf:Value×Value→Value} {F:Nat→Prop} {w0 w':World} (h:Ok M R w') (hR:Ext w0∈R):bD (dH dF) tf F w0 (.returned (tf (.slice none 0 0,.slice none 0 0))) w':=⟨⟨_,rfl,dH.nil _ _⟩,h.get hR⟩
theorem bD.HR {β:Type} {V:(Nat→Prop)→World→β→Prop} (hm:∀{D H:Nat→Prop} {w:World} {x:β},V D w x→(∀k,D k→H k)→V H w x) {tf:β→Value} {F H:Nat→Prop} {w w':World} {e:Ending} (h:bD V tf F w e w') (hF:∀k,F k→H k):bD V tf H w e w':=by
 obtain⟨⟨x,e1,hv⟩,hx⟩:=h
 exact⟨⟨x,e1,hm hv fun k hk=>hk.imp (hF k) id⟩,hx⟩
theorem Ia {B:Nat} {f:aO} {x:Value×Value} {w:World} (h1:w.ownsRow B n8 1 x.1 f.params.length (f.params.map (Pm .i64))) (h2:w.ownsRow B n8 1 x.2 f.results.length (f.results.map (Pm .i64))) (l1:f.params.length≤17592186044416) (l2:f.results.length≤17592186044416):dH f (fun k=>B≤k) w x:=⟨kW h1 l1,kW h2 l2⟩
end
def iV (r:Option aO) (F:Nat→Prop) (w:World):Ending→World→Prop:=bD (dH (r.getD dF)) (fun x:Value×Value=>.tuple #[.agg #[x.1,x.2],.bool r.isSome]) F w
section
variable {n:Nat} {E:Env} {M:List bu} {R:List (World→Prop)} {w0:World} {f:Nat} {args:List Operand} {tys:Array TypeId} {vs:List Value} {F:Nat→Prop}
theorem HE.ze {r:Option aO} (hR:Ext w0∈R) (hF:∀k,F k→k<w0.heap.size) (hf:G.fb[f]?=some true) (ha:kJ E args=some vs) (hc:∀w,Ok M R w→Calls G.P f vs.toArray w (iV r F w)):
  HE n (.call ⟨.value (.func f),args.toArray,tys⟩) E M R (fun x:C4=>∀k,x.D k→F k∨w0.heap.size≤k) (fun x=>.tuple #[.agg #[.slice x.p (r.getD dF).params.length x.c,.slice x.q (r.getD dF).results.length x.d],.bool r.isSome]) (fun _=>M) (fun x=>sZ (r.getD dF) x::R):=
 HE.EY (tf:=fun u v=>.tuple #[.agg #[u,v],.bool r.isSome]) hR hF hf ha hc
theorem HE.mV {r:Option aO} (hR:Ext w0∈R) (hf:G.fb[f]?=some true) (ha:kJ E args=some vs) (hc:∀w,Ok M R w→Calls G.P f vs.toArray w (iV r (fun _=>False) w)):
  HE n (.call ⟨.value (.func f),args.toArray,tys⟩) E M R (fun x:C4=>∀k,x.D k→False∨w0.heap.size≤k) (fun x=>.tuple #[.agg #[.slice x.p (r.getD dF).params.length x.c,.slice x.q (r.getD dF).results.length x.d],.bool r.isSome]) (fun _=>M) (fun x=>sZ (r.getD dF) x::R):=HE.ze hR (fun _ h=>h.elim) hf ha hc
theorem HE.Ln {r:aO×Int} (hR:Ext w0∈R) (hF:∀k,F k→k<w0.heap.size) (hf:G.fb[f]?=some true) (ha:kJ E args=some vs) (hc:∀w,Ok M R w→Calls G.P f vs.toArray w (jw r F w)):
  HE n (.call ⟨.value (.func f),args.toArray,tys⟩) E M R (fun x:C4=>∀k,x.D k→F k∨w0.heap.size≤k) (fun x=>.tuple #[.agg #[.slice x.p r.1.params.length x.c,.slice x.q r.1.results.length x.d],.int .i64 r.2]) (fun _=>M) (fun x=>sZ r.1 x::R):=
 HE.EY (tf:=fun u v=>.tuple #[.agg #[u,v],.int .i64 r.2]) hR hF hf ha hc
theorem HE.F7 {r:aO×Int} (hR:Ext w0∈R) (hf:G.fb[f]?=some true) (ha:kJ E args=some vs) (hc:∀w,Ok M R w→Calls G.P f vs.toArray w (jw r (fun _=>False) w)):
  HE n (.call ⟨.value (.func f),args.toArray,tys⟩) E M R (fun x:C4=>∀k,x.D k→False∨w0.heap.size≤k) (fun x=>.tuple #[.agg #[.slice x.p r.1.params.length x.c,.slice x.q r.1.results.length x.d],.int .i64 r.2]) (fun _=>M) (fun x=>sZ r.1 x::R):=HE.Ln hR (fun _ h=>h.elim) hf ha hc
end
theorem kf (m:af) (v:Value) (i:Int) (w:World) (h:bK B0 m w v):Calls G.P 43 #[v,.int .i64 i] w (iV (cJ m.types i) (fun _=>False) w):=by
 have hl:((cJ m.types i).getD dF).params.length≤17592186044416∧((cJ m.types i).getD dF).results.length≤17592186044416:=by
  obtain⟨bS,sp,im,dm,vs,tc,ig,dg,rfl,-,h⟩:=h
  obtain⟨p,c,e,hh⟩:=Hz (i:=i) (kt h.ts) h.ty
  rcases hh with⟨-,hat⟩|⟨j,b,o,x0,x1,y0,y1,rfl,hj,rfl,hat,-,-,q0,q1⟩
  ·rw[hat];exact⟨by show 0≤_;omega,by show 0≤_;omega⟩
  ·rw[hat]
   obtain⟨_,_,_,h0⟩:=q0.slice
   obtain⟨_,_,_,h1⟩:=q1.slice
   exact⟨h0,h1⟩
 refine(sr B0 w.heap.size m v i w h (Nat.le_refl _)).mono fun e w' ⟨x,e1,_,hok,hch,_⟩=>?_
 subst e1
 have hx:Ext w w':=hch.mono (fun k _ hk=>by obtain⟨q,hq,-⟩:=hk;simp at hq)
 refine⟨⟨x,rfl,dH.mono (Ia ?_ ?_ hl.1 hl.2) fun k hk=>.inr hk⟩,hx⟩
 ·exact(hok.m (.own w.heap.size n8 1 x.1 _ _) (by simp[Gk])).1
 ·exact(hok.m (.own w.heap.size n8 1 x.2 _ _) (by simp[Gk])).1
theorem nB (m:af) (v:Value) (i:Int) (w:World) (h:bK B0 m w v):Calls G.P 135 #[v,.int .i64 i] w (iV (gK m i) (fun _=>False) w):=by
 have h0:=h
 obtain⟨bS,sp,im,dm,vs,tc,ig,dg,rfl,-,h⟩:=h
 have hb:=kt h.fs
 have c2:w.cell? ⟨sp,1,none⟩=some vs.fv:=h.x.cell rfl
 have et:(wU m).funcs=gL m:=by rw[qg]
 rw[et]at hb
 cases hat:cJ (gL m) i with
 |none=>
  rw[show gK m i=none from by unfold gK;rw[hat];rfl]
  refine ae (l:=[_,_]) func135 rfl ntmps135 rfl (Ok.start w) ?_
  repeat'(first|refine ar ?_|(refine NW fun b_=>?_)|refine Oa ?_|(refine aa.aj (f:=167) ?_;refine aa.av (v:=.tuple #[.int .i64 0,.bool false]) rfl rfl rfl (fun w' hw'=>by have:=ER _ _ i w' (hb.ext hw'.at);rw[hat]at this;exact this) ?_)|fail)
  all_goals exact ah.aM (.inl rfl) rfl rfl rfl rfl rfl aH rfl rfl fun w' hw'=>bD.JI (tf:=fun x:Value×Value=>.tuple #[.agg #[x.1,x.2],.bool false]) hw' ak
 |some t=>
  rw[show gK m i=cJ m.types t from by unfold gK;rw[hat];rfl]
  refine ae (l:=[_,_]) func135 rfl ntmps135 rfl (Ok.start w) ?_
  repeat'(first|refine ar ?_|(refine NW fun b_=>?_)|refine Oa ?_|(refine aa.aj (f:=167) ?_;refine aa.av (v:=.tuple #[.int .i64 t,.bool true]) rfl rfl rfl (fun w' hw'=>by have:=ER _ _ i w' (hb.ext hw'.at);rw[hat]at this;exact this) ?_)|(refine aa.aj (f:=43) ?_;refine aa.he (HE.mV ak rfl rfl (fun w' hw'=>kf B0 m _ t w' (h0.aN (show Ext w w' from hw'.at) (fun _ _ h=>h)))) rfl ?_;rintro⟨D_,p_,c_,q_,d_⟩ hD_;dsimp only)|fail)
  all_goals exact ah.aM (.inl rfl) rfl rfl rfl rfl rfl aH rfl rfl fun w' hw'=>bD.jl (tf:=fun x:Value×Value=>.tuple #[.agg #[x.1,x.2],.bool (cJ m.types t).isSome]) ⟨D_,p_,c_,q_,d_⟩ hw' ak ak hD_
def cX (m:af) (k v i:Int):Option aO:=if k=0 then some dF else if k=1 then(if ki v=true then some ⟨[],[v]⟩else none)else if k=2 then cJ m.types i else none
theorem FY {g g':Prop} (h:g') (hw:eA g'→g:=by(intro hk_;(first|refine OD ?_|(refine aa.aE ?_;refine aa.yg Pk (Yl.pf Tryz.underlying76 rfl rfl) rfl ?_));exact hk_.out)):g:=hw ⟨h⟩
theorem oL (m:af) (v:Value) (k t i:Int) (w:World) (h:bK B0 m w v):Calls G.P 49 #[v,.agg #[.int .i64 k,.int .i64 t,.int .i64 i]] w (iV (cX m k t i) (fun _=>False) w):=by
 have h0:=h
 obtain⟨bS,sp,im,dm,vs,tc,ig,dg,rfl,-,h⟩:=h
 have c0:w.cell? ⟨bS,0,none⟩=some (.pointer (some ⟨sp,0,none⟩)):=h.s.cell rfl
 by_cases k0:k=0
 ·subst k0
  rw[show cX m 0 t i=some dF from rfl]
  refine ME ?_
  repeat'(first|refine ar ?_|(refine NV fun b_=>?_)|(refine fC fun b_ _=>?_)|refine FY ?_|fail)
  all_goals exact mt
 ·by_cases k1:k=1
  ·subst k1
   cases hv:ki t with
   |true=>
    rw[show cX m 1 t i=some ⟨[],[t]⟩from by unfold cX;rw[if_neg Pi,if_pos rfl,if_pos hv]]
    refine ME ?_
    repeat'(first|refine ar ?_|(refine NV fun b_=>?_)|(refine fC fun b_ _=>?_)|refine FY ?_|(refine aa.aj (f:=81) ?_;refine aa.av (v:=.bool true) rfl rfl rfl (fun w' hw'=>by have:=xM t w';rw[hv]at this;exact this) ?_)|fail)
    all_goals exact mt
   |false=>
    rw[show cX m 1 t i=none from by unfold cX;rw[if_neg Pi,if_pos rfl,if_neg (by rw[hv];decide)]]
    refine ME ?_
    repeat'(first|refine ar ?_|(refine NV fun b_=>?_)|(refine fC fun b_ _=>?_)|refine FY ?_|(refine aa.aj (f:=81) ?_;refine aa.av (v:=.bool false) rfl rfl rfl (fun w' hw'=>by have:=xM t w';rw[hv]at this;exact this) ?_)|fail)
    all_goals exact mt
  ·by_cases k2:k=2
   ·subst k2
    rw[show cX m 2 t i=cJ m.types i from by unfold cX;rw[if_neg Pi,if_neg Pi,if_pos rfl]]
    refine ME ?_
    repeat'(first|refine ar ?_|(refine NV fun b_=>?_)|(refine fC fun b_ _=>?_)|refine FY ?_|(refine aa.aj (f:=43) ?_;refine aa.he (HE.mV ak rfl rfl (fun w' hw'=>kf B0 m _ i w' (h0.aN (show Ext w w' from hw'.at) (fun _ _ h=>h)))) rfl ?_;rintro⟨D_,p_,c_,q_,d_⟩ hD_;dsimp only)|fail)
    all_goals(refine ah.aM (.inl rfl) rfl rfl rfl rfl rfl aH rfl rfl ?_;exact fun w' hw'=>bD.jl (tf:=fun x:Value×Value=>.tuple #[.agg #[x.1,x.2],.bool (cJ m.types i).isSome]) ⟨D_,p_,c_,q_,d_⟩ hw' ak ak hD_)
   ·rw[show cX m k t i=none from by unfold cX;rw[if_neg k0,if_neg k1,if_neg k2]]
    refine ME ?_
    repeat'(first|refine ar ?_|(refine NV fun b_=>?_)|(refine fC fun b_ _=>?_)|refine FY ?_|fail)
    all_goals exact mt
def dZ (m:af) (x:cv):aO×Int:=match gK m x.a with
 |none=>(dF,11)
 |some f=>if x.op=16 then(f,0)else if nL m x.a=true then(⟨[],[3]⟩,0)else(dF,22)
theorem wM (m:af) (v:Value) (x:cv) (pt pl:Option Addr) (ct cl:Nat) (w:World) (h:bK B m w v) (ha:eP x.a):Calls G.P 96 #[v,.agg #[Pm .i64 x.op,Pm .i64 x.a,Pm .i64 x.b,Pm .u64 x.n,Pm .i64 x.kind,Pm .i64 x.val,Pm .i64 x.index,Pn pt x.types.length ct,Pn pl x.labels.length cl]] w (jw (dZ m x) (fun _=>False) w):=by
 obtain⟨op,a,b,n,kind,val,index,types,labels⟩:=x
 dsimp only at ha ⊢
 cases hf:gK m a with
 |none=>
  rw[show dZ m ⟨op,a,b,n,kind,val,index,types,labels⟩=(dF,11)from by unfold dZ;dsimp only;rw[hf]]
  refine MF ?_
  repeat'(first|refine ar ?_|(refine NV fun b_=>?_)|(refine fC fun b_ _=>?_)|refine oz ?_|(refine aa.aj (f:=135) ?_;refine aa.he (HE.mV (r:=none) ak rfl rfl (fun w' hw'=>by have:=nB B m v a w' (h.aN (show Ext w w' from hw'.at) (fun _ _ h=>h));rw[hf]at this;exact this)) rfl ?_;rintro⟨D_,p_,c_,q_,d_⟩ hD_;dsimp only)|fail)
  all_goals exact mt
 |some f=>
  by_cases h1:op=16
  ·subst h1
   rw[show dZ m ⟨16,a,b,n,kind,val,index,types,labels⟩=(f,0)from by unfold dZ;dsimp only;rw[hf];rfl]
   refine MF ?_
   repeat'(first|refine ar ?_|(refine NV fun b_=>?_)|(refine fC fun b_ _=>?_)|refine oz ?_|(refine aa.aj (f:=135) ?_;refine aa.he (HE.mV (r:=some f) ak rfl rfl (fun w' hw'=>by have:=nB B m v a w' (h.aN (show Ext w w' from hw'.at) (fun _ _ h=>h));rw[hf]at this;exact this)) rfl ?_;rintro⟨D_,p_,c_,q_,d_⟩ hD_;dsimp only)|fail)
   all_goals(refine ah.aM (.inl rfl) rfl rfl rfl rfl rfl aH rfl rfl ?_;exact fun w' hw'=>bD.jl (f0:=(some f).getD dF) (tf:=fun x:Value×Value=>.tuple #[.agg #[x.1,x.2],.int .i64 0]) ⟨D_,p_,c_,q_,d_⟩ hw' ak ak hD_)
  ·cases hd:nL m a with
   |true=>
    rw[show dZ m ⟨op,a,b,n,kind,val,index,types,labels⟩=(⟨[],[3]⟩,0)from by unfold dZ;dsimp only;rw[hf];dsimp only;rw[if_neg h1,if_pos hd]]
    refine MF ?_
    repeat'(first|refine ar ?_|(refine NV fun b_=>?_)|(refine fC fun b_ _=>?_)|refine oz ?_|(refine aa.aj (f:=135) ?_;refine aa.he (HE.mV (r:=some f) ak rfl rfl (fun w' hw'=>by have:=nB B m v a w' (h.aN (show Ext w w' from hw'.at) (fun _ _ h=>h));rw[hf]at this;exact this)) rfl ?_;rintro⟨D_,p_,c_,q_,d_⟩ hD_;dsimp only)|(refine aa.aj (f:=136) ?_;refine aa.av (v:=.bool true) rfl rfl rfl (fun w' hw'=>by have:=oM B m v a w' (h.aN (show Ext w w' from hw'.at) (fun _ _ h=>h)) ha;rw[hd]at this;exact this) ?_)|fail)
    all_goals exact mt
   |false=>
    rw[show dZ m ⟨op,a,b,n,kind,val,index,types,labels⟩=(dF,22)from by unfold dZ;dsimp only;rw[hf];dsimp only;rw[if_neg h1,if_neg (by rw[hd];decide)]]
    refine MF ?_
    repeat'(first|refine ar ?_|(refine NV fun b_=>?_)|(refine fC fun b_ _=>?_)|refine oz ?_|(refine aa.aj (f:=135) ?_;refine aa.he (HE.mV (r:=some f) ak rfl rfl (fun w' hw'=>by have:=nB B m v a w' (h.aN (show Ext w w' from hw'.at) (fun _ _ h=>h));rw[hf]at this;exact this)) rfl ?_;rintro⟨D_,p_,c_,q_,d_⟩ hD_;dsimp only)|(refine aa.aj (f:=136) ?_;refine aa.av (v:=.bool false) rfl rfl rfl (fun w' hw'=>by have:=oM B m v a w' (h.aN (show Ext w w' from hw'.at) (fun _ _ h=>h)) ha;rw[hd]at this;exact this) ?_)|fail)
    all_goals exact mt
theorem AI (m:af) (v:Value) (x:cv) (pt pl:Option Addr) (ct cl:Nat) (w:World) (h:bK B m w v) (hop:x.op=37∨x.op=38∨x.op=64528∨x.op=64527∨x.op=64529):Calls G.P 101 #[v,.agg #[Pm .i64 x.op,Pm .i64 x.a,Pm .i64 x.b,Pm .u64 x.n,Pm .i64 x.kind,Pm .i64 x.val,Pm .i64 x.index,Pn pt x.types.length ct,Pn pl x.labels.length cl]] w (jw (dr m x) (fun _=>False) w):=by
 obtain⟨op,a,b,n,kind,val,index,types,labels⟩:=x
 dsimp only at hop ⊢
 cases hg:cJ (bM m) a with
 |none=>
  rw[show dr m ⟨op,a,b,n,kind,val,index,types,labels⟩=(dF,11)from by unfold dr;dsimp only;rw[hg]]
  refine ae (l:=[_,_]) func101 rfl ntmps101 rfl (Ok.start w) ?_
  repeat'(first|refine ar ?_|(refine NV fun b_=>?_)|(refine fC fun b_ _=>?_)|refine oz ?_|(refine aa.aj (f:=137) ?_;refine aa.av (v:=.tuple #[.agg #[.int .i64 0,.int .i64 0,.int .i64 0,.bool false],.bool false]) rfl rfl rfl (fun w' hw'=>by have:=gV B m v a w' (h.aN (show Ext w w' from hw'.at) (fun _ _ h=>h));rw[hg]at this;exact this) ?_)|fail)
  all_goals exact mt
 |some g=>
  obtain⟨te,l1,l2,l3⟩:=g
  rcases hop with rfl|rfl|rfl|rfl|rfl
  all_goals
   first|rw[show dr m ⟨37,a,b,n,kind,val,index,types,labels⟩=(⟨[1],[te]⟩,0)from by unfold dr;dsimp only;rw[hg];rfl]|rw[show dr m ⟨38,a,b,n,kind,val,index,types,labels⟩=(⟨[1,te],[]⟩,0)from by unfold dr;dsimp only;rw[hg];rfl]|rw[show dr m ⟨64528,a,b,n,kind,val,index,types,labels⟩=(⟨[],[1]⟩,0)from by unfold dr;dsimp only;rw[hg];rfl]|rw[show dr m ⟨64527,a,b,n,kind,val,index,types,labels⟩=(⟨[te,1],[1]⟩,0)from by unfold dr;dsimp only;rw[hg];rfl]|rw[show dr m ⟨64529,a,b,n,kind,val,index,types,labels⟩=(⟨[1,te,1],[]⟩,0)from by unfold dr;dsimp only;rw[hg];rfl]
   refine ae (l:=[_,_]) func101 rfl ntmps101 rfl (Ok.start w) ?_
   repeat'(first|refine ar ?_|(refine NV fun b_=>?_)|(refine fC fun b_ _=>?_)|refine oz ?_|(refine aa.aj (f:=137) ?_;refine aa.av (v:=.tuple #[.agg #[.int .i64 te,.int .i64 l1,.int .i64 l2,.bool l3],.bool true]) rfl rfl rfl (fun w' hw'=>by have:=gV B m v a w' (h.aN (show Ext w w' from hw'.at) (fun _ _ h=>h));rw[hg]at this;exact this) ?_)|fail)
   all_goals exact mt
theorem ES {b T:Nat} {cs:List Value} (hM:bu.aW b cs T∈M):∀w,Ok M R w→∀j u,cs[j]?=some u→w.cell? ⟨b,0+j,none⟩=some u:=fun w hw j u hj=>by rw[Nat.zero_add];exact gQ.cell (hw.m (.aW b cs T) hM).1 hj
def bZ (m:af) (x:cv):aO×Int:=match cJ m.types x.a,cJ (bM m) x.b with
 |some f,some t=>if t.elem≠3 then(dF,12)else(⟨f.params++[1],f.results⟩,0)
 |_,_=>(dF,11)
theorem Eg (m:af) (v:Value) (x:cv) (pt pl:Option Addr) (ct cl:Nat) (w:World) (h:bK B m w v) (hp:∀w',Ext w w'→Calls G.P 80 #[.agg #[Pm .i64 x.op,Pm .i64 x.a,Pm .i64 x.b,Pm .u64 x.n,Pm .i64 x.kind,Pm .i64 x.val,Pm .i64 x.index,Pn pt x.types.length ct,Pn pl x.labels.length cl]] w' fun e w2=>e=.returned (.bool (cW x))∧Ext w' w2):Calls G.P 48 #[v,.agg #[Pm .i64 x.op,Pm .i64 x.a,Pm .i64 x.b,Pm .u64 x.n,Pm .i64 x.kind,Pm .i64 x.val,Pm .i64 x.index,Pn pt x.types.length ct,Pn pl x.labels.length cl]] w fun e w'=>e=.returned (.int .i64 (if cW x=false then 10 else 0))∧Ext w w':=by
 cases hx:cW x with
 |true=>
  rw[hx]at hp
  refine ae (l:=[_,_]) func48 rfl ntmps48 rfl (Ok.start w) ?_
  repeat'(first|refine ar ?_|(refine NV fun b_=>?_)|(refine aa.aj (f:=49) ?_;refine aa.he (HE.mV (r:=some dF) ak rfl rfl (fun w' hw'=>oL B m v 0 0 0 w' (h.aN (show Ext w w' from hw'.at) (fun _ _ h=>h)))) rfl ?_;rintro⟨D_,p_,c_,q_,d_⟩ hD_;dsimp only)|(refine aa.aj (f:=80) ?_;refine aa.av rfl rfl rfl (fun w' hw'=>hp w' hw'.at) ?_)|fail)
  all_goals exact gt
 |false=>
  rw[hx]at hp
  refine ae (l:=[_,_]) func48 rfl ntmps48 rfl (Ok.start w) ?_
  repeat'(first|refine ar ?_|(refine NV fun b_=>?_)|(refine aa.aj (f:=49) ?_;refine aa.he (HE.mV (r:=some dF) ak rfl rfl (fun w' hw'=>oL B m v 0 0 0 w' (h.aN (show Ext w w' from hw'.at) (fun _ _ h=>h)))) rfl ?_;rintro⟨D_,p_,c_,q_,d_⟩ hD_;dsimp only)|(refine aa.aj (f:=80) ?_;refine aa.av rfl rfl rfl (fun w' hw'=>hp w' hw'.at) ?_)|fail)
  all_goals exact gt
theorem wN (m:af) (v:Value) (x:cv) (pt pl:Option Addr) (ct cl:Nat) (w:World) (h:bK B m w v) (hL:∀f,cJ m.types x.a=some f→f.params.length≤17592186043904∧f.results.length≤17592186044416):Calls G.P 97 #[v,.agg #[Pm .i64 x.op,Pm .i64 x.a,Pm .i64 x.b,Pm .u64 x.n,Pm .i64 x.kind,Pm .i64 x.val,Pm .i64 x.index,Pn pt x.types.length ct,Pn pl x.labels.length cl]] w (jw (bZ m x) (fun _=>False) w):=by
 obtain⟨op,a,b,n,kind,val,index,types,labels⟩:=x
 dsimp only at hL ⊢
 cases hf:cJ m.types a with
 |none=>
  rw[show bZ m ⟨op,a,b,n,kind,val,index,types,labels⟩=(dF,11)from by unfold bZ;dsimp only;rw[hf]]
  refine MG ?_
  repeat'(first|refine ar ?_|(refine NV fun b_=>?_)|refine oz ?_|(refine aa.aj (f:=43) ?_;refine aa.he (HE.mV (r:=none) ak rfl rfl (fun w' hw'=>by have:=kf B m v a w' (h.aN (show Ext w w' from hw'.at) (fun _ _ h=>h));rw[hf]at this;exact this)) rfl ?_;rintro⟨D_,p_,c_,q_,d_⟩ hD_;dsimp only)|(refine aa.aj (f:=137) ?_;refine aa.av rfl rfl rfl (fun w' hw'=>gV B m v b w' (h.aN (show Ext w w' from hw'.at) (fun _ _ h=>h))) ?_)|fail)
  all_goals exact am
 |some f=>
  have hl:=hL f hf
  cases hg:cJ (bM m) b with
  |none=>
   rw[show bZ m ⟨op,a,b,n,kind,val,index,types,labels⟩=(dF,11)from by unfold bZ;dsimp only;rw[hf,hg]]
   refine MG ?_
   repeat'(first|refine ar ?_|(refine NV fun b_=>?_)|refine oz ?_|(refine aa.aj (f:=43) ?_;refine aa.he (HE.mV (r:=some f) ak rfl rfl (fun w' hw'=>by have:=kf B m v a w' (h.aN (show Ext w w' from hw'.at) (fun _ _ h=>h));rw[hf]at this;exact this)) rfl ?_;rintro⟨D_,p_,c_,q_,d_⟩ hD_;dsimp only)|(refine aa.aj (f:=137) ?_;refine aa.av (v:=.tuple #[.agg #[.int .i64 0,.int .i64 0,.int .i64 0,.bool false],.bool false]) rfl rfl rfl (fun w' hw'=>by have:=gV B m v b w' (h.aN (show Ext w w' from hw'.at) (fun _ _ h=>h));rw[hg]at this;exact this) ?_)|fail)
   all_goals exact am
  |some g=>
   obtain⟨te,l1,l2,l3⟩:=g
   by_cases h3:te=3
   ·subst h3
    rw[show bZ m ⟨op,a,b,n,kind,val,index,types,labels⟩=(⟨f.params++[1],f.results⟩,0)from by unfold bZ;dsimp only;rw[hf,hg];rfl]
    refine MG ?_
    repeat'(first|refine ar ?_|(refine NV fun b_=>?_)|(refine aa.aj (f:=137) ?_;refine aa.av (v:=.tuple #[.agg #[.int .i64 3,.int .i64 l1,.int .i64 l2,.bool l3],.bool true]) rfl rfl rfl (fun w' hw'=>by have:=gV B m v b w' (h.aN (show Ext w w' from hw'.at) (fun _ _ h=>h));rw[hg]at this;exact this) ?_)|fail)
    refine aa.he (HE.tB (M0:=[]) rfl rfl (fun w' hw'=>by have:=sr B w.heap.size m v a w' (h.aN (show Ext w w' from hw'.at) (fun _ _ h=>h)) (show Ext w w' from hw'.at).size;rw[hf]at this;exact this)) rfl ?_
    rintro⟨v1,v2⟩ _
    dsimp only[Gk,List.cons_append,List.nil_append,Option.getD_some]
    refine aa.pure (φ:=(∃p c,v1=.slice p f.params.length c)∧∃p c,v2=.slice p f.results.length c∧f.results.length≤17592186044416) (fun w' hw'=>⟨?_,?_⟩) ?_
    ·obtain⟨p,c,e,_⟩:=aw (hw'.own (v:=v1));exact⟨p,c,e⟩
    ·obtain⟨p,c,e,_⟩:=aw (hw'.own (v:=v2));exact⟨p,c,e,hl.2⟩
    rintro⟨⟨q1,d1,rfl⟩,⟨q2,d2,rfl,hl2⟩⟩
    repeat'(first|refine ar ?_|(refine NW fun b_=>?_)|(refine aa.aj (f:=137) ?_;refine aa.av (v:=.tuple #[.agg #[.int .i64 3,.int .i64 l1,.int .i64 l2,.bool l3],.bool true]) rfl rfl rfl (fun w' hw'=>by have:=gV B m v b w' (h.aN (show Ext w w' from hw'.at) (fun _ _ h=>h));rw[hg]at this;exact this) ?_)|fail)
    rename_i b6
    refine bh.cI [.aW b6 [.slice q1 f.params.length d1,.slice q2 f.results.length d2] sy] [Ext w] bz aU ?_
    repeat'(first|refine pN ?_|(refine ax.lD ?_;refine ax.he rfl rfl (HE.jG rfl rfl rfl rfl rfl er Pk Pk) (fun _=>bz) (fun _=>aU) ?_;rintro b7 _)|(refine ax.rr ?_;refine ax.he rfl rfl (HE.gR [.int .i64 1] rfl rfl (fun _=>aH) (.inr ⟨_,0,rfl,ES bO⟩) rfl rfl rfl rfl Pk Pk Pk (fun u hu=>by rw[List.mem_singleton.1 hu];rfl) (by show(f.params.length+1)*8≤_;omega) Pi (fun w' hw'=>(show Ext w w' from hw'.at).size)) (fun _=>bz) (fun _=>aU) ?_;rintro v9 _;refine aP.pure (φ:=∃p c,v9=.slice p (f.params.length+1) c) (fun w' hw'=>by obtain⟨p,c,e,_⟩:=aw (hw'.own (v:=v9));exact⟨p,c,e⟩) ?_;rintro⟨p9,c9,rfl⟩)|(refine ax.dA 98 ?_;refine ax.he rfl rfl (HE.eU rfl rfl (fun w' hw'=>th p9 q2 (f.params.length+1) f.results.length c9 d2 w')) (fun _=>bz) (fun _=>aU) ?_;rintro⟨⟩ _)|(refine ax.nj ?_;refine ax.jO rfl (gj.bn _ rfl rfl rfl rfl rfl rfl aH rfl) (fun _=>bz) (fun _=>aU) ?_;rintro⟨⟩ _)|refine aP.nil O9 ?_|refine aP.any O9 ?_|exact aB.fin rfl|refine aB.skip O9 ?_|refine aB.go ?_ ?_)
    all_goals
     repeat'(first|refine ar ?_|fail)
     refine My ?_
     intro w' hw'
     have g1:ai (fun k=>w.heap.size≤k) w' (.slice p9 (f.params.length+1) c9) (f.params++[1]):=kW (xs:=f.params++[1]) (by have:=hw'.own (B:=w.heap.size) (T:=n8) (s:=1) (v:=.slice p9 (f.params.length+1) c9);simpa using this) Pe
     have g2:ai (fun k=>w.heap.size≤k) w' (.slice q2 f.results.length d2) f.results:=kW (hw'.own (B:=w.heap.size) (T:=n8) (s:=1) (v:=.slice q2 f.results.length d2)) hl2
     exact⟨⟨(_,_),rfl,g1.mono fun _ _ h=>.inr h,g2.mono fun _ _ h=>.inr h⟩,hw'.at⟩
   ·rw[show bZ m ⟨op,a,b,n,kind,val,index,types,labels⟩=(dF,12)from by unfold bZ;dsimp only;rw[hf,hg];dsimp only;rw[if_pos h3]]
    refine MG ?_
    repeat'(first|refine ar ?_|(refine NV fun b_=>?_)|refine oz ?_|(refine aa.aj (f:=43) ?_;refine aa.he (HE.mV (r:=some f) ak rfl rfl (fun w' hw'=>by have:=kf B m v a w' (h.aN (show Ext w w' from hw'.at) (fun _ _ h=>h));rw[hf]at this;exact this)) rfl ?_;rintro⟨D_,p_,c_,q_,d_⟩ hD_;dsimp only)|(refine aa.aj (f:=137) ?_;refine aa.av (v:=.tuple #[.agg #[.int .i64 te,.int .i64 l1,.int .i64 l2,.bool l3],.bool true]) rfl rfl rfl (fun w' hw'=>by have:=gV B m v b w' (h.aN (show Ext w w' from hw'.at) (fun _ _ h=>h));rw[hg]at this;exact this) ?_)|fail)
    all_goals exact am
def Bg (i:Int) (x:mw):Bool:=decide (x.kind=0) && decide (x.index=i)
theorem qA [Inhabited α] {l:List α} {f:α→Bool} {j:Nat} (hj:j<l.length):(l.take (j+1)).any f=((l.take j).any f || f (ix l j)):=by rw[bN hj,List.any_append];simp
theorem s7 {l:List α} {f:α→Bool} {j:Nat} (h:(l.take j).any f=true):l.any f=true:=by
 rw[List.any_eq_true]at h ⊢
 obtain⟨x,hx,h⟩:=h
 exact⟨x,List.mem_of_mem_take hx,h⟩
theorem E7 (m:af) (i:Int) (h0:0≤i) (h1:i<(gL m).length):nL m i=(m.aJ.any (Bg i) || m.globals.any (fun g=>named g.nN i) || m.elems.any (fun e=>e.items.any fun l=>named l i)):=by
 unfold nL d6 d4
 rw[decide_eq_true h0,decide_eq_true h1,PA,PA]
 unfold Bg
 rw[Bool.eq_iff_iff]
 simp only[Bool.true_and,Bool.or_eq_true]
 constructor
 ·rintro((h|h)|h)
  ·exact .inl (.inr h)
  ·exact .inr h
  ·exact .inl (.inl h)
 ·rintro((h|h)|h)
  ·exact .inr h
  ·exact .inl (.inl h)
  ·exact .inl (.inr h)
theorem zG (m:af) (i:Int) (_h:¬(0≤i∧i<(gL m).length)):nL m i=false:=by
 unfold nL
 by_cases a:0≤i
 ·rw[decide_eq_false (show¬i<((gL m).length:Int)by omega)];simp
 ·rw[decide_eq_false a];simp
theorem oC (m:af) (i:Int) (cs:List Value) (w:World) (hm:au F w cs m):Calls G.P 177 #[.agg cs.toArray,.int .i64 i] w fun e w'=>e=.returned (.bool (nL m i))∧Ext w w':=by
 have hm0:=hm
 obtain⟨v0,v1,v2,v3,v4,v5,v6,v7,v8,v9,rfl,r0,r1,r2,r3,r4,r5,r6,r7,r8,r9,g0⟩:=hm;obtain⟨p0,c0,rfl,l0⟩:=r0.slice;obtain⟨p1,c1,rfl,l1⟩:=r1.slice;obtain⟨p2,c2,rfl,l2⟩:=r2.slice;obtain⟨p3,c3,rfl,l3⟩:=r3.slice;obtain⟨p4,c4,rfl,l4⟩:=r4.slice;obtain⟨p5,c5,rfl,l5⟩:=r5.slice;obtain⟨p6,c6,rfl,l6⟩:=r6.slice;obtain⟨p7,c7,rfl,l7⟩:=r7.slice;obtain⟨p8,c8,rfl,l8⟩:=r8.slice;obtain⟨p9,c9,rfl,l9⟩:=r9.slice
 have hfn:∀w',Ext w w'→Calls G.P 196 #[.agg (([Pn p0 m.types.length c0,Pn p1 m.imports.length c1,Pn p2 m.funcs.length c2,Pn p3 m.tables.length c3,Pn p4 m.bQ.length c4,Pn p5 m.globals.length c5,Pn p6 m.aJ.length c6,Po m.aI,Pm .i64 m.start,Pn p7 m.elems.length c7,Pn p8 m.bg.length c8,Pn p9 m.bE.length c9]:List Value)).toArray] w' fun e w2=>e=.returned (.int .i64 (gL m).length)∧Ext w' w2:=fun w' hx=>Aj F m _ w' (hm0.aN hx (fun _ _ _ h=>h))
 by_cases h0:0≤i
 ·by_cases h1:i<(gL m).length
  ·rw[E7 m i h0 h1]
   refine MH ?_
   repeat'(first|refine ar ?_|fail)
   refine aa.box ([Pn p0 m.types.length c0,Pn p1 m.imports.length c1,Pn p2 m.funcs.length c2,Pn p3 m.tables.length c3,Pn p4 m.bQ.length c4,Pn p5 m.globals.length c5,Pn p6 m.aJ.length c6,Po m.aI,Pm .i64 m.start,Pn p7 m.elems.length c7,Pn p8 m.bg.length c8,Pn p9 m.bE.length c9]:List Value) rfl rfl rfl fun b=>?_
   repeat'(first|refine ar ?_|fail)
   refine aa.cB rfl rfl rfl rfl (fun w' hw'=>hfn w' hw'.at) ?_
   repeat'(first|refine ar ?_|fail)
   refine bh.loop (σ:=Nat) (fun j=>[(1,.int .i64 i),(2,.pointer (some ⟨b,0,none⟩)),(5,.int .i64 j)]) (fun _=>[.aW b ([Pn p0 m.types.length c0,Pn p1 m.imports.length c1,Pn p2 m.funcs.length c2,Pn p3 m.tables.length c3,Pn p4 m.bQ.length c4,Pn p5 m.globals.length c5,Pn p6 m.aJ.length c6,Po m.aI,Pm .i64 m.start,Pn p7 m.elems.length c7,Pn p8 m.bg.length c8,Pn p9 m.bE.length c9]:List Value) jI]) (fun _=>[Ext w]) (fun j=>j≤m.aJ.length∧(m.aJ.take j).any (Bg i)=false) (fun j=>m.aJ.length - j) 0 bH bz aU ⟨by omega,by simp⟩ ?_
   rintro j ⟨hj,hno⟩
   by_cases hjl:j<m.aJ.length
   ·obtain⟨b1,o1,rfl,hFb,he⟩:=r6.el hjl
    have k1:=he.kind
    have k2:=he.index
    have hst:=qA (f:=Bg i) hjl
    rw[hno,Qb]at hst
    by_cases g1:(ix m.aJ j).kind=0
    ·by_cases g2:(ix m.aJ j).index=i
     ·repeat'(first|refine ar ?_|fail)
      all_goals exact ah.aG rfl rfl fun w' hw'=>⟨by rw[s7 (l:=m.aJ) (j:=j+1) (by rw[hst];simp[Bg,g1,g2])];rfl,hw'.at⟩
     ·repeat'(first|refine ar ?_|fail)
      all_goals exact ah.next (j+1) bH bz aU ⟨by omega,by rw[hst];simp[Bg,g2]⟩ Pi
    ·repeat'(first|refine ar ?_|fail)
     all_goals exact ah.next (j+1) bH bz aU ⟨by omega,by rw[hst];simp[Bg,g1]⟩ Pi
   ·obtain rfl:j=m.aJ.length:=by omega
    rw[PA]at hno
    rw[hno,Qb]
    repeat'(first|refine ar ?_|fail)
    refine bh.loop (σ:=Nat) (fun j=>[(1,.int .i64 i),(2,.pointer (some ⟨b,0,none⟩)),(6,.int .i64 j)]) (fun _=>[.aW b ([Pn p0 m.types.length c0,Pn p1 m.imports.length c1,Pn p2 m.funcs.length c2,Pn p3 m.tables.length c3,Pn p4 m.bQ.length c4,Pn p5 m.globals.length c5,Pn p6 m.aJ.length c6,Po m.aI,Pm .i64 m.start,Pn p7 m.elems.length c7,Pn p8 m.bg.length c8,Pn p9 m.bE.length c9]:List Value) jI]) (fun _=>[Ext w]) (fun j=>j≤m.globals.length∧(m.globals.take j).any (fun g=>named g.nN i)=false) (fun j=>m.globals.length - j) 0 bH bz aU ⟨by omega,by simp⟩ ?_
    rintro j ⟨hj,hno2⟩
    by_cases hjl:j<m.globals.length
    ·obtain⟨b1,o1,rfl,hFb,he⟩:=r5.el hjl
     obtain⟨u,hu,hb⟩:=he.nN
     have hst:=qA (f:=fun g:gW=>named g.nN i) hjl
     rw[hno2,Qb]at hst
     cases hn:named (ix m.globals j).nN i with
     |true=>
      repeat'(first|refine ar ?_|(refine aa.aj (f:=197) ?_;refine aa.av (v:=.bool true) rfl rfl rfl (fun w' hw'=>by have:=mc F _ u i w' (hb.aN (show Ext w w' from hw'.at) (fun _ _ _ h=>h));rw[hn]at this;exact this) ?_)|fail)
      all_goals exact ah.aG rfl rfl fun w' hw'=>⟨by rw[s7 (l:=m.globals) (j:=j+1) (by rw[hst,hn])];rfl,hw'.at⟩
     |false=>
      repeat'(first|refine ar ?_|(refine aa.aj (f:=197) ?_;refine aa.av (v:=.bool false) rfl rfl rfl (fun w' hw'=>by have:=mc F _ u i w' (hb.aN (show Ext w w' from hw'.at) (fun _ _ _ h=>h));rw[hn]at this;exact this) ?_)|fail)
      all_goals exact ah.next (j+1) bH bz aU ⟨by omega,by rw[hst,hn]⟩ Pi
    ·obtain rfl:j=m.globals.length:=by omega
     rw[PA]at hno2
     rw[hno2,Qb]
     repeat'(first|refine ar ?_|fail)
     refine bh.loop (σ:=Nat) (fun j=>[(1,.int .i64 i),(2,.pointer (some ⟨b,0,none⟩)),(7,.int .i64 j)]) (fun _=>[.aW b ([Pn p0 m.types.length c0,Pn p1 m.imports.length c1,Pn p2 m.funcs.length c2,Pn p3 m.tables.length c3,Pn p4 m.bQ.length c4,Pn p5 m.globals.length c5,Pn p6 m.aJ.length c6,Po m.aI,Pm .i64 m.start,Pn p7 m.elems.length c7,Pn p8 m.bg.length c8,Pn p9 m.bE.length c9]:List Value) jI]) (fun _=>[Ext w]) (fun j=>j≤m.elems.length∧(m.elems.take j).any (fun e=>e.items.any fun l=>named l i)=false) (fun j=>m.elems.length - j) 0 bH bz aU ⟨by omega,by simp⟩ ?_
     rintro j ⟨hj,hno3⟩
     by_cases hjl:j<m.elems.length
     ·obtain⟨b1,o1,rfl,hFb,he⟩:=r7.el hjl
      obtain⟨u,hu,hb⟩:=he.items
      obtain⟨x2,y2,rfl,z2⟩:=hb.slice
      have hst:=qA (f:=fun e:qs=>e.items.any fun l=>named l i) hjl
      rw[hno3,Qb]at hst
      repeat'(first|refine ar ?_|fail)
      refine bh.loop (σ:=Nat) (fun k=>[(1,.int .i64 i),(2,.pointer (some ⟨b,0,none⟩)),(7,.int .i64 j),(8,.int .i64 k)]) (fun _=>[.aW b ([Pn p0 m.types.length c0,Pn p1 m.imports.length c1,Pn p2 m.funcs.length c2,Pn p3 m.tables.length c3,Pn p4 m.bQ.length c4,Pn p5 m.globals.length c5,Pn p6 m.aJ.length c6,Po m.aI,Pm .i64 m.start,Pn (some ⟨b1,o1,none⟩) m.elems.length c7,Pn p8 m.bg.length c8,Pn p9 m.bE.length c9]:List Value) jI]) (fun _=>[Ext w]) (fun k=>k≤(ix m.elems j).items.length∧((ix m.elems j).items.take k).any (fun l=>named l i)=false) (fun k=>(ix m.elems j).items.length - k) 0 bH bz aU ⟨by omega,by simp⟩ ?_
      rintro k ⟨hk,hno4⟩
      by_cases hkl:k<(ix m.elems j).items.length
      ·obtain⟨b2,o2,rfl,hF2,u2,k1,hb2⟩:=hb.el hkl
       rw[Nat.mul_one]at k1
       have hst2:=qA (f:=fun l:List cv=>named l i) hkl
       rw[hno4,Qb]at hst2
       cases hn:named (ix (ix m.elems j).items k) i with
       |true=>
        repeat'(first|refine ar ?_|(refine aa.aj (f:=197) ?_;refine aa.av (v:=.bool true) rfl rfl rfl (fun w' hw'=>by have:=mc F _ u2 i w' (hb2.aN (show Ext w w' from hw'.at) (fun _ _ _ h=>h));rw[hn]at this;exact this) ?_)|fail)
        all_goals exact ah.aG rfl rfl fun w' hw'=>⟨by rw[s7 (l:=m.elems) (j:=j+1) (by rw[hst];exact s7 (j:=k+1) (by rw[hst2,hn]))],hw'.at⟩
       |false=>
        repeat'(first|refine ar ?_|(refine aa.aj (f:=197) ?_;refine aa.av (v:=.bool false) rfl rfl rfl (fun w' hw'=>by have:=mc F _ u2 i w' (hb2.aN (show Ext w w' from hw'.at) (fun _ _ _ h=>h));rw[hn]at this;exact this) ?_)|fail)
        all_goals exact ah.next (k+1) bH bz aU ⟨by omega,by rw[hst2,hn]⟩ Pi
      ·obtain rfl:k=(ix m.elems j).items.length:=by omega
       rw[PA]at hno4
       repeat'(first|refine ar ?_|fail)
       all_goals exact ah.next (j+1) bH bz aU ⟨by omega,by rw[hst,hno4]⟩ Pi
     ·obtain rfl:j=m.elems.length:=by omega
      rw[PA]at hno3
      rw[hno3]
      repeat'(first|refine ar ?_|fail)
      all_goals exact gt
  ·rw[zG m i Pi]
   refine MH ?_
   repeat'(first|refine ar ?_|fail)
   refine aa.box ([Pn p0 m.types.length c0,Pn p1 m.imports.length c1,Pn p2 m.funcs.length c2,Pn p3 m.tables.length c3,Pn p4 m.bQ.length c4,Pn p5 m.globals.length c5,Pn p6 m.aJ.length c6,Po m.aI,Pm .i64 m.start,Pn p7 m.elems.length c7,Pn p8 m.bg.length c8,Pn p9 m.bE.length c9]:List Value) rfl rfl rfl fun b=>?_
   repeat'(first|refine ar ?_|fail)
   refine aa.cB rfl rfl rfl rfl (fun w' hw'=>hfn w' hw'.at) ?_
   repeat'(first|refine ar ?_|fail)
   all_goals exact gt
 ·rw[zG m i Pi]
  refine MH ?_
  repeat'(first|refine ar ?_|fail)
  refine aa.box ([Pn p0 m.types.length c0,Pn p1 m.imports.length c1,Pn p2 m.funcs.length c2,Pn p3 m.tables.length c3,Pn p4 m.bQ.length c4,Pn p5 m.globals.length c5,Pn p6 m.aJ.length c6,Po m.aI,Pm .i64 m.start,Pn p7 m.elems.length c7,Pn p8 m.bg.length c8,Pn p9 m.bE.length c9]:List Value) rfl rfl rfl fun b=>?_
  repeat'(first|refine ar ?_|fail)
  all_goals exact gt
end Go.Proofs.YtdkcljdfbemnbaaGreatDoor
