/- Layer 23: the small functions that give signatures. -/
import Derived.Test.YtgbgnipidakdhaaGreatDoorJGd
import Derived.Test.YtgbgnipidakdhaaGreatDoorJGp
import Derived.Test.YtgbgnipidakdhaaGreatDoorJSf
import Derived.Test.YtgbgnipidakdhaaGreatDoorJRg
namespace Go.Proofs.YtgbgnipidakdhaaGreatDoor
open Go.RowKit
set_option maxRecDepth 100000
theorem lg {M:List a8} {R:List (World→Prop)} {w0 w:World} {b T n c:Nat} {cs:List Value} {D:Nat→Prop} (xs:List Int) (h:Ok M R w) (hR:Ext w0∈R) (hD:∀k,w0.heap.size≤k→D k) (hm:a8.aT b cs T∈M:=by repeat(first|with_reducible exact List.mem_cons_self|apply List.mem_cons_of_mem)) (hcs:cs=xs.map (Value.int .i64):=by rfl) (hn:n=xs.length:=by rfl) (hl:xs.length≤1000:=by simp):af D w (.slice (some ⟨b,0,none⟩) n c) xs:=by
 subst hcs hn
 have hb:gO w b (xs.map (Value.int .i64)) T:=(h.m _ hm).1
 refine⟨_,c,rfl,by omega,.inr ⟨b,0,rfl,hD b ?_,fun i hi=>?_⟩⟩
 ·rcases Nat.lt_or_ge b w0.heap.size with hlt|hge
  ·exact(h.origin (S:=fun _=>False) hR b ⟨_,hm,rfl⟩ hlt).elim
  ·exact hge
 ·rw[Nat.zero_add];exact hb.cell LL
theorem cP {p:Prop} (h:p:=by first|exact af.bR _ _|exact lg _ hw' ak (hD:=fun _ h=>.inr h)):p:=h
theorem rq (e0:Int) (w:World):Calls G.P 84 #[.int .i64 e0] w fun e w'=>e=.returned (.tuple #[.agg #[.slice none 0 0,.slice none 0 0],.int .i64 e0])∧Ext w w':=by
 refine ae (l:=[_]) Tryz.func84 rfl Tryz.ntmps84 rfl (Ok.start w) ?_
 repeat'(first|refine ar ?_|(refine KP fun b_=>?_)|fail)
 all_goals exact ci
theorem qz (p0 p1:Option Addr) (n0 n1 c0 c1:Nat) (w:World):Calls G.P 79 #[.slice p0 n0 c0,.slice p1 n1 c1] w fun e w'=>e=.returned (.tuple #[.agg #[.slice p0 n0 c0,.slice p1 n1 c1],.int .i64 0])∧Ext w w':=by
 refine ae (l:=[_,_]) Tryz.func79 rfl Tryz.ntmps79 rfl (Ok.start w) ?_
 repeat'(first|refine ar ?_|(refine KP fun b_=>?_)|fail)
 all_goals exact ci
theorem m6 {g g':Prop} (h:g') (hw:dS g'→g:=by(intro hk_;(first|(refine aa.ai (f:=84) ?_;refine aa.aq rfl rfl rfl (fun w' hw'=>rq _ w') ?_)|(refine aa.ai (f:=79) ?_;refine aa.aq rfl rfl rfl (fun w' hw'=>qz _ _ _ _ _ _ w') ?_));exact hk_.out)):g:=hw ⟨h⟩
def ec (locals:List Int) (x:cJ):aL×Int:=if(locals.length:Int)≤x.a then(dy,11)else if x.op=32 then(⟨[],[ix locals x.a.toNat]⟩,0)else if x.op=33 then(⟨[ix locals x.a.toNat],[]⟩,0)else(⟨[ix locals x.a.toNat],[ix locals x.a.toNat]⟩,0)
def cX (m:aj) (x:cJ):aL×Int:=match cx (fA m) x.a with
 |none=>(dy,11)
 |some g=>if x.op=35 then(⟨[],[g.mH]⟩,0)else if g.qb=false then(dy,18)else(⟨[g.mH],[]⟩,0)
def cU (m:aj) (x:cJ):aL×Int:=match cx (bA m) x.a with
 |none=>(dy,11)
 |some t=>if x.op=37 then(⟨[1],[t.elem]⟩,0)else if x.op=38 then(⟨[1,t.elem],[]⟩,0)else if x.op=64528 then(⟨[],[1]⟩,0)else if x.op=64527 then(⟨[t.elem,1],[1]⟩,0)else(⟨[1,t.elem,1],[]⟩,0)
def ia (r:aL×Int) (F:Nat→Prop) (w:World):Ending→World→Prop:=bg (dr r.1) (fun y:Value×Value=>.tuple #[.agg #[y.1,y.2],.int .i64 r.2]) F w
set_option maxHeartbeats 4000000 in
theorem zm (F:Nat→Prop) (locals:List Int) (x:cJ) (lp pt pl:Option Addr) (lc ct cl:Nat) (w:World) (hl:af F w (.slice lp locals.length lc) locals) (ha:0≤x.a):Calls G.P 80 #[.slice lp locals.length lc,.agg #[Value.int .i64 x.op,Value.int .i64 x.a,Value.int .i64 x.b,Value.int .u64 x.n,Value.int .i64 x.kind,Value.int .i64 x.val,Value.int .i64 x.index,Value.slice pt x.types.length ct,Value.slice pl x.labels.length cl]] w (ia (ec locals x) (fun _=>False) w):=by
 obtain⟨op,a,b,n,kind,val,index,types,labels⟩:=x
 dsimp only at ha ⊢
 obtain⟨j,rfl⟩:=Int.eq_ofNat_of_zero_le ha
 by_cases hj:j<locals.length
 ·obtain⟨bk,o,rfl,hF,hc⟩:=hl.at hj
  have hcj:=hc j hj
  by_cases h1:op=32
  ·subst h1
   rw[show ec locals ⟨32,(j:Nat),b,n,kind,val,index,types,labels⟩=(⟨[],[ix locals j]⟩,0)from by unfold ec;dsimp only;rw[if_neg Mj,if_pos rfl,Int.toNat_natCast]]
   refine FS ?_
   repeat'(first|refine ar ?_|(refine KO fun b_=>?_)|(refine eH fun b_ _=>?_)|refine m6 ?_|fail)
   all_goals exact co
  ·by_cases h2:op=33
   ·subst h2
    rw[show ec locals ⟨33,(j:Nat),b,n,kind,val,index,types,labels⟩=(⟨[ix locals j],[]⟩,0)from by unfold ec;dsimp only;rw[if_neg Mj,if_neg h1,if_pos rfl,Int.toNat_natCast]]
    refine FS ?_
    repeat'(first|refine ar ?_|(refine KO fun b_=>?_)|(refine eH fun b_ _=>?_)|refine m6 ?_|fail)
    all_goals exact co
   ·rw[show ec locals ⟨op,(j:Nat),b,n,kind,val,index,types,labels⟩=(⟨[ix locals j],[ix locals j]⟩,0)from by unfold ec;dsimp only;rw[if_neg Mj,if_neg h1,if_neg h2,Int.toNat_natCast]]
    refine FS ?_
    repeat'(first|refine ar ?_|(refine KO fun b_=>?_)|(refine eH fun b_ _=>?_)|refine m6 ?_|fail)
    all_goals exact co
 ·rw[show ec locals ⟨op,(j:Nat),b,n,kind,val,index,types,labels⟩=(dy,11)from if_pos LT]
  refine FS ?_
  repeat'(first|refine ar ?_|(refine KO fun b_=>?_)|(refine eH fun b_ _=>?_)|refine m6 ?_|fail)
  all_goals exact co
set_option maxHeartbeats 4000000 in
theorem xe (B:Nat) (m:aj) (v:Value) (x:cJ) (pt pl:Option Addr) (ct cl:Nat) (w:World) (h:bL B m w v):Calls G.P 81 #[v,.agg #[Value.int .i64 x.op,Value.int .i64 x.a,Value.int .i64 x.b,Value.int .u64 x.n,Value.int .i64 x.kind,Value.int .i64 x.val,Value.int .i64 x.index,Value.slice pt x.types.length ct,Value.slice pl x.labels.length cl]] w (ia (cX m x) (fun _=>False) w):=by
 obtain⟨op,a,b,n,kind,val,index,types,labels⟩:=x
 dsimp only
 cases hg:cx (fA m) a with
 |none=>
  rw[show cX m ⟨op,a,b,n,kind,val,index,types,labels⟩=(dy,11)from by unfold cX;dsimp only;rw[hg]]
  refine GE ?_
  repeat'(first|refine ar ?_|(refine KO fun b_=>?_)|(refine eH fun b_ _=>?_)|refine m6 ?_|(refine aa.ai (f:=133) ?_;refine aa.aq (v:=.tuple #[.agg #[.int .i64 0,.bool false],.bool false]) rfl rfl rfl (fun w' hw'=>by have:=jL B m v a w' (h.aO (show Ext w w' from hw'.at) (fun _ _ h=>h));rw[hg]at this;exact this) ?_)|fail)
  all_goals exact co
 |some g=>
  obtain⟨gv,gm⟩:=g
  by_cases h1:op=35
  ·subst h1
   rw[show cX m ⟨35,a,b,n,kind,val,index,types,labels⟩=(⟨[],[gv]⟩,0)from by unfold cX;dsimp only;rw[hg];rfl]
   refine GE ?_
   repeat'(first|refine ar ?_|(refine KO fun b_=>?_)|(refine eH fun b_ _=>?_)|refine m6 ?_|(refine aa.ai (f:=133) ?_;refine aa.aq (v:=.tuple #[.agg #[.int .i64 gv,.bool gm],.bool true]) rfl rfl rfl (fun w' hw'=>by have:=jL B m v a w' (h.aO (show Ext w w' from hw'.at) (fun _ _ h=>h));rw[hg]at this;exact this) ?_)|fail)
   all_goals exact co
  ·cases gm with
   |false=>
    rw[show cX m ⟨op,a,b,n,kind,val,index,types,labels⟩=(dy,18)from by unfold cX;dsimp only;rw[hg];dsimp only;rw[if_neg h1,if_pos rfl]]
    refine GE ?_
    repeat'(first|refine ar ?_|(refine KO fun b_=>?_)|(refine eH fun b_ _=>?_)|refine m6 ?_|(refine aa.ai (f:=133) ?_;refine aa.aq (v:=.tuple #[.agg #[.int .i64 gv,.bool false],.bool true]) rfl rfl rfl (fun w' hw'=>by have:=jL B m v a w' (h.aO (show Ext w w' from hw'.at) (fun _ _ h=>h));rw[hg]at this;exact this) ?_)|fail)
    all_goals exact co
   |true=>
    rw[show cX m ⟨op,a,b,n,kind,val,index,types,labels⟩=(⟨[gv],[]⟩,0)from by unfold cX;dsimp only;rw[hg];dsimp only;rw[if_neg h1,if_neg Mh]]
    refine GE ?_
    repeat'(first|refine ar ?_|(refine KO fun b_=>?_)|(refine eH fun b_ _=>?_)|refine m6 ?_|(refine aa.ai (f:=133) ?_;refine aa.aq (v:=.tuple #[.agg #[.int .i64 gv,.bool true],.bool true]) rfl rfl rfl (fun w' hw'=>by have:=jL B m v a w' (h.aO (show Ext w w' from hw'.at) (fun _ _ h=>h));rw[hg]at this;exact this) ?_)|fail)
    all_goals exact co
theorem n7 (F:Nat→Prop) (m:aj) (i:Int) (cs:List Value) (w:World) (hm:ay F w cs m):Calls G.P 101 #[.agg cs.toArray,.int .i64 i] w fun e w'=>e=.returned (.tuple #[.int .i64 ((cx (dA m) i).getD 0),.bool (cx (dA m) i).isSome])∧Ext w w':=by
 obtain⟨v0,v1,v2,v3,v4,v5,v6,v7,v8,v9,rfl,r0,r1,r2,r3,r4,r5,r6,r7,r8,r9,g0⟩:=hm
 obtain⟨p7,c7,rfl,l7⟩:=r7.slice
 by_cases hin:0≤i∧i<m.elems.length
 ·obtain⟨j,rfl⟩:=Int.eq_ofNat_of_zero_le hin.1
  have hj:j<m.elems.length:=by omega
  obtain⟨b,o,rfl,hF,he⟩:=r7.el hj
  have hc:=he.eD
  have e:cx (dA m) (j:Nat)=some (ix m.elems j).eD:=by unfold dA;rw[jG (by simpa using hj),pz hj]
  rw[e]
  refine ae (l:=[_,_]) Tryz.func101 rfl Tryz.ntmps101 rfl (Ok.start w) ?_
  repeat'(first|refine ar ?_|(refine aC fun b_=>?_)|(refine a7 ?_ ?_<;>intro hc_))
  all_goals exact ah.nz rfl rfl rfl fun w' hw'=>⟨by rfl,hw'.at⟩
 ·have e:cx (dA m) i=none:=iA (by unfold dA;simpa using hin)
  rw[e]
  refine ae (l:=[_,_]) Tryz.func101 rfl Tryz.ntmps101 rfl (Ok.start w) ?_
  repeat'(first|refine ar ?_|(refine aC fun b_=>?_)|(refine a7 ?_ ?_<;>intro hc_))
  all_goals first|omega|exact ah.nz rfl rfl rfl fun w' hw'=>⟨by rfl,hw'.at⟩
theorem pF (F:Nat→Prop) (m:aj) (cs:List Value) (w:World) (hm:ay F w cs m):Calls G.P 103 #[.agg cs.toArray] w fun e w'=>e=.returned (.int .i64 m.bD.length)∧Ext w w':=by
 obtain⟨v0,v1,v2,v3,v4,v5,v6,v7,v8,v9,rfl,r0,r1,r2,r3,r4,r5,r6,r7,r8,r9,g0⟩:=hm
 obtain⟨p8,c8,rfl,l8⟩:=r8.slice
 refine ae (l:=[_]) Tryz.func103 rfl Tryz.ntmps103 rfl (Ok.start w) ?_
 repeat'(first|refine ar ?_|(refine aC fun b_=>?_)|fail)
 all_goals exact dl
theorem yY (m:aj):(fX m).length=j9 m 0+m.funcs.length:=by unfold fX pn;rw[List.length_append,List.length_map,List.length_map,Ae]
theorem xz (F:Nat→Prop) (m:aj) (cs:List Value) (w:World) (hm:ay F w cs m):Calls G.P 172 #[.agg cs.toArray] w fun e w'=>e=.returned (.int .i64 (fX m).length)∧Ext w w':=by
 have hm0:=hm
 obtain⟨v0,v1,v2,v3,v4,v5,v6,v7,v8,v9,rfl,r0,r1,r2,r3,r4,r5,r6,r7,r8,r9,g0⟩:=hm
 obtain⟨p1,c1,rfl,l1⟩:=r1.slice
 obtain⟨p2,c2,rfl,l2⟩:=r2.slice
 have hle:=Ai m 0
 have hfl:=yY m
 obtain⟨z,hz⟩:∃z,j9 m 0=z:=⟨_,rfl⟩
 obtain⟨y,hy⟩:∃y,(fX m).length=y:=⟨_,rfl⟩
 rw[hz]at hle hfl
 rw[hy]at hfl ⊢
 subst hfl
 refine ae (l:=[_]) Tryz.func172 rfl Tryz.ntmps172 rfl (Ok.start w) ?_
 refine bQ ?_
 refine aa.box _ rfl rfl rfl fun b=>?_
 refine bQ ?_
 refine GT ?_
 refine bQ ?_
 refine aw.mT (v:=.int .i64 (z:Nat)) rfl rfl rfl (fun w' hw'=>by have:=mU F m 0 _ w' (hm0.aO (show Ext w w' from hw'.at) (fun _ _ _ h=>h));rw[hz]at this;exact this) ?_
 refine bQ ?_
 exact ah.aB rfl rfl fun w' hw'=>⟨by rw[Int.natCast_add],hw'.at⟩
theorem yA {l:List cJ} {k:Int} {j:Nat} (hj:j<l.length):named (l.take (j+1)) k=(named (l.take j) k || (decide ((ix l j).op=210) && decide ((ix l j).a=k))):=by
 rw[bE hj,uy];unfold named;simp
theorem BA {l:List cJ} {k:Int} {j:Nat} (h:named (l.take j) k=true):named l k=true:=by
 unfold named at*
 rw[List.any_eq_true]at h ⊢
 obtain⟨x,hx,h⟩:=h
 exact⟨x,List.mem_of_mem_take hx,h⟩
set_option maxHeartbeats 4000000 in
theorem kK (F:Nat→Prop) (xs:List cJ) (v:Value) (i:Int) (w:World) (h:gR F w v xs):Calls G.P 173 #[v,.int .i64 i] w fun e w'=>e=.returned (.bool (named xs i))∧Ext w w':=by
 obtain⟨p,c,rfl,hl⟩:=h.slice
 refine ae (l:=[_,_]) Tryz.func173 rfl Tryz.ntmps173 rfl (Ok.start w) ?_
 refine bQ ?_
 refine aZ.loop (σ:=Nat) (fun j=>[(0,.slice p xs.length c),(1,.int .i64 i),(5,.int .i64 j)]) (fun _=>[]) (fun _=>[Ext w]) (fun j=>j≤xs.length∧named (xs.take j) i=false) (fun j=>xs.length - j) 0 bJ bc aV ⟨by omega,by simp[named]⟩ ?_
 rintro j ⟨hj,hnot⟩
 by_cases hjl:j<xs.length
 ·obtain⟨b7,o7,rfl,-,hall⟩:=h.at hjl
  have hop:=(hall j hjl).op
  have ha:=(hall j hjl).a
  have hst:=yA (k:=i) hjl
  rw[hnot,Bool.false_or]at hst
  by_cases h1:(ix xs j).op=210
  ·by_cases h2:(ix xs j).a=i
   ·repeat'(first|refine ar ?_|fail)
    all_goals refine ah.aB rfl rfl fun w' hw'=>⟨?_,hw'.at⟩
    all_goals rw[BA (j:=j+1) (by rw[hst];simp[h1,h2])]
   ·repeat'(first|refine ar ?_|fail)
    all_goals exact ah.next (j+1) bJ bc aV ⟨by omega,by rw[hst];simp[h1,h2]⟩ Mj
  ·repeat'(first|refine ar ?_|fail)
   all_goals exact ah.next (j+1) bJ bc aV ⟨by omega,by rw[hst];simp[h1]⟩ Mj
 ·obtain rfl:j=xs.length:=by omega
  rw[List.take_length]at hnot
  refine bQ ?_
  exact ah.aB rfl rfl fun w' hw'=>⟨by rw[hnot],hw'.at⟩
theorem dr.shape {f:aL} {D:Nat→Prop} {w:World} {u0 u1:Value} (h:dr f D w (u0,u1)):(∃p c,u0=.slice p f.params.length c)∧∃p c,u1=.slice p f.results.length c:=by
 obtain⟨p,c,e,_⟩:=h.1.slice
 obtain⟨p2,c2,e2,_⟩:=h.2.slice
 exact⟨⟨p,c,e⟩,⟨p2,c2,e2⟩⟩
structure AM where
 D:Nat→Prop
 p:Option Addr
 c:Nat
 q:Option Addr
 d:Nat
def qJ (f:aL) (x:AM):World→Prop:=fun w=>dr f x.D w (.slice x.p f.params.length x.c,.slice x.q f.results.length x.d)
section
variable {n:Nat} {E:Env} {M M':List a8} {R R':List (World→Prop)} {w:World}
theorem HE.C1 {f0:aL} {tf:Value→Value→Value} {F:Nat→Prop} {w0:World} {f:Nat} {args:List Operand} {tys:Array TypeId} {vs:List Value} (hR:Ext w0∈R) (hF:∀k,F k→k<w0.heap.size) (hf:G.fb[f]?=some true) (ha:jQ E args=some vs)
  (hc:∀w,Ok M R w→Calls G.P f vs.toArray w (bg (dr f0) (fun y:Value×Value=>tf y.1 y.2) F w)):
  HE n (.call ⟨.value (.func f),args.toArray,tys⟩) E M R (fun x:AM=>∀k,x.D k→F k∨w0.heap.size≤k) (fun x=>tf (.slice x.p f0.params.length x.c) (.slice x.q f0.results.length x.d)) (fun _=>M) (fun x=>qJ f0 x::R):=
 ⟨fun w hw=>(ck.call hf ha (hc w hw) (fun e w' h=>by obtain⟨⟨x,e1,_⟩,_⟩:=h;exact⟨_,e1⟩)).mono fun v w' ⟨⟨⟨x1,x2⟩,e1,hv⟩,hx⟩=>by
  cases e1
  obtain⟨⟨p,c,rfl⟩,⟨q,d,rfl⟩⟩:=hv.shape
  refine⟨⟨fun k=>F k∨w.heap.size≤k,p,c,q,d⟩,?_,rfl,(hw.ext hx).add fun w2 h2=>dr.fr f0 hv h2 fun k hk1 hk hm=>?_⟩
  ·rintro k (h|h)
   ·exact .inl h
   ·exact .inr (Nat.le_trans (show Ext w0 w from hw.get hR).size h)
  ·rcases hk with hk|hk
   ·exact hw.origin (S:=fun _=>False) hR k hm (hF k hk)
   ·obtain⟨q,hq,hk'⟩:=hm
    have:=(hw.m q hq).2 k hk';omega⟩
theorem bg.iI {f0:aL} {tf:Value×Value→Value} {F:Nat→Prop} {w0 w':World} (x:AM) (h:Ok M R w') (hr:qJ f0 x∈R) (hR:Ext w0∈R) (hD:∀k,x.D k→F k∨w0.heap.size≤k):bg (dr f0) tf F w0 (.returned (tf (.slice x.p f0.params.length x.c,.slice x.q f0.results.length x.d))) w':=
 ⟨⟨_,rfl,dr.mono (D:=x.D) (h.get hr) hD⟩,h.get hR⟩
theorem bg.H0 {tf:Value×Value→Value} {F:Nat→Prop} {w0 w':World} (h:Ok M R w') (hR:Ext w0∈R):bg (dr dy) tf F w0 (.returned (tf (.slice none 0 0,.slice none 0 0))) w':=⟨⟨_,rfl,dr.nil _ _⟩,h.get hR⟩
theorem bg.EJ {β:Type} {V:(Nat→Prop)→World→β→Prop} (hm:∀{D H:Nat→Prop} {w:World} {x:β},V D w x→(∀k,D k→H k)→V H w x) {tf:β→Value} {F H:Nat→Prop} {w w':World} {e:Ending} (h:bg V tf F w e w') (hF:∀k,F k→H k):bg V tf H w e w':=by
 obtain⟨⟨x,e1,hv⟩,hx⟩:=h
 exact⟨⟨x,e1,hm hv fun k hk=>hk.imp (hF k) id⟩,hx⟩
theorem Fb {B:Nat} {f:aL} {x:Value×Value} {w:World} (h1:w.ownsRow B m7 1 x.1 f.params.length (f.params.map (Value.int .i64))) (h2:w.ownsRow B m7 1 x.2 f.results.length (f.results.map (Value.int .i64))) (l1:f.params.length≤17592186044416) (l2:f.results.length≤17592186044416):dr f (fun k=>B≤k) w x:=⟨j0 h1 l1,j0 h2 l2⟩
end
def iZ (r:Option aL) (F:Nat→Prop) (w:World):Ending→World→Prop:=bg (dr (r.getD dy)) (fun x:Value×Value=>.tuple #[.agg #[x.1,x.2],.bool r.isSome]) F w
section
variable {n:Nat} {E:Env} {M:List a8} {R:List (World→Prop)} {w0:World} {f:Nat} {args:List Operand} {tys:Array TypeId} {vs:List Value} {F:Nat→Prop}
theorem HE.BJ {r:Option aL} (hR:Ext w0∈R) (hF:∀k,F k→k<w0.heap.size) (hf:G.fb[f]?=some true) (ha:jQ E args=some vs) (hc:∀w,Ok M R w→Calls G.P f vs.toArray w (iZ r F w)):
  HE n (.call ⟨.value (.func f),args.toArray,tys⟩) E M R (fun x:AM=>∀k,x.D k→F k∨w0.heap.size≤k) (fun x=>.tuple #[.agg #[.slice x.p (r.getD dy).params.length x.c,.slice x.q (r.getD dy).results.length x.d],.bool r.isSome]) (fun _=>M) (fun x=>qJ (r.getD dy) x::R):=
 HE.C1 (tf:=fun u v=>.tuple #[.agg #[u,v],.bool r.isSome]) hR hF hf ha hc
theorem HE.mM {r:Option aL} (hR:Ext w0∈R) (hf:G.fb[f]?=some true) (ha:jQ E args=some vs) (hc:∀w,Ok M R w→Calls G.P f vs.toArray w (iZ r (fun _=>False) w)):
  HE n (.call ⟨.value (.func f),args.toArray,tys⟩) E M R (fun x:AM=>∀k,x.D k→False∨w0.heap.size≤k) (fun x=>.tuple #[.agg #[.slice x.p (r.getD dy).params.length x.c,.slice x.q (r.getD dy).results.length x.d],.bool r.isSome]) (fun _=>M) (fun x=>qJ (r.getD dy) x::R):=HE.BJ hR (fun _ h=>h.elim) hf ha hc
theorem HE.ID {r:aL×Int} (hR:Ext w0∈R) (hF:∀k,F k→k<w0.heap.size) (hf:G.fb[f]?=some true) (ha:jQ E args=some vs) (hc:∀w,Ok M R w→Calls G.P f vs.toArray w (ia r F w)):
  HE n (.call ⟨.value (.func f),args.toArray,tys⟩) E M R (fun x:AM=>∀k,x.D k→F k∨w0.heap.size≤k) (fun x=>.tuple #[.agg #[.slice x.p r.1.params.length x.c,.slice x.q r.1.results.length x.d],.int .i64 r.2]) (fun _=>M) (fun x=>qJ r.1 x::R):=
 HE.C1 (tf:=fun u v=>.tuple #[.agg #[u,v],.int .i64 r.2]) hR hF hf ha hc
theorem HE.A3 {r:aL×Int} (hR:Ext w0∈R) (hf:G.fb[f]?=some true) (ha:jQ E args=some vs) (hc:∀w,Ok M R w→Calls G.P f vs.toArray w (ia r (fun _=>False) w)):
  HE n (.call ⟨.value (.func f),args.toArray,tys⟩) E M R (fun x:AM=>∀k,x.D k→False∨w0.heap.size≤k) (fun x=>.tuple #[.agg #[.slice x.p r.1.params.length x.c,.slice x.q r.1.results.length x.d],.int .i64 r.2]) (fun _=>M) (fun x=>qJ r.1 x::R):=HE.ID hR (fun _ h=>h.elim) hf ha hc
end
theorem jY (B0:Nat) (m:aj) (v:Value) (i:Int) (w:World) (h:bL B0 m w v):Calls G.P 106 #[v,.int .i64 i] w (iZ (cx m.types i) (fun _=>False) w):=by
 have hl:((cx m.types i).getD dy).params.length≤17592186044416∧((cx m.types i).getD dy).results.length≤17592186044416:=by
  obtain⟨bS,sp,im,dm,vs,tc,ig,dg,rfl,-,h⟩:=h
  obtain⟨p,c,e,hh⟩:=ET (i:=i) (jx h.ts) h.ty
  rcases hh with⟨-,hat⟩|⟨j,b,o,x0,x1,y0,y1,rfl,hj,rfl,hat,-,-,q0,q1⟩
  ·rw[hat];exact⟨by show 0≤_;omega,by show 0≤_;omega⟩
  ·rw[hat]
   obtain⟨_,_,_,h0⟩:=q0.slice
   obtain⟨_,_,_,h1⟩:=q1.slice
   exact⟨h0,h1⟩
 refine(pH B0 w.heap.size m v i w h (Nat.le_refl _)).mono fun e w' ⟨x,e1,_,hok,hch,_⟩=>?_
 subst e1
 have hx:Ext w w':=hch.mono (fun k _ hk=>by obtain⟨q,hq,-⟩:=hk;simp at hq)
 refine⟨⟨x,rfl,dr.mono (Fb ?_ ?_ hl.1 hl.2) fun k hk=>.inr hk⟩,hx⟩
 ·exact(hok.m (.own w.heap.size m7 1 x.1 _ _) (by simp[Di])).1
 ·exact(hok.m (.own w.heap.size m7 1 x.2 _ _) (by simp[Di])).1
theorem mr (B0:Nat) (m:aj) (v:Value) (i:Int) (w:World) (h:bL B0 m w v):Calls G.P 130 #[v,.int .i64 i] w (iZ (fS m i) (fun _=>False) w):=by
 have h0:=h
 obtain⟨bS,sp,im,dm,vs,tc,ig,dg,rfl,-,h⟩:=h
 have hb:=jx h.fs
 have c2:w.cell? ⟨sp,1,none⟩=some vs.fv:=h.x.cell rfl
 have et:(tR m).funcs=fX m:=by rw[nT]
 rw[et]at hb
 cases hat:cx (fX m) i with
 |none=>
  rw[show fS m i=none from by unfold fS;rw[hat];rfl]
  refine ae (l:=[_,_]) Tryz.func130 rfl Tryz.ntmps130 rfl (Ok.start w) ?_
  repeat'(first|refine ar ?_|(refine KP fun b_=>?_)|refine K0 ?_|(refine aa.ai (f:=161) ?_;refine aa.aq (v:=.tuple #[.int .i64 0,.bool false]) rfl rfl rfl (fun w' hw'=>by have:=B6 _ _ i w' (hb.ext hw'.at);rw[hat]at this;exact this) ?_)|fail)
  all_goals exact ah.aF (.inl rfl) rfl rfl rfl rfl rfl aA rfl rfl fun w' hw'=>bg.H0 (tf:=fun x:Value×Value=>.tuple #[.agg #[x.1,x.2],.bool false]) hw' ak
 |some t=>
  rw[show fS m i=cx m.types t from by unfold fS;rw[hat];rfl]
  refine ae (l:=[_,_]) Tryz.func130 rfl Tryz.ntmps130 rfl (Ok.start w) ?_
  repeat'(first|refine ar ?_|(refine KP fun b_=>?_)|refine K0 ?_|(refine aa.ai (f:=161) ?_;refine aa.aq (v:=.tuple #[.int .i64 t,.bool true]) rfl rfl rfl (fun w' hw'=>by have:=B6 _ _ i w' (hb.ext hw'.at);rw[hat]at this;exact this) ?_)|(refine aa.ai (f:=106) ?_;refine aa.he (HE.mM ak rfl rfl (fun w' hw'=>jY B0 m _ t w' (h0.aO (show Ext w w' from hw'.at) (fun _ _ h=>h)))) rfl ?_;rintro⟨D_,p_,c_,q_,d_⟩ hD_;dsimp only)|fail)
  all_goals exact ah.aF (.inl rfl) rfl rfl rfl rfl rfl aA rfl rfl fun w' hw'=>bg.iI (tf:=fun x:Value×Value=>.tuple #[.agg #[x.1,x.2],.bool (cx m.types t).isSome]) ⟨D_,p_,c_,q_,d_⟩ hw' ak ak hD_
def cA (m:aj) (k v i:Int):Option aL:=if k=0 then some dy else if k=1 then(if jo v=true then some ⟨[],[v]⟩else none)else if k=2 then cx m.types i else none
end Go.Proofs.YtgbgnipidakdhaaGreatDoor
