/- Layers 8 and 23: block types; the type of an instruction on functions and tables. -/
import Derived.Test.YtgbgnipidakdhaaGreatDoorJWb
namespace Go.Proofs.YtgbgnipidakdhaaGreatDoor
open Go.RowKit
set_option maxRecDepth 100000
theorem pK {g g':Prop} (h:g') (hw:dS g'→g:=by(intro hk_;(first|(refine aa.aK ?_;refine aa.y_ (Yl.uk Tryz.underlying51 rfl rfl) rfl ?_)|(refine aa.aK ?_;refine aa.yg Ml (Yl.uk Tryz.underlying58 rfl rfl) rfl ?_));exact hk_.out)):g:=hw ⟨h⟩
set_option maxHeartbeats 4000000 in
theorem mL (B0:Nat) (m:aj) (v:Value) (k t i:Int) (w:World) (h:bL B0 m w v):Calls G.P 43 #[v,.agg #[.int .i64 k,.int .i64 t,.int .i64 i]] w (iZ (cA m k t i) (fun _=>False) w):=by
 have h0:=h
 obtain⟨bS,sp,im,dm,vs,tc,ig,dg,rfl,-,h⟩:=h
 have c0:w.cell? ⟨bS,0,none⟩=some (.pointer (some ⟨sp,0,none⟩)):=h.s.cell rfl
 by_cases k0:k=0
 ·subst k0
  rw[show cA m 0 t i=some dy from rfl]
  refine H1 ?_
  repeat'(first|refine ar ?_|(refine KO fun b_=>?_)|(refine eH fun b_ _=>?_)|refine pK ?_|fail)
  all_goals exact co
 ·by_cases k1:k=1
  ·subst k1
   cases hv:jo t with
   |true=>
    rw[show cA m 1 t i=some ⟨[],[t]⟩from by unfold cA;rw[if_neg Mj,if_pos rfl,if_pos hv]]
    refine H1 ?_
    repeat'(first|refine ar ?_|(refine KO fun b_=>?_)|(refine eH fun b_ _=>?_)|refine pK ?_|(refine aa.ai (f:=105) ?_;refine aa.aq (v:=.bool true) rfl rfl rfl (fun w' hw'=>by have:=ve t w';rw[hv]at this;exact this) ?_)|fail)
    all_goals exact co
   |false=>
    rw[show cA m 1 t i=none from by unfold cA;rw[if_neg Mj,if_pos rfl,if_neg (by rw[hv];decide)]]
    refine H1 ?_
    repeat'(first|refine ar ?_|(refine KO fun b_=>?_)|(refine eH fun b_ _=>?_)|refine pK ?_|(refine aa.ai (f:=105) ?_;refine aa.aq (v:=.bool false) rfl rfl rfl (fun w' hw'=>by have:=ve t w';rw[hv]at this;exact this) ?_)|fail)
    all_goals exact co
  ·by_cases k2:k=2
   ·subst k2
    rw[show cA m 2 t i=cx m.types i from by unfold cA;rw[if_neg Mj,if_neg Mj,if_pos rfl]]
    refine H1 ?_
    repeat'(first|refine ar ?_|(refine KO fun b_=>?_)|(refine eH fun b_ _=>?_)|refine pK ?_|(refine aa.ai (f:=106) ?_;refine aa.he (HE.mM ak rfl rfl (fun w' hw'=>jY B0 m _ i w' (h0.aO (show Ext w w' from hw'.at) (fun _ _ h=>h)))) rfl ?_;rintro⟨D_,p_,c_,q_,d_⟩ hD_;dsimp only)|fail)
    all_goals(refine ah.aF (.inl rfl) rfl rfl rfl rfl rfl aA rfl rfl ?_;exact fun w' hw'=>bg.iI (tf:=fun x:Value×Value=>.tuple #[.agg #[x.1,x.2],.bool (cx m.types i).isSome]) ⟨D_,p_,c_,q_,d_⟩ hw' ak ak hD_)
   ·rw[show cA m k t i=none from by unfold cA;rw[if_neg k0,if_neg k1,if_neg k2]]
    refine H1 ?_
    repeat'(first|refine ar ?_|(refine KO fun b_=>?_)|(refine eH fun b_ _=>?_)|refine pK ?_|fail)
    all_goals exact co
def dH (m:aj) (x:cJ):aL×Int:=match fS m x.a with
 |none=>(dy,11)
 |some f=>if x.op=16 then(f,0)else if mB m x.a=true then(⟨[],[3]⟩,0)else(dy,22)
set_option maxHeartbeats 4000000 in
theorem tC (B:Nat) (m:aj) (v:Value) (x:cJ) (pt pl:Option Addr) (ct cl:Nat) (w:World) (h:bL B m w v) (ha:dV x.a):Calls G.P 77 #[v,.agg #[Value.int .i64 x.op,Value.int .i64 x.a,Value.int .i64 x.b,Value.int .u64 x.n,Value.int .i64 x.kind,Value.int .i64 x.val,Value.int .i64 x.index,Value.slice pt x.types.length ct,Value.slice pl x.labels.length cl]] w (ia (dH m x) (fun _=>False) w):=by
 obtain⟨op,a,b,n,kind,val,index,types,labels⟩:=x
 dsimp only at ha ⊢
 cases hf:fS m a with
 |none=>
  rw[show dH m ⟨op,a,b,n,kind,val,index,types,labels⟩=(dy,11)from by unfold dH;dsimp only;rw[hf]]
  refine Id ?_
  repeat'(first|refine ar ?_|(refine KO fun b_=>?_)|(refine eH fun b_ _=>?_)|refine m6 ?_|(refine aa.ai (f:=130) ?_;refine aa.he (HE.mM (r:=none) ak rfl rfl (fun w' hw'=>by have:=mr B m v a w' (h.aO (show Ext w w' from hw'.at) (fun _ _ h=>h));rw[hf]at this;exact this)) rfl ?_;rintro⟨D_,p_,c_,q_,d_⟩ hD_;dsimp only)|fail)
  all_goals exact co
 |some f=>
  by_cases h1:op=16
  ·subst h1
   rw[show dH m ⟨16,a,b,n,kind,val,index,types,labels⟩=(f,0)from by unfold dH;dsimp only;rw[hf];rfl]
   refine Id ?_
   repeat'(first|refine ar ?_|(refine KO fun b_=>?_)|(refine eH fun b_ _=>?_)|refine m6 ?_|(refine aa.ai (f:=130) ?_;refine aa.he (HE.mM (r:=some f) ak rfl rfl (fun w' hw'=>by have:=mr B m v a w' (h.aO (show Ext w w' from hw'.at) (fun _ _ h=>h));rw[hf]at this;exact this)) rfl ?_;rintro⟨D_,p_,c_,q_,d_⟩ hD_;dsimp only)|fail)
   all_goals(refine ah.aF (.inl rfl) rfl rfl rfl rfl rfl aA rfl rfl ?_;exact fun w' hw'=>bg.iI (f0:=(some f).getD dy) (tf:=fun x:Value×Value=>.tuple #[.agg #[x.1,x.2],.int .i64 0]) ⟨D_,p_,c_,q_,d_⟩ hw' ak ak hD_)
  ·cases hd:mB m a with
   |true=>
    rw[show dH m ⟨op,a,b,n,kind,val,index,types,labels⟩=(⟨[],[3]⟩,0)from by unfold dH;dsimp only;rw[hf];dsimp only;rw[if_neg h1,if_pos hd]]
    refine Id ?_
    repeat'(first|refine ar ?_|(refine KO fun b_=>?_)|(refine eH fun b_ _=>?_)|refine m6 ?_|(refine aa.ai (f:=130) ?_;refine aa.he (HE.mM (r:=some f) ak rfl rfl (fun w' hw'=>by have:=mr B m v a w' (h.aO (show Ext w w' from hw'.at) (fun _ _ h=>h));rw[hf]at this;exact this)) rfl ?_;rintro⟨D_,p_,c_,q_,d_⟩ hD_;dsimp only)|(refine aa.ai (f:=131) ?_;refine aa.aq (v:=.bool true) rfl rfl rfl (fun w' hw'=>by have:=mV B m v a w' (h.aO (show Ext w w' from hw'.at) (fun _ _ h=>h)) ha;rw[hd]at this;exact this) ?_)|fail)
    all_goals exact co
   |false=>
    rw[show dH m ⟨op,a,b,n,kind,val,index,types,labels⟩=(dy,22)from by unfold dH;dsimp only;rw[hf];dsimp only;rw[if_neg h1,if_neg (by rw[hd];decide)]]
    refine Id ?_
    repeat'(first|refine ar ?_|(refine KO fun b_=>?_)|(refine eH fun b_ _=>?_)|refine m6 ?_|(refine aa.ai (f:=130) ?_;refine aa.he (HE.mM (r:=some f) ak rfl rfl (fun w' hw'=>by have:=mr B m v a w' (h.aO (show Ext w w' from hw'.at) (fun _ _ h=>h));rw[hf]at this;exact this)) rfl ?_;rintro⟨D_,p_,c_,q_,d_⟩ hD_;dsimp only)|(refine aa.ai (f:=131) ?_;refine aa.aq (v:=.bool false) rfl rfl rfl (fun w' hw'=>by have:=mV B m v a w' (h.aO (show Ext w w' from hw'.at) (fun _ _ h=>h)) ha;rw[hd]at this;exact this) ?_)|fail)
    all_goals exact co
set_option maxHeartbeats 4000000 in
theorem ya (B:Nat) (m:aj) (v:Value) (x:cJ) (pt pl:Option Addr) (ct cl:Nat) (w:World) (h:bL B m w v) (hop:x.op=37∨x.op=38∨x.op=64528∨x.op=64527∨x.op=64529):Calls G.P 82 #[v,.agg #[Value.int .i64 x.op,Value.int .i64 x.a,Value.int .i64 x.b,Value.int .u64 x.n,Value.int .i64 x.kind,Value.int .i64 x.val,Value.int .i64 x.index,Value.slice pt x.types.length ct,Value.slice pl x.labels.length cl]] w (ia (cU m x) (fun _=>False) w):=by
 obtain⟨op,a,b,n,kind,val,index,types,labels⟩:=x
 dsimp only at hop ⊢
 cases hg:cx (bA m) a with
 |none=>
  rw[show cU m ⟨op,a,b,n,kind,val,index,types,labels⟩=(dy,11)from by unfold cU;dsimp only;rw[hg]]
  refine ae (l:=[_,_]) Tryz.func82 rfl Tryz.ntmps82 rfl (Ok.start w) ?_
  repeat'(first|refine ar ?_|(refine KO fun b_=>?_)|(refine eH fun b_ _=>?_)|refine m6 ?_|(refine aa.ai (f:=132) ?_;refine aa.aq (v:=.tuple #[.agg #[.int .i64 0,.int .i64 0,.int .i64 0,.bool false],.bool false]) rfl rfl rfl (fun w' hw'=>by have:=gj B m v a w' (h.aO (show Ext w w' from hw'.at) (fun _ _ h=>h));rw[hg]at this;exact this) ?_)|fail)
  all_goals exact co
 |some g=>
  obtain⟨te,l1,l2,l3⟩:=g
  rcases hop with rfl|rfl|rfl|rfl|rfl
  all_goals
   first|rw[show cU m ⟨37,a,b,n,kind,val,index,types,labels⟩=(⟨[1],[te]⟩,0)from by unfold cU;dsimp only;rw[hg];rfl]|rw[show cU m ⟨38,a,b,n,kind,val,index,types,labels⟩=(⟨[1,te],[]⟩,0)from by unfold cU;dsimp only;rw[hg];rfl]|rw[show cU m ⟨64528,a,b,n,kind,val,index,types,labels⟩=(⟨[],[1]⟩,0)from by unfold cU;dsimp only;rw[hg];rfl]|rw[show cU m ⟨64527,a,b,n,kind,val,index,types,labels⟩=(⟨[te,1],[1]⟩,0)from by unfold cU;dsimp only;rw[hg];rfl]|rw[show cU m ⟨64529,a,b,n,kind,val,index,types,labels⟩=(⟨[1,te,1],[]⟩,0)from by unfold cU;dsimp only;rw[hg];rfl]
   refine ae (l:=[_,_]) Tryz.func82 rfl Tryz.ntmps82 rfl (Ok.start w) ?_
   repeat'(first|refine ar ?_|(refine KO fun b_=>?_)|(refine eH fun b_ _=>?_)|refine m6 ?_|(refine aa.ai (f:=132) ?_;refine aa.aq (v:=.tuple #[.agg #[.int .i64 te,.int .i64 l1,.int .i64 l2,.bool l3],.bool true]) rfl rfl rfl (fun w' hw'=>by have:=gj B m v a w' (h.aO (show Ext w w' from hw'.at) (fun _ _ h=>h));rw[hg]at this;exact this) ?_)|fail)
   all_goals exact co
theorem BS {M:List a8} {R:List (World→Prop)} {b T:Nat} {cs:List Value} (hM:a8.aT b cs T∈M):∀w,Ok M R w→∀j u,cs[j]?=some u→w.cell? ⟨b,0+j,none⟩=some u:=fun w hw j u hj=>by rw[Nat.zero_add];exact gO.cell (hw.m (.aT b cs T) hM).1 hj
def bM (m:aj) (x:cJ):aL×Int:=match cx m.types x.a,cx (bA m) x.b with
 |some f,some t=>if t.elem≠3 then(dy,12)else(⟨f.params++[1],f.results⟩,0)
 |_,_=>(dy,11)
theorem uC (B:Nat) (m:aj) (v:Value) (x:cJ) (pt pl:Option Addr) (ct cl:Nat) (w:World) (h:bL B m w v) (hp:∀w',Ext w w'→Calls G.P 75 #[.agg #[Value.int .i64 x.op,Value.int .i64 x.a,Value.int .i64 x.b,Value.int .u64 x.n,Value.int .i64 x.kind,Value.int .i64 x.val,Value.int .i64 x.index,Value.slice pt x.types.length ct,Value.slice pl x.labels.length cl]] w' fun e w2=>e=.returned (.bool (cq x))∧Ext w' w2):Calls G.P 35 #[v,.agg #[Value.int .i64 x.op,Value.int .i64 x.a,Value.int .i64 x.b,Value.int .u64 x.n,Value.int .i64 x.kind,Value.int .i64 x.val,Value.int .i64 x.index,Value.slice pt x.types.length ct,Value.slice pl x.labels.length cl]] w fun e w'=>e=.returned (.int .i64 (if cq x=false then 10 else 0))∧Ext w w':=by
 cases hx:cq x with
 |true=>
  rw[hx]at hp
  refine ae (l:=[_,_]) Tryz.func35 rfl Tryz.ntmps35 rfl (Ok.start w) ?_
  repeat'(first|refine ar ?_|(refine KO fun b_=>?_)|(refine aa.ai (f:=43) ?_;refine aa.he (HE.mM (r:=some dy) ak rfl rfl (fun w' hw'=>mL B m v 0 0 0 w' (h.aO (show Ext w w' from hw'.at) (fun _ _ h=>h)))) rfl ?_;rintro⟨D_,p_,c_,q_,d_⟩ hD_;dsimp only)|(refine aa.ai (f:=75) ?_;refine aa.aq rfl rfl rfl (fun w' hw'=>hp w' hw'.at) ?_)|fail)
  all_goals exact am
 |false=>
  rw[hx]at hp
  refine ae (l:=[_,_]) Tryz.func35 rfl Tryz.ntmps35 rfl (Ok.start w) ?_
  repeat'(first|refine ar ?_|(refine KO fun b_=>?_)|(refine aa.ai (f:=43) ?_;refine aa.he (HE.mM (r:=some dy) ak rfl rfl (fun w' hw'=>mL B m v 0 0 0 w' (h.aO (show Ext w w' from hw'.at) (fun _ _ h=>h)))) rfl ?_;rintro⟨D_,p_,c_,q_,d_⟩ hD_;dsimp only)|(refine aa.ai (f:=75) ?_;refine aa.aq rfl rfl rfl (fun w' hw'=>hp w' hw'.at) ?_)|fail)
  all_goals exact am
set_option maxHeartbeats 4000000 in
theorem tV (B:Nat) (m:aj) (v:Value) (x:cJ) (pt pl:Option Addr) (ct cl:Nat) (w:World) (h:bL B m w v) (hL:∀f,cx m.types x.a=some f→f.params.length≤17592186043904∧f.results.length≤17592186044416):Calls G.P 78 #[v,.agg #[Value.int .i64 x.op,Value.int .i64 x.a,Value.int .i64 x.b,Value.int .u64 x.n,Value.int .i64 x.kind,Value.int .i64 x.val,Value.int .i64 x.index,Value.slice pt x.types.length ct,Value.slice pl x.labels.length cl]] w (ia (bM m x) (fun _=>False) w):=by
 obtain⟨op,a,b,n,kind,val,index,types,labels⟩:=x
 dsimp only at hL ⊢
 cases hf:cx m.types a with
 |none=>
  rw[show bM m ⟨op,a,b,n,kind,val,index,types,labels⟩=(dy,11)from by unfold bM;dsimp only;rw[hf]]
  refine IO ?_
  repeat'(first|refine ar ?_|(refine KO fun b_=>?_)|refine m6 ?_|(refine aa.ai (f:=106) ?_;refine aa.he (HE.mM (r:=none) ak rfl rfl (fun w' hw'=>by have:=jY B m v a w' (h.aO (show Ext w w' from hw'.at) (fun _ _ h=>h));rw[hf]at this;exact this)) rfl ?_;rintro⟨D_,p_,c_,q_,d_⟩ hD_;dsimp only)|(refine aa.ai (f:=132) ?_;refine aa.aq rfl rfl rfl (fun w' hw'=>gj B m v b w' (h.aO (show Ext w w' from hw'.at) (fun _ _ h=>h))) ?_)|fail)
  all_goals exact gc
 |some f=>
  have hl:=hL f hf
  cases hg:cx (bA m) b with
  |none=>
   rw[show bM m ⟨op,a,b,n,kind,val,index,types,labels⟩=(dy,11)from by unfold bM;dsimp only;rw[hf,hg]]
   refine IO ?_
   repeat'(first|refine ar ?_|(refine KO fun b_=>?_)|refine m6 ?_|(refine aa.ai (f:=106) ?_;refine aa.he (HE.mM (r:=some f) ak rfl rfl (fun w' hw'=>by have:=jY B m v a w' (h.aO (show Ext w w' from hw'.at) (fun _ _ h=>h));rw[hf]at this;exact this)) rfl ?_;rintro⟨D_,p_,c_,q_,d_⟩ hD_;dsimp only)|(refine aa.ai (f:=132) ?_;refine aa.aq (v:=.tuple #[.agg #[.int .i64 0,.int .i64 0,.int .i64 0,.bool false],.bool false]) rfl rfl rfl (fun w' hw'=>by have:=gj B m v b w' (h.aO (show Ext w w' from hw'.at) (fun _ _ h=>h));rw[hg]at this;exact this) ?_)|fail)
   all_goals exact gc
  |some g=>
   obtain⟨te,l1,l2,l3⟩:=g
   by_cases h3:te=3
   ·subst h3
    rw[show bM m ⟨op,a,b,n,kind,val,index,types,labels⟩=(⟨f.params++[1],f.results⟩,0)from by unfold bM;dsimp only;rw[hf,hg];rfl]
    refine IO ?_
    repeat'(first|refine ar ?_|(refine KO fun b_=>?_)|(refine aa.ai (f:=132) ?_;refine aa.aq (v:=.tuple #[.agg #[.int .i64 3,.int .i64 l1,.int .i64 l2,.bool l3],.bool true]) rfl rfl rfl (fun w' hw'=>by have:=gj B m v b w' (h.aO (show Ext w w' from hw'.at) (fun _ _ h=>h));rw[hg]at this;exact this) ?_)|fail)
    refine aa.he (HE.sA (M0:=[]) rfl rfl (fun w' hw'=>by have:=pH B w.heap.size m v a w' (h.aO (show Ext w w' from hw'.at) (fun _ _ h=>h)) (show Ext w w' from hw'.at).size;rw[hf]at this;exact this)) rfl ?_
    rintro⟨v1,v2⟩ _
    dsimp only[Di,List.cons_append,List.nil_append,Option.getD_some]
    refine aa.pure (φ:=(∃p c,v1=.slice p f.params.length c)∧∃p c,v2=.slice p f.results.length c∧f.results.length≤17592186044416) (fun w' hw'=>⟨?_,?_⟩) ?_
    ·obtain⟨p,c,e,_⟩:=ax (hw'.own (v:=v1));exact⟨p,c,e⟩
    ·obtain⟨p,c,e,_⟩:=ax (hw'.own (v:=v2));exact⟨p,c,e,hl.2⟩
    rintro⟨⟨q1,d1,rfl⟩,⟨q2,d2,rfl,hl2⟩⟩
    repeat'(first|refine ar ?_|(refine KP fun b_=>?_)|(refine aa.ai (f:=132) ?_;refine aa.aq (v:=.tuple #[.agg #[.int .i64 3,.int .i64 l1,.int .i64 l2,.bool l3],.bool true]) rfl rfl rfl (fun w' hw'=>by have:=gj B m v b w' (h.aO (show Ext w w' from hw'.at) (fun _ _ h=>h));rw[hg]at this;exact this) ?_)|fail)
    rename_i b6
    refine aZ.cT [.aT b6 [.slice q1 f.params.length d1,.slice q2 f.results.length d2] rf] [Ext w] bc aV ?_
    repeat'(first|refine og ?_|(refine av.kZ ?_;refine av.he rfl rfl (HE.jJ rfl rfl rfl rfl rfl eT Ml Ml) (fun _=>bc) (fun _=>aV) ?_;rintro b7 _)|(refine av.ug ?_;refine av.he rfl rfl (HE.gA [.int .i64 1] rfl rfl (fun _=>aA) (.inr ⟨_,0,rfl,BS bG⟩) rfl rfl rfl rfl Ml Ml Ml (fun u hu=>by rw[List.mem_singleton.1 hu];rfl) (by show(f.params.length+1)*8≤_;omega) Mj (fun w' hw'=>(show Ext w w' from hw'.at).size)) (fun _=>bc) (fun _=>aV) ?_;rintro v9 _;refine aP.pure (φ:=∃p c,v9=.slice p (f.params.length+1) c) (fun w' hw'=>by obtain⟨p,c,e,_⟩:=ax (hw'.own (v:=v9));exact⟨p,c,e⟩) ?_;rintro⟨p9,c9,rfl⟩)|(refine av.ep 79 ?_;refine av.he rfl rfl (HE.dX rfl rfl (fun w' hw'=>qz p9 q2 (f.params.length+1) f.results.length c9 d2 w')) (fun _=>bc) (fun _=>aV) ?_;rintro⟨⟩ _)|(refine av.nw ?_;refine av.jf rfl (fQ.bn _ rfl rfl rfl rfl rfl rfl aA rfl) (fun _=>bc) (fun _=>aV) ?_;rintro⟨⟩ _)|refine aP.nil LX ?_|refine aP.any LX ?_|exact aN.fin rfl|refine aN.skip LX ?_|refine aN.go ?_ ?_)
    all_goals
     repeat'(first|refine ar ?_|fail)
     refine IR ?_
     intro w' hw'
     have g1:af (fun k=>w.heap.size≤k) w' (.slice p9 (f.params.length+1) c9) (f.params++[1]):=j0 (xs:=f.params++[1]) (by have:=hw'.own (B:=w.heap.size) (T:=m7) (s:=1) (v:=.slice p9 (f.params.length+1) c9);simpa using this) Ma
     have g2:af (fun k=>w.heap.size≤k) w' (.slice q2 f.results.length d2) f.results:=j0 (hw'.own (B:=w.heap.size) (T:=m7) (s:=1) (v:=.slice q2 f.results.length d2)) hl2
     exact⟨⟨(_,_),rfl,g1.mono fun _ _ h=>.inr h,g2.mono fun _ _ h=>.inr h⟩,hw'.at⟩
   ·rw[show bM m ⟨op,a,b,n,kind,val,index,types,labels⟩=(dy,12)from by unfold bM;dsimp only;rw[hf,hg];dsimp only;rw[if_pos h3]]
    refine IO ?_
    repeat'(first|refine ar ?_|(refine KO fun b_=>?_)|refine m6 ?_|(refine aa.ai (f:=106) ?_;refine aa.he (HE.mM (r:=some f) ak rfl rfl (fun w' hw'=>by have:=jY B m v a w' (h.aO (show Ext w w' from hw'.at) (fun _ _ h=>h));rw[hf]at this;exact this)) rfl ?_;rintro⟨D_,p_,c_,q_,d_⟩ hD_;dsimp only)|(refine aa.ai (f:=132) ?_;refine aa.aq (v:=.tuple #[.agg #[.int .i64 te,.int .i64 l1,.int .i64 l2,.bool l3],.bool true]) rfl rfl rfl (fun w' hw'=>by have:=gj B m v b w' (h.aO (show Ext w w' from hw'.at) (fun _ _ h=>h));rw[hg]at this;exact this) ?_)|fail)
    all_goals exact gc
def eW (k:Int) (ba bb:Bool) (ta tb:Int) (be:Bool) (te:Int) (ma mb:Bool) (a nd al:Int):Int:=
 if k=10 then(if(ba && bb)=false then 11 else if ta≠tb then 12 else 0)else if k=11 then(if(be && bb)=false then 11 else if te≠tb then 12 else 0)else
 if k=12 then(if be=false then 11 else 0)else if k=16 then(if a<nd then 0 else 11)else if k=15 then(if mb=true∧a<nd then 0 else 11)else
 if k=14 then(if ma=false∨mb=false then 11 else 0)else if k=13 then(if mb=false then 11 else 0)else
 if k=17 then(if mb=true∧al<a then 19 else if mb=false then 11 else 0)else 0
def jK (m:aj) (x:cJ):Int:=eW (dZ x.op) (cx (bA m) x.a).isSome (cx (bA m) x.b).isSome ((cx (bA m) x.a).getD yR).elem ((cx (bA m) x.b).getD yR).elem (cx (dA m) x.a).isSome ((cx (dA m) x.a).getD 0) (cx (dD m) x.a).isSome (cx (dD m) x.b).isSome x.a m.bD.length (kO x.op)
theorem mA {g g':Prop} (h:g') (hw:dS g'→g:=by(intro hk_;(first|refine Lj ?_);exact hk_.out)):g:=hw ⟨h⟩
theorem xn {g g':Prop} (h:g') (hw:dS g'→g:=by(intro hk_;(first|refine mA ?_|(refine aa.ai (f:=137) ?_;refine aa.aq (v:=.tuple #[.agg #[.int .i64 (ML b).min,.int .i64 (ML b).max,.bool (ML b).has],.bool false]) rfl rfl rfl (fun w' hw'=>by have:=gM b w' hw'.at;rw[hz]at this;exact this) ?_));exact hk_.out)):g:=hw ⟨h⟩
theorem pT {g g':Prop} (h:g') (hw:dS g'→g:=by(intro hk_;(first|refine mA ?_|(refine aa.ai (f:=137) ?_;refine aa.aq (v:=.tuple #[.agg #[.int .i64 (ML b).min,.int .i64 (ML b).max,.bool (ML b).has],.bool true]) rfl rfl rfl (fun w' hw'=>by have:=gM b w' hw'.at;rw[hz]at this;exact this) ?_));exact hk_.out)):g:=hw ⟨h⟩
set_option maxHeartbeats 64000000 in
theorem tB (B:Nat) (m:aj) (v:Value) (op a b n kind val index:Int) (pt pl:Option Addr) (nt nl ct cl:Nat) (k:Int) (al:Int) (w:World) (h:bL B m w v)
  (ho:∀w',Ext w w'→Calls G.P 76 #[.int .i64 op] w' fun e w2=>e=.returned (.int .i64 k)∧Ext w' w2)
  (ha:∀w',Ext w w'→Calls G.P 138 #[.int .i64 op] w' fun e w2=>e=.returned (.int .i64 al)∧Ext w' w2):
  Calls G.P 83 #[v,.agg #[Value.int .i64 op,Value.int .i64 a,Value.int .i64 b,Value.int .u64 n,Value.int .i64 kind,Value.int .i64 val,Value.int .i64 index,Value.slice pt nt ct,Value.slice pl nl cl]] w fun e w'=>e=.returned (.int .i64 (eW k (cx (bA m) a).isSome (cx (bA m) b).isSome ((cx (bA m) a).getD yR).elem ((cx (bA m) b).getD yR).elem (cx (dA m) a).isSome ((cx (dA m) a).getD 0) (cx (dD m) a).isSome (cx (dD m) b).isSome a m.bD.length al))∧Ext w w':=by
 obtain⟨T,hT⟩:∃T:Int→ff,∀i,(cx (bA m) i).getD yR=T i:=⟨_,fun _=>rfl⟩
 obtain⟨S,hS⟩:∃T:Int→Bool,∀i,(cx (bA m) i).isSome=T i:=⟨_,fun _=>rfl⟩
 obtain⟨ML,hML⟩:∃T:Int→eR,∀i,(cx (dD m) i).getD FL=T i:=⟨_,fun _=>rfl⟩
 obtain⟨MS,hMS⟩:∃T:Int→Bool,∀i,(cx (dD m) i).isSome=T i:=⟨_,fun _=>rfl⟩
 obtain⟨te,hte⟩:∃t,(cx (dA m) a).getD 0=t:=⟨_,rfl⟩
 obtain⟨be,hbe⟩:∃t,(cx (dA m) a).isSome=t:=⟨_,rfl⟩
 obtain⟨nd,hnd⟩:∃t:Int,(m.bD.length:Int)=t:=⟨_,rfl⟩
 have gT:∀i w',Ext w w'→Calls G.P 132 #[v,.int .i64 i] w' fun e w2=>e=.returned (.tuple #[.agg #[.int .i64 (T i).elem,.int .i64 (T i).lG.min,.int .i64 (T i).lG.max,.bool (T i).lG.has],.bool (S i)])∧Ext w' w2:=fun i w' hx=>by have:=gj B m v i w' (h.aO hx (fun _ _ h=>h));rw[hT,hS]at this;exact this
 have gM:∀i w',Ext w w'→Calls G.P 137 #[v,.int .i64 i] w' fun e w2=>e=.returned (.tuple #[.agg #[.int .i64 (ML i).min,.int .i64 (ML i).max,.bool (ML i).has],.bool (MS i)])∧Ext w' w2:=fun i w' hx=>by have:=AS B m v i w' (h.aO hx (fun _ _ h=>h));rw[hML,hMS]at this;exact this
 have gE:∀w',Ext w w'→Calls G.P 135 #[v,.int .i64 a] w' fun e w2=>e=.returned (.tuple #[.int .i64 te,.bool be])∧Ext w' w2:=fun w' hx=>by have:=zl B m v a w' (h.aO hx (fun _ _ h=>h));rw[hte,hbe]at this;exact this
 have gnd:∀w',Ext w w'→Calls G.P 136 #[v] w' fun e w2=>e=.returned (.int .i64 nd)∧Ext w' w2:=fun w' hx=>by have:=wV B m v w' (h.aO hx (fun _ _ h=>h));rw[hnd]at this;exact this
 simp only[hT,hS,hMS,hte,hbe,hnd]
 clear hT hS hML hMS hte hbe hnd
 by_cases hk:k=10
 ·obtain rfl:=hk
  skip
  refine Jw ?_
  repeat'(first|refine ar ?_|(refine KO fun b_=>?_)|refine mA ?_|(refine aa.ai (f:=132) ?_;refine aa.aq rfl rfl rfl (fun w' hw'=>gT _ w' hw'.at) ?_)|(refine aa.ai (f:=134) ?_;refine aa.aq rfl rfl rfl (fun w' hw'=>sL _ _ _ w') ?_)|(refine a7 ?_ ?_<;>intro hc_))
  all_goals exact ge
 by_cases hk:k=11
 ·obtain rfl:=hk
  skip
  refine Jw ?_
  repeat'(first|refine ar ?_|(refine KO fun b_=>?_)|refine mA ?_|(refine aa.ai (f:=135) ?_;refine aa.aq rfl rfl rfl (fun w' hw'=>gE w' hw'.at) ?_)|(refine aa.ai (f:=132) ?_;refine aa.aq rfl rfl rfl (fun w' hw'=>gT _ w' hw'.at) ?_)|(refine aa.ai (f:=134) ?_;refine aa.aq rfl rfl rfl (fun w' hw'=>sL _ _ _ w') ?_)|(refine a7 ?_ ?_<;>intro hc_))
  all_goals exact ge
 by_cases hk:k=12
 ·obtain rfl:=hk
  skip
  refine Jw ?_
  repeat'(first|refine ar ?_|(refine KO fun b_=>?_)|refine mA ?_|(refine aa.ai (f:=135) ?_;refine aa.aq rfl rfl rfl (fun w' hw'=>gE w' hw'.at) ?_)|(refine a7 ?_ ?_<;>intro hc_))
  all_goals exact ge
 by_cases hk:k=16
 ·obtain rfl:=hk
  by_cases hlt:a<nd
  ·refine Jw ?_
   repeat'(first|refine ar ?_|(refine KO fun b_=>?_)|refine mA ?_|(refine a7 ?_ ?_<;>intro hc_))
   refine GT ?_
   refine bQ ?_
   refine aw.mT (v:=.int .i64 nd) rfl rfl rfl (fun w' hw'=>gnd w' hw'.at) ?_
   refine bQ ?_
   repeat'(first|refine ar ?_|(refine KO fun b_=>?_)|refine mA ?_|(refine a7 ?_ ?_<;>intro hc_))
   all_goals exact ge
  ·refine Jw ?_
   repeat'(first|refine ar ?_|(refine KO fun b_=>?_)|refine mA ?_|(refine a7 ?_ ?_<;>intro hc_))
   refine GT ?_
   refine bQ ?_
   refine aw.mT (v:=.int .i64 nd) rfl rfl rfl (fun w' hw'=>gnd w' hw'.at) ?_
   refine bQ ?_
   repeat'(first|refine ar ?_|(refine KO fun b_=>?_)|refine mA ?_|(refine a7 ?_ ?_<;>intro hc_))
   all_goals exact ge
 by_cases hk:k=15
 ·obtain rfl:=hk
  by_cases hlt:a<nd
  ·cases hz:MS b with
   |true=>
    refine Jw ?_
    repeat'(first|refine ar ?_|(refine KO fun b_=>?_)|refine pT ?_|(refine a7 ?_ ?_<;>intro hc_))
    refine GT ?_
    refine bQ ?_
    refine aw.kN (v:=.int .i64 nd) rfl rfl rfl rfl (fun w' hw'=>gnd w' hw'.at) ?_
    refine bQ ?_
    repeat'(first|refine ar ?_|(refine KO fun b_=>?_)|refine pT ?_|(refine a7 ?_ ?_<;>intro hc_))
    all_goals exact ge
   |false=>
    refine Jw ?_
    repeat'(first|refine ar ?_|(refine KO fun b_=>?_)|refine xn ?_|(refine a7 ?_ ?_<;>intro hc_))
    refine GT ?_
    refine bQ ?_
    repeat'(first|refine ar ?_|(refine KO fun b_=>?_)|refine xn ?_|(refine a7 ?_ ?_<;>intro hc_))
    all_goals exact ge
  ·cases hz:MS b with
   |true=>
    refine Jw ?_
    repeat'(first|refine ar ?_|(refine KO fun b_=>?_)|refine pT ?_|(refine a7 ?_ ?_<;>intro hc_))
    refine GT ?_
    refine bQ ?_
    refine aw.kN (v:=.int .i64 nd) rfl rfl rfl rfl (fun w' hw'=>gnd w' hw'.at) ?_
    refine bQ ?_
    repeat'(first|refine ar ?_|(refine KO fun b_=>?_)|refine pT ?_|(refine a7 ?_ ?_<;>intro hc_))
    all_goals exact ge
   |false=>
    refine Jw ?_
    repeat'(first|refine ar ?_|(refine KO fun b_=>?_)|refine xn ?_|(refine a7 ?_ ?_<;>intro hc_))
    refine GT ?_
    refine bQ ?_
    repeat'(first|refine ar ?_|(refine KO fun b_=>?_)|refine xn ?_|(refine a7 ?_ ?_<;>intro hc_))
    all_goals exact ge
 by_cases hk:k=14
 ·obtain rfl:=hk
  skip
  refine Jw ?_
  repeat'(first|refine ar ?_|(refine KO fun b_=>?_)|refine mA ?_|(refine aa.ai (f:=137) ?_;refine aa.aq rfl rfl rfl (fun w' hw'=>gM _ w' hw'.at) ?_)|(refine a7 ?_ ?_<;>intro hc_))
  all_goals exact ge
 by_cases hk:k=13
 ·obtain rfl:=hk
  skip
  refine Jw ?_
  repeat'(first|refine ar ?_|(refine KO fun b_=>?_)|refine mA ?_|(refine aa.ai (f:=137) ?_;refine aa.aq rfl rfl rfl (fun w' hw'=>gM _ w' hw'.at) ?_)|(refine a7 ?_ ?_<;>intro hc_))
  all_goals exact ge
 by_cases hk:k=17
 ·obtain rfl:=hk
  by_cases hlt:al<a
  ·cases hz:MS b with
   |true=>
    refine Jw ?_
    repeat'(first|refine ar ?_|(refine KO fun b_=>?_)|refine pT ?_|(refine a7 ?_ ?_<;>intro hc_))
    refine GT ?_
    refine bQ ?_
    refine aw.kN (v:=.int .i64 al) rfl rfl rfl rfl (fun w' hw'=>ha w' hw'.at) ?_
    refine bQ ?_
    repeat'(first|refine ar ?_|(refine KO fun b_=>?_)|refine pT ?_|(refine a7 ?_ ?_<;>intro hc_))
    all_goals exact ge
   |false=>
    refine Jw ?_
    repeat'(first|refine ar ?_|(refine KO fun b_=>?_)|refine xn ?_|(refine a7 ?_ ?_<;>intro hc_))
    refine GT ?_
    refine bQ ?_
    repeat'(first|refine ar ?_|(refine KO fun b_=>?_)|refine xn ?_|(refine a7 ?_ ?_<;>intro hc_))
    all_goals exact ge
  ·cases hz:MS b with
   |true=>
    refine Jw ?_
    repeat'(first|refine ar ?_|(refine KO fun b_=>?_)|refine pT ?_|(refine a7 ?_ ?_<;>intro hc_))
    refine GT ?_
    refine bQ ?_
    refine aw.kN (v:=.int .i64 al) rfl rfl rfl rfl (fun w' hw'=>ha w' hw'.at) ?_
    refine bQ ?_
    repeat'(first|refine ar ?_|(refine KO fun b_=>?_)|refine pT ?_|(refine a7 ?_ ?_<;>intro hc_))
    all_goals exact ge
   |false=>
    refine Jw ?_
    repeat'(first|refine ar ?_|(refine KO fun b_=>?_)|refine xn ?_|(refine a7 ?_ ?_<;>intro hc_))
    refine GT ?_
    refine bQ ?_
    repeat'(first|refine ar ?_|(refine KO fun b_=>?_)|refine xn ?_|(refine a7 ?_ ?_<;>intro hc_))
    all_goals exact ge
 skip
 refine Jw ?_
 repeat'(first|refine ar ?_|(refine KO fun b_=>?_)|refine mA ?_|(refine a7 ?_ ?_<;>intro hc_))
 all_goals exact ge
set_option maxHeartbeats 8000000 in
theorem lX (F:Nat→Prop) (m:aj) (i:Int) (cs:List Value) (w:World) (hm:ay F w cs m) (hF:∀k,F k→k<w.heap.size) (h0:0≤i) (hi:dV i):Calls G.P 145 #[.agg cs.toArray,.int .i64 i] w (iZ (fS m i) F w):=by
 have hm0:=hm
 obtain⟨v0,v1,v2,v3,v4,v5,v6,v7,v8,v9,rfl,r0,r1,r2,r3,r4,r5,r6,r7,r8,r9,g0⟩:=hm
 obtain⟨p2,c2,rfl,l2⟩:=r2.slice
 have hat:cx (fX m) i=_:=qv (fun x:bN=>x.func) m 0 (m.funcs.map fun x:oF=>x.eD) h0
 cases hn:jX m.imports 0 i with
 |some x=>
  rw[hn]at hat
  have ef:fS m i=cx m.types x.func:=by unfold fS;rw[hat];rfl
  rw[ef]
  refine ae (l:=[_,_]) Tryz.func145 rfl Tryz.ntmps145 rfl (Ok.start w) ?_
  repeat'(first|refine ar ?_|(refine KS fun b_=>?_)|(refine aa.fj (t:=gU) ?_;refine aa.alloc (t:=gU) [Value.string ⟨#[]⟩,Value.string ⟨#[]⟩,Value.int .i64 0,Value.int .i64 0,Value.int .i64 0,Value.int .i64 0,Value.int .i64 0,Value.bool false,Value.int .i64 0,Value.int .i64 0,Value.bool false,Value.int .i64 0,Value.bool false] rfl rfl rfl fun b_=>?_)|(refine aa.ai (f:=170) ?_;refine aa.aq (v:=.tuple #[.agg #[Value.string x.module,Value.string x.name,Value.int .i64 x.kind,Value.int .i64 x.func,Value.int .i64 x.table.elem,Value.int .i64 x.table.lG.min,Value.int .i64 x.table.lG.max,Value.bool x.table.lG.has,Value.int .i64 x.mem.min,Value.int .i64 x.mem.max,Value.bool x.mem.has,Value.int .i64 x.eG.mH,Value.bool x.eG.qb],.bool true]) rfl rfl rfl (fun w' hw'=>by have:=fz F m 0 i _ w' (hm0.aO (show Ext w w' from hw'.at) (fun _ _ _ h=>h)) h0 hi;rw[hn]at this;exact this) ?_)|fail)
  refine aa.he (HE.BJ (r:=cx m.types (x.func)) (F:=F) ak hF rfl rfl (fun w' hw'=>iJ F m (x.func) _ w' (hm0.aO (show Ext w w' from hw'.at) (fun _ _ _ h=>h)))) rfl ?_
  rintro⟨D_,p_,c_,q_,d_⟩ hD_
  dsimp only
  repeat'(first|refine ar ?_|fail)
  all_goals(refine ah.aF (.inl rfl) rfl rfl rfl rfl rfl aA rfl rfl ?_;exact fun w' hw'=>bg.iI (f0:=(cx m.types (x.func)).getD dy) (tf:=fun y:Value×Value=>.tuple #[.agg #[y.1,y.2],.bool (cx m.types (x.func)).isSome]) ⟨D_,p_,c_,q_,d_⟩ hw' ak ak hD_)
 |none=>
  rw[hn]at hat
  by_cases hin:0≤i - j9 m 0∧i - j9 m 0<m.funcs.length
  ·have ho:tK m 0 i m.funcs.length=i - j9 m 0:=if_pos hin
   obtain⟨j,hj⟩:=Int.eq_ofNat_of_zero_le hin.1
   rw[hj]at hin hat ho
   have hlt:j<m.funcs.length:=by omega
   obtain⟨b,o,rfl,hFb,he⟩:=r2.el hlt
   have hty:=he.eD
   have ef:fS m i=cx m.types (ix m.funcs j).eD:=by unfold fS;rw[hat];dsimp only;rw[jG (by simpa using hlt),pz hlt];rfl
   rw[ef]
   refine ae (l:=[_,_]) Tryz.func145 rfl Tryz.ntmps145 rfl (Ok.start w) ?_
   repeat'(first|refine ar ?_|(refine KS fun b_=>?_)|(refine aa.fj (t:=gU) ?_;refine aa.alloc (t:=gU) [Value.string ⟨#[]⟩,Value.string ⟨#[]⟩,Value.int .i64 0,Value.int .i64 0,Value.int .i64 0,Value.int .i64 0,Value.int .i64 0,Value.bool false,Value.int .i64 0,Value.int .i64 0,Value.bool false,Value.int .i64 0,Value.bool false] rfl rfl rfl fun b_=>?_)|(refine aa.ai (f:=170) ?_;refine aa.aq (v:=.tuple #[.agg #[Value.string ⟨#[]⟩,Value.string ⟨#[]⟩,Value.int .i64 0,Value.int .i64 0,Value.int .i64 0,Value.int .i64 0,Value.int .i64 0,Value.bool false,Value.int .i64 0,Value.int .i64 0,Value.bool false,Value.int .i64 0,Value.bool false],.bool false]) rfl rfl rfl (fun w' hw'=>by have:=fz F m 0 i _ w' (hm0.aO (show Ext w w' from hw'.at) (fun _ _ _ h=>h)) h0 hi;rw[hn]at this;exact this) ?_)|(refine aa.ai (f:=171) ?_;refine aa.aq (v:=.int .i64 (j:Nat)) rfl rfl rfl (fun w' hw'=>by have:=iL F m 0 i m.funcs.length _ w' (hm0.aO (show Ext w w' from hw'.at) (fun _ _ _ h=>h)) h0 hi;rw[ho]at this;exact this) ?_)|fail)
   rename_i bm bf
   refine aZ.cT [.aT bm [v0,v1,Value.slice (some ⟨b,o,none⟩) m.funcs.length c2,v3,v4,v5,v6,Value.bool m.br,Value.int .i64 m.start,v7,v8,v9] kU] [Ext w] bc aV ?_
   repeat'(first|refine og ?_|(refine av.ep 119 ?_;refine av.he rfl rfl (HE.BJ (r:=cx m.types ((ix m.funcs j).eD)) (F:=F) ak hF rfl rfl (fun w' hw'=>iJ F m ((ix m.funcs j).eD) _ w' (hm0.aO (show Ext w w' from hw'.at) (fun _ _ _ h=>h)))) (fun _=>bc) (fun _=>aV) ?_;rintro⟨D_,p_,c_,q_,d_⟩ hD_;dsimp only)|(refine av.nw ?_;refine av.jf rfl (fQ.bn _ rfl rfl rfl rfl rfl rfl aA rfl) (fun _=>bc) (fun _=>aV) ?_;rintro⟨⟩ _)|refine aP.nil LX ?_|refine aP.any LX ?_|exact aN.fin rfl|refine aN.skip LX ?_|refine aN.go ?_ ?_)
   all_goals repeat'(first|refine ar ?_|fail)
   all_goals(refine ah.aF (.inl rfl) rfl rfl rfl rfl rfl aA rfl rfl ?_;exact fun w' hw'=>bg.iI (f0:=(cx m.types ((ix m.funcs j).eD)).getD dy) (tf:=fun y:Value×Value=>.tuple #[.agg #[y.1,y.2],.bool (cx m.types ((ix m.funcs j).eD)).isSome]) ⟨D_,p_,c_,q_,d_⟩ hw' ak ak hD_)
  ·have ho:tK m 0 i m.funcs.length=-1:=if_neg hin
   have ef:fS m i=none:=by unfold fS;rw[hat];dsimp only;rw[iA (by simpa using hin)];rfl
   rw[ef]
   refine ae (l:=[_,_]) Tryz.func145 rfl Tryz.ntmps145 rfl (Ok.start w) ?_
   repeat'(first|refine ar ?_|(refine KS fun b_=>?_)|(refine aa.fj (t:=gU) ?_;refine aa.alloc (t:=gU) [Value.string ⟨#[]⟩,Value.string ⟨#[]⟩,Value.int .i64 0,Value.int .i64 0,Value.int .i64 0,Value.int .i64 0,Value.int .i64 0,Value.bool false,Value.int .i64 0,Value.int .i64 0,Value.bool false,Value.int .i64 0,Value.bool false] rfl rfl rfl fun b_=>?_)|(refine aa.ai (f:=170) ?_;refine aa.aq (v:=.tuple #[.agg #[Value.string ⟨#[]⟩,Value.string ⟨#[]⟩,Value.int .i64 0,Value.int .i64 0,Value.int .i64 0,Value.int .i64 0,Value.int .i64 0,Value.bool false,Value.int .i64 0,Value.int .i64 0,Value.bool false,Value.int .i64 0,Value.bool false],.bool false]) rfl rfl rfl (fun w' hw'=>by have:=fz F m 0 i _ w' (hm0.aO (show Ext w w' from hw'.at) (fun _ _ _ h=>h)) h0 hi;rw[hn]at this;exact this) ?_)|(refine aa.ai (f:=171) ?_;refine aa.aq (v:=.int .i64 (-1)) rfl rfl rfl (fun w' hw'=>by have:=iL F m 0 i m.funcs.length _ w' (hm0.aO (show Ext w w' from hw'.at) (fun _ _ _ h=>h)) h0 hi;rw[ho]at this;exact this) ?_)|fail)
   all_goals first|omega|exact ah.aF (.inl rfl) rfl rfl rfl rfl rfl aA rfl rfl fun w' hw'=>bg.H0 (tf:=fun x:Value×Value=>.tuple #[.agg #[x.1,x.2],.bool false]) hw' ak
end Go.Proofs.YtgbgnipidakdhaaGreatDoor
