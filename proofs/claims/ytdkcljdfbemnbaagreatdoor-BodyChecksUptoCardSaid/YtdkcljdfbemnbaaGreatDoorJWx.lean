/- The reference of layer 23: calls. Printed by gen_wt.py. -/
import Derived.Test.YtdkcljdfbemnbaaGreatDoorJWu
import Derived.Test.YtdkcljdfbemnbaaGreatDoorJLz
import Derived.Test.YtdkcljdfbemnbaaGreatDoorJWn
namespace Go.Proofs.YtdkcljdfbemnbaaGreatDoor
open Go.RowKit
set_option maxHeartbeats 8000000
open Nat renaming lt_of_lt_of_le→Pw,zero_add→Pm
open Value renaming int→Pf,slice→Pg
set_option maxRecDepth 100000
def lP (m:af) (x:cv):aO×Int:=match gH m x.a with
 |none=>(dF,11)
 |some f=>if x.op=16 then(f,0)else if nF m x.a=true then da x.op else(dF,22)
theorem pn {g g':Prop} (h:g') (hw:eI g'→g:=by(intro hk_;(first|refine Ot ?_);exact hk_.out)):g:=hw ⟨h⟩
variable (F:Nat→Prop) (m:af) (cs:List Value) (locals:List Int) (x:cv) (lp pt pl:Option Addr)
theorem BL (pt pl:Option Addr) (ct cl:Nat) (w:World) (hm:av F w cs m) (ha:0≤x.a) (hi:eO x.a) (hb:0≤x.b) (hj:eO x.b) (hF:∀k,F k→k<w.heap.size):Calls G.P 153 #[.agg cs.toArray,.agg #[Pf .i64 x.op,Pf .i64 x.a,Pf .i64 x.b,Pf .u64 x.n,Pf .i64 x.kind,Pf .i64 x.val,Pf .i64 x.index,Pg pt x.types.length ct,Pg pl x.labels.length cl]] w (fK (lP m x) F w):=by
 have hm0:=hm
 obtain⟨v0,v1,v2,v3,v4,v5,v6,v7,v8,v9,rfl,r0,r1,r2,r3,r4,r5,r6,r7,r8,r9,g0⟩:=hm
 obtain⟨op,a,b,n,kind,val,index,types,labels⟩:=x
 dsimp only at ha hi hb hj ⊢
 cases hf:gH m a with
 |none=>
  rw[show lP m ⟨op,a,b,n,kind,val,index,types,labels⟩=(dF,11)from by unfold lP;dsimp only;rw[hf]]
  refine Mg ?_
  repeat'(first|refine ar ?_|(refine NO fun b_=>?_)|refine pn ?_|(refine aa.aj (f:=176) ?_;refine aa.he (HE.yZ (F:=F) (r:=none) ak hF rfl rfl (fun w' hw'=>by have:=nj F m a _ w' (hm0.aP (show Ext w w' from hw'.at) (fun _ _ _ h=>h)) (fun k hk=>Pw (hF k hk) (show Ext w w' from hw'.at).size) ha hi;rw[hf]at this;exact this)) rfl ?_;rintro⟨D_,p_,c_,q_,d_⟩ hD_;dsimp only)|fail)
  all_goals exact ap
 |some f=>
  by_cases h1:op=16
  ·subst h1
   rw[show lP m ⟨16,a,b,n,kind,val,index,types,labels⟩=(f,0)from by unfold lP;dsimp only;rw[hf];rfl]
   refine Mg ?_
   repeat'(first|refine ar ?_|(refine NO fun b_=>?_)|refine pn ?_|(refine aa.aj (f:=176) ?_;refine aa.he (HE.yZ (F:=F) (r:=some f) ak hF rfl rfl (fun w' hw'=>by have:=nj F m a _ w' (hm0.aP (show Ext w w' from hw'.at) (fun _ _ _ h=>h)) (fun k hk=>Pw (hF k hk) (show Ext w w' from hw'.at).size) ha hi;rw[hf]at this;exact this)) rfl ?_;rintro⟨D_,p_,c_,q_,d_⟩ hD_;dsimp only)|fail)
   all_goals(refine ah.bB (.inl rfl) rfl rfl rfl rfl rfl aH rfl ?_;exact fun w' hw'=>bD.jm (f0:=(some f).getD dF) (tf:=fun x:Value×Value=>.agg #[x.1,x.2,.int .i64 0]) ⟨D_,p_,c_,q_,d_⟩ hw' ak ak hD_)
  ·cases hd:nF m a with
   |true=>
    rw[show lP m ⟨op,a,b,n,kind,val,index,types,labels⟩=da op from by unfold lP;dsimp only;rw[hf];dsimp only;rw[if_neg h1,if_pos hd]]
    refine Mg ?_
    repeat'(first|refine ar ?_|(refine NO fun b_=>?_)|refine pn ?_|(refine aa.aj (f:=176) ?_;refine aa.he (HE.yZ (F:=F) (r:=some f) ak hF rfl rfl (fun w' hw'=>by have:=nj F m a _ w' (hm0.aP (show Ext w w' from hw'.at) (fun _ _ _ h=>h)) (fun k hk=>Pw (hF k hk) (show Ext w w' from hw'.at).size) ha hi;rw[hf]at this;exact this)) rfl ?_;rintro⟨D1_,p1_,c1_,q1_,d1_⟩ hD1_;dsimp only)|(refine aa.aj (f:=177) ?_;refine aa.au (v:=.bool true) rfl rfl rfl (fun w' hw'=>by have:=oh F m a _ w' (hm0.aP (show Ext w w' from hw'.at) (fun _ _ _ h=>h));rw[hd]at this;exact this) ?_)|(refine aa.aj (f:=163) ?_;refine aa.he (HE.rg (F:=fun _=>False) (r:=da op) ak (fun _ h=>h.elim) rfl rfl (fun w' hw'=>dK op w')) rfl ?_;rintro⟨D_,p_,c_,q_,d_⟩ hD_;dsimp only)|fail)
    all_goals first|omega|(refine ah.bB (.inl rfl) rfl rfl rfl rfl rfl aH rfl ?_;exact fun w' hw'=>bD.jm (f0:=(da op).1) (tf:=fun x:Value×Value=>.agg #[x.1,x.2,.int .i64 (da op).2]) ⟨D_,p_,c_,q_,d_⟩ hw' ak ak (fun k h=>.inr ((hD_ k h).resolve_left id)))
   |false=>
    rw[show lP m ⟨op,a,b,n,kind,val,index,types,labels⟩=(dF,22)from by unfold lP;dsimp only;rw[hf];dsimp only;rw[if_neg h1,if_neg (by rw[hd];decide)]]
    refine Mg ?_
    repeat'(first|refine ar ?_|(refine NO fun b_=>?_)|refine pn ?_|(refine aa.aj (f:=176) ?_;refine aa.he (HE.yZ (F:=F) (r:=some f) ak hF rfl rfl (fun w' hw'=>by have:=nj F m a _ w' (hm0.aP (show Ext w w' from hw'.at) (fun _ _ _ h=>h)) (fun k hk=>Pw (hF k hk) (show Ext w w' from hw'.at).size) ha hi;rw[hf]at this;exact this)) rfl ?_;rintro⟨D1_,p1_,c1_,q1_,d1_⟩ hD1_;dsimp only)|(refine aa.aj (f:=177) ?_;refine aa.au (v:=.bool false) rfl rfl rfl (fun w' hw'=>by have:=oh F m a _ w' (hm0.aP (show Ext w w' from hw'.at) (fun _ _ _ h=>h));rw[hd]at this;exact this) ?_)|fail)
    all_goals exact ap
theorem uE (pt pl:Option Addr) (ct cl:Nat) (w:World) (hm:av F w cs m) (ha:0≤x.a) (hi:eO x.a) (hb:0≤x.b) (hj:eO x.b) (hF:∀k,F k→k<w.heap.size) (hT:m7 m):Calls G.P 154 #[.agg cs.toArray,.agg #[Pf .i64 x.op,Pf .i64 x.a,Pf .i64 x.b,Pf .u64 x.n,Pf .i64 x.kind,Pf .i64 x.val,Pf .i64 x.index,Pg pt x.types.length ct,Pg pl x.labels.length cl]] w (fK (bZ m x) F w):=by
 have hm0:=hm
 obtain⟨v0,v1,v2,v3,v4,v5,v6,v7,v8,v9,rfl,r0,r1,r2,r3,r4,r5,r6,r7,r8,r9,g0⟩:=hm
 obtain⟨op,a,b,n,kind,val,index,types,labels⟩:=x
 dsimp only at ha hi hb hj ⊢
 cases hf:cJ m.types a with
 |none=>
  rw[show bZ m ⟨op,a,b,n,kind,val,index,types,labels⟩=(dF,11)from by unfold bZ;dsimp only;rw[hf]]
  obtain⟨T,hTT⟩:∃T:fH,(cJ (bL m) b).getD Bt=T:=⟨_,rfl⟩
  obtain⟨S,hSS⟩:∃T:Bool,(cJ (bL m) b).isSome=T:=⟨_,rfl⟩
  refine Mh ?_
  repeat'(first|refine ar ?_|(refine NO fun b_=>?_)|refine pn ?_|refine Oa ?_|(refine aa.aj (f:=44) ?_;refine aa.he (HE.yZ (F:=F) (r:=none) ak hF rfl rfl (fun w' hw'=>by have:=iH F m a _ w' (hm0.aP (show Ext w w' from hw'.at) (fun _ _ _ h=>h));rw[hf]at this;exact this)) rfl ?_;rintro⟨D_,p_,c_,q_,d_⟩ hD_;dsimp only)|(refine aa.aj (f:=178) ?_;refine aa.au (v:=.tuple #[.agg #[.int .i64 T.elem,.int .i64 T.mZ.min,.int .i64 T.mZ.max,.bool T.mZ.has],.bool S]) rfl rfl rfl (fun w' hw'=>by have:=iG F m b _ w' (hm0.aP (show Ext w w' from hw'.at) (fun _ _ _ h=>h)) hb hj;rw[hTT,hSS]at this;exact this) ?_)|fail)
  all_goals exact ap
 |some f=>
  obtain⟨hl1,hl2⟩:=hT f (m9 hf)
  cases hg:cJ (bL m) b with
  |none=>
   rw[show bZ m ⟨op,a,b,n,kind,val,index,types,labels⟩=(dF,11)from by unfold bZ;dsimp only;rw[hf,hg]]
   refine Mh ?_
   repeat'(first|refine ar ?_|(refine NO fun b_=>?_)|refine pn ?_|refine Oa ?_|(refine aa.aj (f:=44) ?_;refine aa.he (HE.yZ (F:=F) (r:=some f) ak hF rfl rfl (fun w' hw'=>by have:=iH F m a _ w' (hm0.aP (show Ext w w' from hw'.at) (fun _ _ _ h=>h));rw[hf]at this;exact this)) rfl ?_;rintro⟨D_,p_,c_,q_,d_⟩ hD_;dsimp only)|(refine aa.aj (f:=178) ?_;refine aa.au (v:=.tuple #[.agg #[.int .i64 0,.int .i64 0,.int .i64 0,.bool false],.bool false]) rfl rfl rfl (fun w' hw'=>by have:=iG F m b _ w' (hm0.aP (show Ext w w' from hw'.at) (fun _ _ _ h=>h)) hb hj;rw[hg]at this;exact this) ?_)|fail)
   all_goals exact ap
  |some g=>
   obtain⟨te,l1,l2,l3⟩:=g
   by_cases h3:te=3
   ·subst h3
    rw[show bZ m ⟨op,a,b,n,kind,val,index,types,labels⟩=(⟨f.params++[1],f.results⟩,0)from by unfold bZ;dsimp only;rw[hf,hg];rfl]
    refine Mh ?_
    repeat'(first|refine ar ?_|(refine NO fun b_=>?_)|(refine aa.aj (f:=44) ?_;refine aa.he (HE.yZ (F:=F) (r:=some f) ak hF rfl rfl (fun w' hw'=>by have:=iH F m a _ w' (hm0.aP (show Ext w w' from hw'.at) (fun _ _ _ h=>h));rw[hf]at this;exact this)) rfl ?_;rintro⟨D_,p_,c_,q_,d_⟩ hD_;dsimp only)|(refine aa.aj (f:=178) ?_;refine aa.au (v:=.tuple #[.agg #[.int .i64 3,.int .i64 l1,.int .i64 l2,.bool l3],.bool true]) rfl rfl rfl (fun w' hw'=>by have:=iG F m b _ w' (hm0.aP (show Ext w w' from hw'.at) (fun _ _ _ h=>h)) hb hj;rw[hg]at this;exact this) ?_)|fail)
    rename_i b5
    simp only[Option.getD_some]
    refine bh.pure (φ:=f.params.length=0∨∃bk o,p_=some ⟨bk,o,none⟩) (fun w' hw'=>Jj (hw'.get (p:=sW f ⟨D_,p_,c_,q_,d_⟩) ak)) ?_
    intro hp4
    refine bh.cF [.aV b5 [.slice p_ f.params.length c_,.slice q_ f.results.length d_] sw] [sW f ⟨D_,p_,c_,q_,d_⟩,Ext w] bw aU ?_
    repeat'(first|refine pG ?_|(refine ax.lD ?_;refine ax.he rfl rfl (HE.JO (B:=w.heap.size) (fun w' hw'=>(show Ext w w' from hw'.at).size) rfl rfl rfl rfl rfl ep Pe Pe) (fun _=>bw) (fun _=>aU) ?_;rintro b7 hb7;try(refine aN.B9 (B:=w.heap.size) (m:=0) (s:=1) (cs:=[]) aH rfl hb7 Pb ?_))|(refine ax.rl ?_;refine ax.he rfl rfl (HE.gP (aZ f.params) rfl rfl (fun _=>aH) (Fh (a:=⟨D_,p_,c_,q_,d_⟩) hp4 ak) O9 rfl rfl rfl Pe Pe Pe (fj _) OP Pc (fun w' hw'=>(show Ext w w' from hw'.at).size)) (fun _=>bw) (fun _=>aU) ?_;rintro v8 _;refine aN.pure (φ:=∃p c,v8=.slice p (0+f.params.length) c) (fun w' hw'=>by obtain⟨p,c,e,_⟩:=aw (hw'.own (v:=v8));exact⟨p,c,e⟩) ?_;rintro⟨p8,c8,rfl⟩)|(refine ax.rl ?_;refine ax.he rfl rfl (HE.gP [.int .i64 1] rfl rfl (fun _=>aH) (.inr ⟨_,0,rfl,EO bO⟩) rfl rfl rfl rfl Pe Pe Pe (fun u hu=>by rw[List.mem_singleton.1 hu];rfl) (by show(0+f.params.length+1)*8≤_;omega) Pc (fun w' hw'=>(show Ext w w' from hw'.at).size)) (fun _=>bw) (fun _=>aU) ?_;rintro v9 _;refine aN.pure (φ:=∃p c,v9=.slice p (0+f.params.length+1) c) (fun w' hw'=>by obtain⟨p,c,e,_⟩:=aw (hw'.own (v:=v9));exact⟨p,c,e⟩) ?_;rintro⟨p9,c9,rfl⟩)|(refine ax.dz 155 ?_;refine ax.he rfl rfl (HE.eK rfl rfl (fun w' hw'=>gQ p9 q_ (0+f.params.length+1) f.results.length c9 d_ w')) (fun _=>bw) (fun _=>aU) ?_;rintro⟨⟩ _)|(refine ax.nf ?_;refine ax.jQ rfl (gj.bn _ rfl rfl rfl rfl rfl rfl aH rfl) (fun _=>bw) (fun _=>aU) ?_;rintro⟨⟩ _)|refine aN.nil O3 ?_|refine aN.any O3 ?_|exact aB.fin rfl|refine aB.skip O3 ?_|refine aB.go ?_ ?_)
    all_goals
     repeat'(first|refine ar ?_|fail)
     refine Mj ?_
     intro w' hw'
     have e9:w'.ownsRow w.heap.size nU 1 (.slice p9 (0+f.params.length+1) c9) (0+f.params.length+1) ([]++aZ f.params++[.int .i64 1]):=hw'.own
     rw[Pm]at e9
     have g1:ai (fun k=>w.heap.size≤k) w' (.slice p9 (f.params.length+1) c9) (f.params++[1]):=kW (xs:=f.params++[1]) (by simpa[aZ]using e9) (by rw[List.length_append];show f.params.length+1≤_;omega)
     have g2:=(hw'.get (p:=sW f ⟨D_,p_,c_,q_,d_⟩) ak).2
     have e3:(⟨f.params++[1],f.results⟩:aO).params.length=0+f.params.length+1:=by show(f.params++[1]).length=_;rw[List.length_append,Pm];rfl
     exact⟨⟨(.slice p9 (0+f.params.length+1) c9,_),rfl,by rw[Pm];exact g1.mono fun _ _ h=>.inr h,g2.mono fun k _ h=>hD_ k h⟩,hw'.at⟩
   ·rw[show bZ m ⟨op,a,b,n,kind,val,index,types,labels⟩=(dF,12)from by unfold bZ;dsimp only;rw[hf,hg];dsimp only;rw[if_pos h3]]
    refine Mh ?_
    repeat'(first|refine ar ?_|(refine NO fun b_=>?_)|refine pn ?_|refine Oa ?_|(refine aa.aj (f:=44) ?_;refine aa.he (HE.yZ (F:=F) (r:=some f) ak hF rfl rfl (fun w' hw'=>by have:=iH F m a _ w' (hm0.aP (show Ext w w' from hw'.at) (fun _ _ _ h=>h));rw[hf]at this;exact this)) rfl ?_;rintro⟨D_,p_,c_,q_,d_⟩ hD_;dsimp only)|(refine aa.aj (f:=178) ?_;refine aa.au (v:=.tuple #[.agg #[.int .i64 te,.int .i64 l1,.int .i64 l2,.bool l3],.bool true]) rfl rfl rfl (fun w' hw'=>by have:=iG F m b _ w' (hm0.aP (show Ext w w' from hw'.at) (fun _ _ _ h=>h)) hb hj;rw[hg]at this;exact this) ?_)|fail)
    all_goals exact ap
theorem wj (lc ct cl:Nat) (w:World) (hm:av F w cs m) (_hl:ai F w (.slice lp locals.length lc) locals) (_ht:ai F w (.slice pt x.types.length ct) x.types) (_ha:0≤x.a) (_hi:eO x.a) (_hb:0≤x.b) (_hj:eO x.b) (_hF:∀k,F k→k<w.heap.size) (_hT:m7 m) (hk:eQ x.op=1):Calls G.P 122 #[.agg cs.toArray,.slice lp locals.length lc,.agg #[Pf .i64 x.op,Pf .i64 x.a,Pf .i64 x.b,Pf .u64 x.n,Pf .i64 x.kind,Pf .i64 x.val,Pf .i64 x.index,Pg pt x.types.length ct,Pg pl x.labels.length cl]] w (fK (dF,1) F w):=by
 have hm0:=hm
 obtain⟨v0,v1,v2,v3,v4,v5,v6,v7,v8,v9,rfl,r0,r1,r2,r3,r4,r5,r6,r7,r8,r9,g0⟩:=hm
 have hof:∀w',Calls G.P 105 #[.int .i64 x.op] w' fun e w2=>e=.returned (.int .i64 1)∧Ext w' w2:=fun w'=>by have:=dq x.op w';rw[show(eE x.op).2.2=1 from hk]at this;exact this
 refine Ma ?_
 repeat'(first|refine ar ?_|(refine NO fun b_=>?_)|refine pn ?_|refine Ov ?_|fail)
 all_goals exact ap
theorem wk (lc ct cl:Nat) (w:World) (hm:av F w cs m) (_hl:ai F w (.slice lp locals.length lc) locals) (_ht:ai F w (.slice pt x.types.length ct) x.types) (_ha:0≤x.a) (_hi:eO x.a) (_hb:0≤x.b) (_hj:eO x.b) (_hF:∀k,F k→k<w.heap.size) (_hT:m7 m) (hk:eQ x.op=2):Calls G.P 122 #[.agg cs.toArray,.slice lp locals.length lc,.agg #[Pf .i64 x.op,Pf .i64 x.a,Pf .i64 x.b,Pf .u64 x.n,Pf .i64 x.kind,Pf .i64 x.val,Pf .i64 x.index,Pg pt x.types.length ct,Pg pl x.labels.length cl]] w (fK (dF,1) F w):=by
 have hm0:=hm
 obtain⟨v0,v1,v2,v3,v4,v5,v6,v7,v8,v9,rfl,r0,r1,r2,r3,r4,r5,r6,r7,r8,r9,g0⟩:=hm
 have hof:∀w',Calls G.P 105 #[.int .i64 x.op] w' fun e w2=>e=.returned (.int .i64 2)∧Ext w' w2:=fun w'=>by have:=dq x.op w';rw[show(eE x.op).2.2=2 from hk]at this;exact this
 refine Ma ?_
 repeat'(first|refine ar ?_|(refine NO fun b_=>?_)|refine pn ?_|refine Ov ?_|fail)
 all_goals exact ap
theorem wm (lc ct cl:Nat) (w:World) (hm:av F w cs m) (_hl:ai F w (.slice lp locals.length lc) locals) (_ht:ai F w (.slice pt x.types.length ct) x.types) (_ha:0≤x.a) (_hi:eO x.a) (_hb:0≤x.b) (_hj:eO x.b) (_hF:∀k,F k→k<w.heap.size) (_hT:m7 m) (hk:eQ x.op=3):Calls G.P 122 #[.agg cs.toArray,.slice lp locals.length lc,.agg #[Pf .i64 x.op,Pf .i64 x.a,Pf .i64 x.b,Pf .u64 x.n,Pf .i64 x.kind,Pf .i64 x.val,Pf .i64 x.index,Pg pt x.types.length ct,Pg pl x.labels.length cl]] w (fK (dF,1) F w):=by
 have hm0:=hm
 obtain⟨v0,v1,v2,v3,v4,v5,v6,v7,v8,v9,rfl,r0,r1,r2,r3,r4,r5,r6,r7,r8,r9,g0⟩:=hm
 have hof:∀w',Calls G.P 105 #[.int .i64 x.op] w' fun e w2=>e=.returned (.int .i64 3)∧Ext w' w2:=fun w'=>by have:=dq x.op w';rw[show(eE x.op).2.2=3 from hk]at this;exact this
 refine Ma ?_
 repeat'(first|refine ar ?_|(refine NO fun b_=>?_)|refine pn ?_|refine Ov ?_|fail)
 all_goals exact ap
theorem wo (lc ct cl:Nat) (w:World) (hm:av F w cs m) (_hl:ai F w (.slice lp locals.length lc) locals) (_ht:ai F w (.slice pt x.types.length ct) x.types) (ha:0≤x.a) (hi:eO x.a) (hb:0≤x.b) (hj:eO x.b) (hF:∀k,F k→k<w.heap.size) (_hT:m7 m) (hk:eQ x.op=4):Calls G.P 122 #[.agg cs.toArray,.slice lp locals.length lc,.agg #[Pf .i64 x.op,Pf .i64 x.a,Pf .i64 x.b,Pf .u64 x.n,Pf .i64 x.kind,Pf .i64 x.val,Pf .i64 x.index,Pg pt x.types.length ct,Pg pl x.labels.length cl]] w (fK (lP m x) F w):=by
 have hm0:=hm
 obtain⟨v0,v1,v2,v3,v4,v5,v6,v7,v8,v9,rfl,r0,r1,r2,r3,r4,r5,r6,r7,r8,r9,g0⟩:=hm
 have hof:∀w',Calls G.P 105 #[.int .i64 x.op] w' fun e w2=>e=.returned (.int .i64 4)∧Ext w' w2:=fun w'=>by have:=dq x.op w';rw[show(eE x.op).2.2=4 from hk]at this;exact this
 refine Ma ?_
 repeat'(first|refine ar ?_|(refine NO fun b_=>?_)|refine Ov ?_|(refine aa.aj (f:=153) ?_;refine aa.he (HE.rg (F:=F) (r:=lP m x) ak hF rfl rfl (fun w' hw'=>BL F m _ x pt pl ct cl w' (hm0.aP (show Ext w w' from hw'.at) (fun _ _ _ h=>h)) ha hi hb hj (fun k hk=>Pw (hF k hk) (show Ext w w' from hw'.at).size))) rfl ?_;rintro⟨D_,p_,c_,q_,d_⟩ hD_;dsimp only)|fail)
 all_goals first|omega|(refine ah.bB (.inl rfl) rfl rfl rfl rfl rfl aH rfl ?_;exact fun w' hw'=>bD.jm (f0:=(lP m x).1) (tf:=fun y:Value×Value=>.agg #[y.1,y.2,.int .i64 (lP m x).2]) ⟨D_,p_,c_,q_,d_⟩ hw' ak ak hD_)
theorem wu (lc ct cl:Nat) (w:World) (hm:av F w cs m) (_hl:ai F w (.slice lp locals.length lc) locals) (_ht:ai F w (.slice pt x.types.length ct) x.types) (ha:0≤x.a) (hi:eO x.a) (hb:0≤x.b) (hj:eO x.b) (hF:∀k,F k→k<w.heap.size) (hT:m7 m) (hk:eQ x.op=5):Calls G.P 122 #[.agg cs.toArray,.slice lp locals.length lc,.agg #[Pf .i64 x.op,Pf .i64 x.a,Pf .i64 x.b,Pf .u64 x.n,Pf .i64 x.kind,Pf .i64 x.val,Pf .i64 x.index,Pg pt x.types.length ct,Pg pl x.labels.length cl]] w (fK (bZ m x) F w):=by
 have hm0:=hm
 obtain⟨v0,v1,v2,v3,v4,v5,v6,v7,v8,v9,rfl,r0,r1,r2,r3,r4,r5,r6,r7,r8,r9,g0⟩:=hm
 have hof:∀w',Calls G.P 105 #[.int .i64 x.op] w' fun e w2=>e=.returned (.int .i64 5)∧Ext w' w2:=fun w'=>by have:=dq x.op w';rw[show(eE x.op).2.2=5 from hk]at this;exact this
 refine Ma ?_
 repeat'(first|refine ar ?_|(refine NO fun b_=>?_)|refine Ov ?_|(refine aa.aj (f:=154) ?_;refine aa.he (HE.rg (F:=F) (r:=bZ m x) ak hF rfl rfl (fun w' hw'=>uE F m _ x pt pl ct cl w' (hm0.aP (show Ext w w' from hw'.at) (fun _ _ _ h=>h)) ha hi hb hj (fun k hk=>Pw (hF k hk) (show Ext w w' from hw'.at).size) hT)) rfl ?_;rintro⟨D_,p_,c_,q_,d_⟩ hD_;dsimp only)|fail)
 all_goals first|omega|(refine ah.bB (.inl rfl) rfl rfl rfl rfl rfl aH rfl ?_;exact fun w' hw'=>bD.jm (f0:=(bZ m x).1) (tf:=fun y:Value×Value=>.agg #[y.1,y.2,.int .i64 (bZ m x).2]) ⟨D_,p_,c_,q_,d_⟩ hw' ak ak hD_)
theorem wv (lc ct cl:Nat) (w:World) (hm:av F w cs m) (hl:ai F w (.slice lp locals.length lc) locals) (ht:ai F w (.slice pt x.types.length ct) x.types) (_ha:0≤x.a) (hi:eO x.a) (hb:0≤x.b) (_hj:eO x.b) (_hF:∀k,F k→k<w.heap.size) (_hT:m7 m) (hk:eQ x.op=6) (_h1:x.types.length=1):Calls G.P 122 #[.agg cs.toArray,.slice lp locals.length lc,.agg #[Pf .i64 x.op,Pf .i64 x.a,Pf .i64 x.b,Pf .u64 x.n,Pf .i64 x.kind,Pf .i64 x.val,Pf .i64 x.index,Pg pt x.types.length ct,Pg pl x.labels.length cl]] w (fK (⟨[ix x.types 0,ix x.types 0,1],[ix x.types 0]⟩,0) F w):=by
 have:=hl;clear this;have:=hi;clear this;have:=hb;clear this
 have hm0:=hm
 obtain⟨v0,v1,v2,v3,v4,v5,v6,v7,v8,v9,rfl,r0,r1,r2,r3,r4,r5,r6,r7,r8,r9,g0⟩:=hm
 have hof:∀w',Calls G.P 105 #[.int .i64 x.op] w' fun e w2=>e=.returned (.int .i64 6)∧Ext w' w2:=fun w'=>by have:=dq x.op w';rw[show(eE x.op).2.2=6 from hk]at this;exact this
 obtain⟨bt,ot,rfl,-,hc⟩:=ht.at (i:=0) Pc
 have hcell:w.cell? ⟨bt,ot+0,none⟩=some (.int .i64 (ix x.types 0)):=hc 0 Pc
 generalize ix x.types 0=t0 at hcell ⊢
 refine Ma ?_
 repeat'(first|refine ar ?_|(refine NO fun b_=>?_)|refine Ov ?_|fail)
 rename_i b5
 refine Mk ?_
 repeat'(first|refine pG ?_|(refine aN.qy 2 rfl (Yl.gn (i:=0) rfl rfl rfl rfl rfl rfl Pc) ?_)|(refine aN.qy 6 rfl (Yl.gn (i:=0) rfl rfl rfl rfl rfl rfl Pc) ?_)|(refine aN.qy 12 rfl (Yl.gn (i:=0) rfl rfl rfl rfl rfl rfl Pc) ?_)|(refine ax.lD ?_;refine ax.he rfl rfl (HE.jJ rfl rfl rfl rfl rfl ep Pe Pe) (fun _=>bw) (fun _=>aU) ?_;rintro b7 _)|(refine ax.dz 118 ?_;refine ax.he rfl rfl (HE.eK rfl rfl (fun w' hw'=>gq _ _ _ w')) (fun _=>bw) (fun _=>aU) ?_;rintro⟨⟩ _)|(refine ax.dz 155 ?_;refine ax.he rfl rfl (HE.eK rfl rfl (fun w' hw'=>gQ _ _ _ _ _ _ w')) (fun _=>bw) (fun _=>aU) ?_;rintro⟨⟩ _)|(refine ax.nf ?_;refine ax.jQ rfl (gj.bn _ rfl rfl rfl rfl rfl rfl aH rfl) (fun _=>bw) (fun _=>aU) ?_;rintro⟨⟩ _)|refine aN.nil O3 ?_|refine aN.any O3 ?_|exact aB.fin rfl|refine aB.skip O3 ?_|refine aB.go ?_ ?_)
 all_goals repeat'(first|refine ar ?_|fail)
 all_goals first|omega|exact ah.bB (.inl rfl) rfl rfl rfl rfl rfl aH rfl fun w' hw'=>⟨⟨(_,_),rfl,by first|exact kN _ hw' ak (hD:=fun _ h=>.inr h),by first|exact kN _ hw' ak (hD:=fun _ h=>.inr h)⟩,hw'.at⟩
end Go.Proofs.YtdkcljdfbemnbaaGreatDoor
