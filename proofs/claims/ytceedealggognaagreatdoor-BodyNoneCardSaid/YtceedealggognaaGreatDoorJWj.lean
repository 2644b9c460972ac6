/- Layer 5: what a plain instruction is, for the program and the reference alike; alignments. -/
import Derived.Test.YtceedealggognaaGreatDoorJGq
import Derived.Test.YtceedealggognaaGreatDoorJGv
import Derived.Test.YtceedealggognaaGreatDoorJGw
import Derived.Test.YtceedealggognaaGreatDoorJWe
import Derived.Test.YtceedealggognaaGreatDoorJW1
namespace Go.Proofs.YtceedealggognaaGreatDoor
open Go.RowKit
set_option maxRecDepth 100000
theorem n9 (a:Int):aI a=true↔(0≤a∧a<4294967296):=by unfold aI;simp
theorem CS {P:Prop} [Decidable P] {b:Bool}:(if P then false else b)=true↔(¬P∧b=true):=by by_cases h:P<;>simp[h]
set_option maxHeartbeats 4000000 in
theorem wi (known:Bool) (k a b n kind val index:Int) (nt:Nat) (t0:Int) (labels:List Int) (hk:0≤k∧k≤20):bn known (kY k) (kZ k) (k8 k) k a b n kind val index nt t0 labels=rf known k a b n kind val index nt labels.length t0 (labels.all aI):=by
 have:k=0∨k=1∨k=2∨k=3∨k=4∨k=5∨k=6∨k=7∨k=8∨k=9∨k=10∨k=11∨k=12∨k=13∨k=14∨k=15∨k=16∨k=17∨k=18∨k=19∨k=20:=by omega
 rcases this with rfl|rfl|rfl|rfl|rfl|rfl|rfl|rfl|rfl|rfl|rfl|rfl|rfl|rfl|rfl|rfl|rfl|rfl|rfl|rfl|rfl
 all_goals
  unfold bn rf
  rw[Bool.eq_iff_iff]
  simp[kY,kZ,k8,n9]
  try grind
theorem q8 (F:Nat→Prop) (x:bZ) (pt pl:Option Addr) (ct cl:Nat) (w:World) (h0:dG w) (ht:af F w (.slice pt x.types.length ct) x.types) (hl:af F w (.slice pl x.labels.length cl) x.labels):Calls G.P 83 #[.agg #[Value.int .i64 x.op,Value.int .i64 x.a,Value.int .i64 x.b,Value.int .u64 x.n,Value.int .i64 x.kind,Value.int .i64 x.val,Value.int .i64 x.index,Value.slice pt x.types.length ct,Value.slice pl x.labels.length cl]] w fun e w'=>e=.returned (.bool (cW x))∧Ext w w':=by
 have hkn:∀w',Ext w w'→Calls G.P 127 #[.int .i64 x.op] w' fun e w2=>e=.returned (.bool (gN x.op).isSome)∧Ext w' w2:=fun w' hx=>by rw[←sD];exact lV _ w' (h0.ext hx)
 have hof:∀w',Ext w w'→Calls G.P 98 #[.int .i64 x.op] w' fun e w2=>e=.returned (.int .i64 (ir x.op))∧Ext w' w2:=fun w' hx=>ez _ w' (h0.ext hx)
 have hu:∀w',Ext w w'→Calls G.P 126 #[.int .i64 (ir x.op)] w' fun e w2=>e=.returned (.tuple #[.bool (kY (ir x.op)),.bool (kZ (ir x.op)),.bool (k8 (ir x.op))])∧Ext w' w2:=fun w' _=>sH _ w'
 have hcell:x.types.length=1→∃bt ot,pt=some ⟨bt,ot,none⟩∧w.cell? ⟨bt,ot+0,none⟩=some (.int .i64 (ix x.types 0)):=fun h1=>by
  obtain⟨b7,o7,rfl,-,hc⟩:=ht.at (i:=0) FY
  exact⟨b7,o7,rfl,hc 0 FY⟩
 have hr:=z7 x.op
 have key:cW x=bn (gN x.op).isSome (kY (ir x.op)) (kZ (ir x.op)) (k8 (ir x.op)) (ir x.op) x.a x.b x.n x.kind x.val x.index x.types.length (ix x.types 0) x.labels:=by
  rw[qm,ql,wi _ _ _ _ _ _ _ _ _ _ _ hr]
 rw[key]
 cases hf:(gN x.op).isSome with
 |false=>
  rw[hf]at hkn
  rw[show∀ua ub un k a b n kind val index nt t0 labels,bn false ua ub un k a b n kind val index nt t0 labels=false from fun _ _ _ _ _ _ _ _ _ _ _ _ _=>by simp[bn]]
  exact pA _ _ _ _ _ _ _ _ _ _ _ _ _ _ _ _ _ w hkn hof hu
 |true=>
  rw[hf]at hkn
  generalize ir x.op=k at*
  have:k=0∨k=1∨k=3∨k=6∨k=13∨k=17∨k=18∨k=19∨k=20∨(k=2∨k=4∨k=7∨k=8∨k=9∨k=12∨k=16)∨(k=5∨k=10∨k=11∨k=14∨k=15):=by omega
  rcases this with rfl|rfl|rfl|rfl|rfl|rfl|rfl|rfl|rfl|h|h
  ·exact ox F _ _ _ _ _ _ _ _ _ _ _ _ _ _ w hl hkn hof hu
  ·exact oy F _ _ _ _ _ _ _ _ _ _ _ _ _ _ w hl hkn hof hu
  ·exact oz F _ _ _ _ _ _ _ _ _ _ _ _ _ _ w hl hkn hof hu
  ·by_cases h1:x.types.length=1
   ·obtain⟨bt,ot,rfl,hc⟩:=hcell h1
    rw[h1]
    exact nm F _ _ _ _ _ _ _ _ _ bt ot _ _ _ w hc hl hkn hof hu
   ·exact np F _ _ _ _ _ _ _ _ _ _ _ _ _ _ w FY hl hkn hof hu
  ·exact ng F _ _ _ _ _ _ _ _ _ _ _ _ _ _ w hl hkn hof hu
  ·exact nh F _ _ _ _ _ _ _ _ _ _ _ _ _ _ w hl hkn hof hu
  ·exact ni F _ _ _ _ _ _ _ _ _ _ _ _ _ _ w hl hkn hof hu
  ·exact nj F _ _ _ _ _ _ _ _ _ _ _ _ _ _ w hl hkn hof hu
  ·exact nk F _ _ _ _ _ _ _ _ _ _ _ _ _ _ w hl hkn hof hu
  ·have ea:kY k=true:=by unfold kY;simp;omega
   have eb:kZ k=false:=by unfold kZ;simp;omega
   have en:k8 k=false:=by unfold k8;simp;omega
   rw[ea,eb,en]at hu ⊢
   exact oA F _ _ _ _ _ _ _ _ _ _ _ _ _ _ k w FY FY FY FY FY FY hl hkn hof hu
  ·have ea:kY k=true:=by unfold kY;simp;omega
   have eb:kZ k=true:=by unfold kZ;simp;omega
   have en:k8 k=false:=by unfold k8;simp;omega
   rw[ea,eb,en]at hu ⊢
   exact oB F _ _ _ _ _ _ _ _ _ _ _ _ _ _ k w FY FY FY FY FY FY hl hkn hof hu
theorem uB:(zm.all fun r=>decide (gL r.1=0) || decide (gL r.1=1) || decide (gL r.1=2) || decide (gL r.1=4) || decide (gL r.1=8))=true:=by decide+kernel
theorem yv (op:Int):fD op=0∨fD op=1∨fD op=2∨fD op=4∨fD op=8:=by
 rw[tm]
 cases h:gN op with
 |some r=>
  have:=List.all_eq_true.1 uB r (List.mem_of_find?_eq_some h)
  have e:r.1=op:=by have:=List.find?_some h;simpa using this
  rw[e]at this
  simp only[Bool.or_eq_true,decide_eq_true_eq]at this
  omega
 |none=>left;unfold gL mK;rw[h];rfl
theorem vt (k:Int) (hk:k=0∨k=1∨k=2∨k=4∨k=8) (op:Int) (w:World) (hw:∀w',Ext w w'→Calls G.P 136 #[.int .i64 op] w' fun e w2=>e=.returned (.int .i64 k)∧Ext w' w2):Calls G.P 146 #[.int .i64 op] w fun e w'=>e=.returned (.int .i64 (if k=2 then 1 else if k=4 then 2 else if k=8 then 3 else 0))∧Ext w w':=by
 obtain⟨fk,hfk,hfk3⟩:∃fk:Int,(if k=2 then 1 else if k=4 then 2 else if k=8 then 3 else 0)=fk∧fk≤3:=⟨_,rfl,by rcases hk with rfl|rfl|rfl|rfl|rfl<;>decide⟩
 rw[hfk]
 refine aj (l:=[_]) Tryz.func146 rfl Tryz.ntmps146 rfl (Ok.start w) ?_
 repeat'(first|refine ay ?_|(refine aa.ak (f:=136) ?_;refine aa.az rfl rfl rfl (fun w' hw'=>hw w' hw'.at) ?_)|fail)
 refine aP.loop (σ:=Nat×Int) (fun s=>[(3,.int .i64 s.1),(4,.int .i64 s.2)]) (fun _=>[]) (fun _=>[Ext w]) (fun s=>(s.2=0∨s.2=1∨s.2=2∨s.2=4∨s.2=8)∧(s.1:Int)+(if s.2=2 then 1 else if s.2=4 then 2 else if s.2=8 then 3 else 0)=fk) (fun s=>s.2.toNat) (0,k) bP bN aX ⟨hk,by simp[hfk]⟩ ?_
 rintro⟨j,q⟩ ⟨hq,he⟩
 dsimp only at hq he ⊢
 rcases hq with rfl|rfl|rfl|rfl|rfl
 ·have he':(j:Int)+0=fk:=he
  repeat'(first|refine ay ?_|fail)
  all_goals exact ai.aA rfl rfl fun w' hw'=>⟨by rw[show fk=(j:Int)by omega],hw'.at⟩
 ·have he':(j:Int)+0=fk:=he
  repeat'(first|refine ay ?_|fail)
  all_goals exact ai.aA rfl rfl fun w' hw'=>⟨by rw[show fk=(j:Int)by omega],hw'.at⟩
 ·have he':(j:Int)+1=fk:=he
  repeat'(first|refine ay ?_|(refine aa.y_ (Yl.quo (r:=1) rfl rfl (fun w=>by kernel_rfl)) rfl ?_)|fail)
  all_goals exact ai.next (j+1,1) bP bN aX ⟨by simp,by show((j+1:Nat):Int)+0=fk;omega⟩ (by show(1:Int).toNat<(2:Int).toNat;decide)
 ·have he':(j:Int)+2=fk:=he
  repeat'(first|refine ay ?_|(refine aa.y_ (Yl.quo (r:=2) rfl rfl (fun w=>by kernel_rfl)) rfl ?_)|fail)
  all_goals exact ai.next (j+1,2) bP bN aX ⟨by simp,by show((j+1:Nat):Int)+1=fk;omega⟩ (by show(2:Int).toNat<(4:Int).toNat;decide)
 ·have he':(j:Int)+3=fk:=he
  repeat'(first|refine ay ?_|(refine aa.y_ (Yl.quo (r:=4) rfl rfl (fun w=>by kernel_rfl)) rfl ?_)|fail)
  all_goals exact ai.next (j+1,4) bP bN aX ⟨by simp,by show((j+1:Nat):Int)+2=fk;omega⟩ (by show(4:Int).toNat<(8:Int).toNat;decide)
theorem q7 (op:Int) (w:World) (h0:dG w):Calls G.P 146 #[.int .i64 op] w fun e w'=>e=.returned (.int .i64 (qB op))∧Ext w w':=by
 unfold qB
 exact vt _ (yv op) op w fun w' hx=>lW op w' (h0.ext hx)
theorem sF (op:Int) (w:World) (h0:dG w):Calls G.P 107 #[.int .i64 op] w (kh (fR op) (fun _=>False) w):=
 (tV op w h0).mono fun e w' ⟨⟨v,e1,hv⟩,hx⟩=>by
  obtain⟨_,rfl,p,r,rfl,h1,h2⟩:=hv
  exact⟨⟨(p,r),e1,h1.mono fun _ _ h=>.inr h,h2.mono fun _ _ h=>.inr h⟩,hx⟩
def eD (m:ae) (locals:List Int) (x:bZ):aC×Int:=
 let k:=ir x.op
 if k=4 then db m x else if k=5 then dc m x else if k=6 then(⟨[ix x.types 0,ix x.types 0,1],[ix x.types 0]⟩,0)else if k=7 then fM locals x else if k=8 then ek m x else if k=9 then ep m x else
 if k=20 then(⟨[],[x.a]⟩,0)else if iV m x≠0 then(gw,iV m x)else((fR x.op).getD gw,0)
def wS (m:ae):Prop:=∀f∈m.types,f.params.length≤17592186043904∧f.results.length≤17592186043904
theorem kC {α:Type} [Inhabited α] {l:List α} {i:Int} {f:α} (h:eE l i=some f):f∈l:=by
 unfold eE at h
 split at h
 ·rename_i hc
  cases h
  rw[cI FY];exact List.getElem_mem _
 ·cases h
theorem AJ:(zm.all fun r=>!decide (r.2.2=9) || (decide (r.1=37) || decide (r.1=38) || decide (r.1=64528) || decide (r.1=64527) || decide (r.1=64529)))=true:=by decide+kernel
theorem Bt {op:Int} (h:ir op=9):op=37∨op=38∨op=64528∨op=64527∨op=64529:=by
 obtain⟨r,hr,h1,h2⟩:=zi (op:=op) FY
 have:=List.all_eq_true.1 AJ r hr
 rw[h2,h,h1]at this
 simpa[or_assoc]using this
theorem jN {x:bZ} (h:cW x=true):gJ x.a∧gJ x.b∧0≤x.a∧0≤x.b∧(ir x.op=6→x.types.length=1):=by
 have hr:=z7 x.op
 rw[qm,ql]at h
 unfold rf at h
 unfold gJ
 generalize ir x.op=k at*
 have:k=0∨k=1∨k=2∨k=3∨k=4∨k=5∨k=6∨k=7∨k=8∨k=9∨k=10∨k=11∨k=12∨k=13∨k=14∨k=15∨k=16∨k=17∨k=18∨k=19∨k=20:=by omega
 rcases this with rfl|rfl|rfl|rfl|rfl|rfl|rfl|rfl|rfl|rfl|rfl|rfl|rfl|rfl|rfl|rfl|rfl|rfl|rfl|rfl|rfl
 all_goals
  simp[n9]at h
  omega
theorem mc {g g':Prop} (h:g') (hw:dP g'→g:=by(intro hk_;(first|(refine aa.ak (f:=98) ?_;refine aa.az rfl rfl rfl (fun w' hw'=>hof w' hw'.at) ?_));exact hk_.out)):g:=hw ⟨h⟩
set_option maxHeartbeats 4000000 in
theorem rn (B:Nat) (F:Nat→Prop) (m:ae) (locals:List Int) (v:Value) (x:bZ) (lp pt pl:Option Addr) (lc ct cl:Nat) (w:World) (h0:dG w) (h:aV B m w v) (_hl:af F w (.slice lp locals.length lc) locals) (_ht:af F w (.slice pt x.types.length ct) x.types) (hp:cW x=true) (_hT:wS m) (hk:ir x.op=4):Calls G.P 59 #[v,.slice lp locals.length lc,.agg #[Value.int .i64 x.op,Value.int .i64 x.a,Value.int .i64 x.b,Value.int .u64 x.n,Value.int .i64 x.kind,Value.int .i64 x.val,Value.int .i64 x.index,Value.slice pt x.types.length ct,Value.slice pl x.labels.length cl]] w (fU (db m x) (fun _=>False) w):=by
 obtain⟨a1,a2,a3,a4,-⟩:=jN hp
 have hof:∀w',Ext w w'→Calls G.P 98 #[.int .i64 x.op] w' fun e w2=>e=.returned (.int .i64 4)∧Ext w' w2:=fun w' hx=>by have:=ez x.op w' (h0.ext hx);rw[hk]at this;exact this
 refine E5 ?_
 repeat'(first|refine ay ?_|(refine Fb fun b_=>?_)|refine mc ?_|(refine aa.ak (f:=99) ?_;refine aa.he (HE.yh (r:=(db m x)) ao rfl rfl (fun w' hw'=>pE B m v x pt pl ct cl w' (h.aB (show Ext w w' from hw'.at) (fun _ _ h=>h)) a1)) rfl ?_;rintro⟨D_,p_,c_,q_,d_⟩ hD_;dsimp only)|fail)
 all_goals(refine ai.bh (.inl rfl) rfl rfl rfl rfl rfl bM rfl rfl ?_;exact fun w' hw'=>eU.mZ (f0:=(db m x).1) (tf:=fun y:Value×Value=>.tuple #[.agg #[y.1,y.2],.int .i64 (db m x).2]) ⟨D_,p_,c_,q_,d_⟩ hw' ao ao hD_)
set_option maxHeartbeats 4000000 in
theorem rq (B:Nat) (F:Nat→Prop) (m:ae) (locals:List Int) (v:Value) (x:bZ) (lp pt pl:Option Addr) (lc ct cl:Nat) (w:World) (h0:dG w) (h:aV B m w v) (_hl:af F w (.slice lp locals.length lc) locals) (_ht:af F w (.slice pt x.types.length ct) x.types) (hp:cW x=true) (hT:wS m) (hk:ir x.op=5):Calls G.P 59 #[v,.slice lp locals.length lc,.agg #[Value.int .i64 x.op,Value.int .i64 x.a,Value.int .i64 x.b,Value.int .u64 x.n,Value.int .i64 x.kind,Value.int .i64 x.val,Value.int .i64 x.index,Value.slice pt x.types.length ct,Value.slice pl x.labels.length cl]] w (fU (dc m x) (fun _=>False) w):=by
 obtain⟨a1,a2,a3,a4,-⟩:=jN hp
 have hof:∀w',Ext w w'→Calls G.P 98 #[.int .i64 x.op] w' fun e w2=>e=.returned (.int .i64 5)∧Ext w' w2:=fun w' hx=>by have:=ez x.op w' (h0.ext hx);rw[hk]at this;exact this
 refine E5 ?_
 repeat'(first|refine ay ?_|(refine Fb fun b_=>?_)|refine mc ?_|(refine aa.ak (f:=100) ?_;refine aa.he (HE.yh (r:=(dc m x)) ao rfl rfl (fun w' hw'=>pF B m v x pt pl ct cl w' (h.aB (show Ext w w' from hw'.at) (fun _ _ h=>h)) (fun f hf=>⟨(hT f (kC hf)).1,by have:=(hT f (kC hf)).2;omega⟩))) rfl ?_;rintro⟨D_,p_,c_,q_,d_⟩ hD_;dsimp only)|fail)
 all_goals(refine ai.bh (.inl rfl) rfl rfl rfl rfl rfl bM rfl rfl ?_;exact fun w' hw'=>eU.mZ (f0:=(dc m x).1) (tf:=fun y:Value×Value=>.tuple #[.agg #[y.1,y.2],.int .i64 (dc m x).2]) ⟨D_,p_,c_,q_,d_⟩ hw' ao ao hD_)
set_option maxHeartbeats 4000000 in
theorem ru (B:Nat) (F:Nat→Prop) (m:ae) (locals:List Int) (v:Value) (x:bZ) (lp pt pl:Option Addr) (lc ct cl:Nat) (w:World) (h0:dG w) (_h:aV B m w v) (hl:af F w (.slice lp locals.length lc) locals) (_ht:af F w (.slice pt x.types.length ct) x.types) (hp:cW x=true) (_hT:wS m) (hk:ir x.op=7):Calls G.P 59 #[v,.slice lp locals.length lc,.agg #[Value.int .i64 x.op,Value.int .i64 x.a,Value.int .i64 x.b,Value.int .u64 x.n,Value.int .i64 x.kind,Value.int .i64 x.val,Value.int .i64 x.index,Value.slice pt x.types.length ct,Value.slice pl x.labels.length cl]] w (fU (fM locals x) (fun _=>False) w):=by
 obtain⟨a1,a2,a3,a4,-⟩:=jN hp
 have hof:∀w',Ext w w'→Calls G.P 98 #[.int .i64 x.op] w' fun e w2=>e=.returned (.int .i64 7)∧Ext w' w2:=fun w' hx=>by have:=ez x.op w' (h0.ext hx);rw[hk]at this;exact this
 refine E5 ?_
 repeat'(first|refine ay ?_|(refine Fb fun b_=>?_)|refine mc ?_|(refine aa.ak (f:=102) ?_;refine aa.he (HE.yh (r:=(fM locals x)) ao rfl rfl (fun w' hw'=>ug F locals x lp pt pl lc ct cl w' (hl.aB (show Ext w w' from hw'.at) (fun _ _ _ h=>h)) a3)) rfl ?_;rintro⟨D_,p_,c_,q_,d_⟩ hD_;dsimp only)|fail)
 all_goals(refine ai.bh (.inl rfl) rfl rfl rfl rfl rfl bM rfl rfl ?_;exact fun w' hw'=>eU.mZ (f0:=(fM locals x).1) (tf:=fun y:Value×Value=>.tuple #[.agg #[y.1,y.2],.int .i64 (fM locals x).2]) ⟨D_,p_,c_,q_,d_⟩ hw' ao ao hD_)
set_option maxHeartbeats 4000000 in
theorem ry (B:Nat) (F:Nat→Prop) (m:ae) (locals:List Int) (v:Value) (x:bZ) (lp pt pl:Option Addr) (lc ct cl:Nat) (w:World) (h0:dG w) (h:aV B m w v) (_hl:af F w (.slice lp locals.length lc) locals) (_ht:af F w (.slice pt x.types.length ct) x.types) (hp:cW x=true) (_hT:wS m) (hk:ir x.op=8):Calls G.P 59 #[v,.slice lp locals.length lc,.agg #[Value.int .i64 x.op,Value.int .i64 x.a,Value.int .i64 x.b,Value.int .u64 x.n,Value.int .i64 x.kind,Value.int .i64 x.val,Value.int .i64 x.index,Value.slice pt x.types.length ct,Value.slice pl x.labels.length cl]] w (fU (ek m x) (fun _=>False) w):=by
 obtain⟨a1,a2,a3,a4,-⟩:=jN hp
 have hof:∀w',Ext w w'→Calls G.P 98 #[.int .i64 x.op] w' fun e w2=>e=.returned (.int .i64 8)∧Ext w' w2:=fun w' hx=>by have:=ez x.op w' (h0.ext hx);rw[hk]at this;exact this
 refine E5 ?_
 repeat'(first|refine ay ?_|(refine Fb fun b_=>?_)|refine mc ?_|(refine aa.ak (f:=103) ?_;refine aa.he (HE.yh (r:=(ek m x)) ao rfl rfl (fun w' hw'=>sQ B m v x pt pl ct cl w' (h.aB (show Ext w w' from hw'.at) (fun _ _ h=>h)))) rfl ?_;rintro⟨D_,p_,c_,q_,d_⟩ hD_;dsimp only)|fail)
 all_goals(refine ai.bh (.inl rfl) rfl rfl rfl rfl rfl bM rfl rfl ?_;exact fun w' hw'=>eU.mZ (f0:=(ek m x).1) (tf:=fun y:Value×Value=>.tuple #[.agg #[y.1,y.2],.int .i64 (ek m x).2]) ⟨D_,p_,c_,q_,d_⟩ hw' ao ao hD_)
set_option maxHeartbeats 4000000 in
theorem rz (B:Nat) (F:Nat→Prop) (m:ae) (locals:List Int) (v:Value) (x:bZ) (lp pt pl:Option Addr) (lc ct cl:Nat) (w:World) (h0:dG w) (h:aV B m w v) (_hl:af F w (.slice lp locals.length lc) locals) (_ht:af F w (.slice pt x.types.length ct) x.types) (hp:cW x=true) (_hT:wS m) (hk:ir x.op=9):Calls G.P 59 #[v,.slice lp locals.length lc,.agg #[Value.int .i64 x.op,Value.int .i64 x.a,Value.int .i64 x.b,Value.int .u64 x.n,Value.int .i64 x.kind,Value.int .i64 x.val,Value.int .i64 x.index,Value.slice pt x.types.length ct,Value.slice pl x.labels.length cl]] w (fU (ep m x) (fun _=>False) w):=by
 obtain⟨a1,a2,a3,a4,-⟩:=jN hp
 have hof:∀w',Ext w w'→Calls G.P 98 #[.int .i64 x.op] w' fun e w2=>e=.returned (.int .i64 9)∧Ext w' w2:=fun w' hx=>by have:=ez x.op w' (h0.ext hx);rw[hk]at this;exact this
 refine E5 ?_
 repeat'(first|refine ay ?_|(refine Fb fun b_=>?_)|refine mc ?_|(refine aa.ak (f:=104) ?_;refine aa.he (HE.yh (r:=(ep m x)) ao rfl rfl (fun w' hw'=>sR B m v x pt pl ct cl w' (h.aB (show Ext w w' from hw'.at) (fun _ _ h=>h)) (Bt hk))) rfl ?_;rintro⟨D_,p_,c_,q_,d_⟩ hD_;dsimp only)|fail)
 all_goals(refine ai.bh (.inl rfl) rfl rfl rfl rfl rfl bM rfl rfl ?_;exact fun w' hw'=>eU.mZ (f0:=(ep m x).1) (tf:=fun y:Value×Value=>.tuple #[.agg #[y.1,y.2],.int .i64 (ep m x).2]) ⟨D_,p_,c_,q_,d_⟩ hw' ao ao hD_)
set_option maxHeartbeats 4000000 in
theorem pI (B:Nat) (F:Nat→Prop) (m:ae) (locals:List Int) (v:Value) (x:bZ) (lp pt pl:Option Addr) (lc ct cl:Nat) (w:World) (h0:dG w) (_h:aV B m w v) (_hl:af F w (.slice lp locals.length lc) locals) (_ht:af F w (.slice pt x.types.length ct) x.types) (hp:cW x=true) (_hT:wS m) (hk:ir x.op=20):Calls G.P 59 #[v,.slice lp locals.length lc,.agg #[Value.int .i64 x.op,Value.int .i64 x.a,Value.int .i64 x.b,Value.int .u64 x.n,Value.int .i64 x.kind,Value.int .i64 x.val,Value.int .i64 x.index,Value.slice pt x.types.length ct,Value.slice pl x.labels.length cl]] w (fU (⟨[],[x.a]⟩,0) (fun _=>False) w):=by
 obtain⟨a1,a2,a3,a4,a5⟩:=jN hp
 have hof:∀w',Ext w w'→Calls G.P 98 #[.int .i64 x.op] w' fun e w2=>e=.returned (.int .i64 20)∧Ext w' w2:=fun w' hx=>by have:=ez x.op w' (h0.ext hx);rw[hk]at this;exact this
 refine E5 ?_
 repeat'(first|refine ay ?_|(refine Fb fun b_=>?_)|(refine fP fun b_ _=>?_)|refine mc ?_|(refine aa.ak (f:=101) ?_;refine aa.az rfl rfl rfl (fun w' hw'=>nJ _ _ _ _ _ _ w') ?_)|fail)
 all_goals exact f8
set_option maxHeartbeats 4000000 in
theorem rr (B:Nat) (F:Nat→Prop) (m:ae) (locals:List Int) (v:Value) (x:bZ) (lp pt pl:Option Addr) (lc ct cl:Nat) (w:World) (h0:dG w) (_h:aV B m w v) (_hl:af F w (.slice lp locals.length lc) locals) (ht:af F w (.slice pt x.types.length ct) x.types) (hp:cW x=true) (_hT:wS m) (hk:ir x.op=6):Calls G.P 59 #[v,.slice lp locals.length lc,.agg #[Value.int .i64 x.op,Value.int .i64 x.a,Value.int .i64 x.b,Value.int .u64 x.n,Value.int .i64 x.kind,Value.int .i64 x.val,Value.int .i64 x.index,Value.slice pt x.types.length ct,Value.slice pl x.labels.length cl]] w (fU (⟨[ix x.types 0,ix x.types 0,1],[ix x.types 0]⟩,0) (fun _=>False) w):=by
 obtain⟨a1,a2,a3,a4,a5⟩:=jN hp
 have h1:=a5 hk
 obtain⟨bt,ot,rfl,-,hc⟩:=ht.at (i:=0) FY
 have hcell:w.cell? ⟨bt,ot+0,none⟩=some (.int .i64 (ix x.types 0)):=hc 0 FY
 generalize ix x.types 0=t0 at hcell ⊢
 have hof:∀w',Ext w w'→Calls G.P 98 #[.int .i64 x.op] w' fun e w2=>e=.returned (.int .i64 6)∧Ext w' w2:=fun w' hx=>by have:=ez x.op w' (h0.ext hx);rw[hk]at this;exact this
 refine E5 ?_
 repeat'(first|refine ay ?_|(refine Fb fun b_=>?_)|refine mc ?_|fail)
 rename_i b5
 refine aP.du [.aH b5 [Value.int .i64 x.op,Value.int .i64 x.a,Value.int .i64 x.b,Value.int .u64 x.n,Value.int .i64 x.kind,Value.int .i64 x.val,Value.int .i64 x.index,Value.slice (some ⟨bt,ot,none⟩) x.types.length ct,Value.slice pl x.labels.length cl] 63] [Ext w] bN aX ?_
 repeat'(first|refine tx ?_|(refine aN.qy 2 rfl (Yl.fL (i:=0) rfl rfl rfl rfl rfl rfl FY) ?_)|(refine aN.qy 6 rfl (Yl.fL (i:=0) rfl rfl rfl rfl rfl rfl FY) ?_)|(refine aN.qy 11 rfl (Yl.fL (i:=0) rfl rfl rfl rfl rfl rfl FY) ?_)|(refine aK.vL ?_;refine aK.he rfl rfl (HE.mq rfl rfl rfl rfl rfl fS F0 F0) (fun _=>bN) (fun _=>aX) ?_;rintro b7 _)|(refine aK.fe 101 ?_;refine aK.he rfl rfl (HE.kl rfl rfl (fun w' hw'=>nJ _ _ _ _ _ _ w')) (fun _=>bN) (fun _=>aX) ?_;rintro⟨⟩ _)|(refine aK.yX ?_;refine aK.nc rfl (gI.aL _ rfl rfl rfl rfl rfl rfl bM rfl) (fun _=>bN) (fun _=>aX) ?_;rintro⟨⟩ _)|refine aN.nil FR ?_|refine aN.any FR ?_|exact aE.fin rfl|refine aE.skip FR ?_|refine aE.go ?_ ?_)
 all_goals
  repeat'(first|refine ay ?_|fail)
  all_goals first|omega|exact ai.bh (.inl rfl) rfl rfl rfl rfl rfl bM rfl rfl fun w' hw'=>⟨⟨(_,_),rfl,by first|exact kj _ hw' ao (hD:=fun _ h=>.inr h),by first|exact kj _ hw' ao (hD:=fun _ h=>.inr h)⟩,hw'.at⟩
theorem sS (B:Nat) (m:ae) (v:Value) (x:bZ) (pt pl:Option Addr) (ct cl:Nat) (w:World) (h0:dG w) (h:aV B m w v):Calls G.P 105 #[v,.agg #[Value.int .i64 x.op,Value.int .i64 x.a,Value.int .i64 x.b,Value.int .u64 x.n,Value.int .i64 x.kind,Value.int .i64 x.val,Value.int .i64 x.index,Value.slice pt x.types.length ct,Value.slice pl x.labels.length cl]] w fun e w'=>e=.returned (.int .i64 (iV m x))∧Ext w w':=by
 have ho:∀w',Ext w w'→Calls G.P 98 #[.int .i64 x.op] w' fun e w2=>e=.returned (.int .i64 (ir x.op))∧Ext w' w2:=fun w' hx=>ez x.op w' (h0.ext hx)
 have ha:∀w',Ext w w'→Calls G.P 146 #[.int .i64 x.op] w' fun e w2=>e=.returned (.int .i64 (qB x.op))∧Ext w' w2:=fun w' hx=>q7 x.op w' (h0.ext hx)
 unfold iV
 generalize ir x.op=k at ho ⊢
 exact pH B m v _ _ _ _ _ _ _ _ _ _ _ _ _ k _ w h ho ha
set_option maxHeartbeats 4000000 in
theorem rA (B:Nat) (F:Nat→Prop) (m:ae) (locals:List Int) (v:Value) (x:bZ) (lp pt pl:Option Addr) (lc ct cl:Nat) (w:World) (h0:dG w) (h:aV B m w v) (_hl:af F w (.slice lp locals.length lc) locals) (_ht:af F w (.slice pt x.types.length ct) x.types) (hk:ir x.op≠4∧ir x.op≠5∧ir x.op≠6∧ir x.op≠7∧ir x.op≠8∧ir x.op≠9∧ir x.op≠20):Calls G.P 59 #[v,.slice lp locals.length lc,.agg #[Value.int .i64 x.op,Value.int .i64 x.a,Value.int .i64 x.b,Value.int .u64 x.n,Value.int .i64 x.kind,Value.int .i64 x.val,Value.int .i64 x.index,Value.slice pt x.types.length ct,Value.slice pl x.labels.length cl]] w (fU (if iV m x≠0 then(gw,iV m x)else((fR x.op).getD gw,0)) (fun _=>False) w):=by
 have hof:∀w',Ext w w'→Calls G.P 98 #[.int .i64 x.op] w' fun e w2=>e=.returned (.int .i64 (ir x.op))∧Ext w' w2:=fun w' hx=>ez x.op w' (h0.ext hx)
 have hth:∀w',Ext w w'→Calls G.P 105 #[v,.agg #[Value.int .i64 x.op,Value.int .i64 x.a,Value.int .i64 x.b,Value.int .u64 x.n,Value.int .i64 x.kind,Value.int .i64 x.val,Value.int .i64 x.index,Value.slice pt x.types.length ct,Value.slice pl x.labels.length cl]] w' fun e w2=>e=.returned (.int .i64 (iV m x))∧Ext w' w2:=fun w' hx=>sS B m v x pt pl ct cl w' (h0.ext hx) (h.aB hx (fun _ _ h=>h))
 obtain⟨k1,k2,k3,k4,k5,k6,k7⟩:=hk
 generalize ir x.op=k at*
 generalize iV m x=e0 at*
 by_cases he:e0=0
 ·rw[if_neg FY]
  refine E5 ?_
  repeat'(first|refine ay ?_|(refine Fb fun b_=>?_)|refine mc ?_|(refine aa.ak (f:=105) ?_;refine aa.az rfl rfl rfl (fun w' hw'=>hth w' hw'.at) ?_)|(refine aa.ak (f:=107) ?_;refine aa.he (HE.lB (r:=fR x.op) ao rfl rfl (fun w' hw'=>sF x.op w' (h0.ext hw'.at))) rfl ?_;rintro⟨D_,p_,c_,q_,d_⟩ hD_;dsimp only)|fail)
  all_goals(refine ai.bh (.inl rfl) rfl rfl rfl rfl rfl bM rfl rfl ?_;exact fun w' hw'=>eU.mZ (f0:=(fR x.op).getD gw) (tf:=fun y:Value×Value=>.tuple #[.agg #[y.1,y.2],.int .i64 0]) ⟨D_,p_,c_,q_,d_⟩ hw' ao ao hD_)
 ·rw[if_pos he]
  refine E5 ?_
  repeat'(first|refine ay ?_|(refine Fb fun b_=>?_)|refine mc ?_|(refine aa.ak (f:=105) ?_;refine aa.az rfl rfl rfl (fun w' hw'=>hth w' hw'.at) ?_)|(refine aa.ak (f:=106) ?_;refine aa.az rfl rfl rfl (fun w' hw'=>oR _ w') ?_)|fail)
  all_goals exact gc
theorem ui (B:Nat) (F:Nat→Prop) (m:ae) (locals:List Int) (v:Value) (x:bZ) (lp pt pl:Option Addr) (lc ct cl:Nat) (w:World) (h0:dG w) (h:aV B m w v) (hl:af F w (.slice lp locals.length lc) locals) (ht:af F w (.slice pt x.types.length ct) x.types) (hp:cW x=true) (hT:wS m):Calls G.P 59 #[v,.slice lp locals.length lc,.agg #[Value.int .i64 x.op,Value.int .i64 x.a,Value.int .i64 x.b,Value.int .u64 x.n,Value.int .i64 x.kind,Value.int .i64 x.val,Value.int .i64 x.index,Value.slice pt x.types.length ct,Value.slice pl x.labels.length cl]] w (fU (eD m locals x) (fun _=>False) w):=by
 unfold eD
 dsimp only
 split
 ·exact rn B F m locals v x lp pt pl lc ct cl w h0 h hl ht hp hT FU
 split
 ·exact rq B F m locals v x lp pt pl lc ct cl w h0 h hl ht hp hT FU
 split
 ·exact rr B F m locals v x lp pt pl lc ct cl w h0 h hl ht hp hT FU
 split
 ·exact ru B F m locals v x lp pt pl lc ct cl w h0 h hl ht hp hT FU
 split
 ·exact ry B F m locals v x lp pt pl lc ct cl w h0 h hl ht hp hT FU
 split
 ·exact rz B F m locals v x lp pt pl lc ct cl w h0 h hl ht hp hT FU
 split
 ·exact pI B F m locals v x lp pt pl lc ct cl w h0 h hl ht hp hT FU
 exact rA B F m locals v x lp pt pl lc ct cl w h0 h hl ht ⟨by assumption,by assumption,by assumption,by assumption,by assumption,by assumption,by assumption⟩
end Go.Proofs.YtceedealggognaaGreatDoor
