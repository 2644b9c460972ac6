/- Layer 5: what a plain instruction is, for the program and the reference alike; alignments. -/
import Derived.Test.YtceedealggognaaGreatDoorJGq
import Derived.Test.YtceedealggognaaGreatDoorJGv
import Derived.Test.YtceedealggognaaGreatDoorJGw
import Derived.Test.YtceedealggognaaGreatDoorJWe
import Derived.Test.YtceedealggognaaGreatDoorJW2
namespace Go.Proofs.YtceedealggognaaGreatDoor
open Go.RowKit
set_option maxRecDepth 100000
theorem oP (a:Int):aL a=true↔(0≤a∧a<4294967296):=by unfold aL;simp
theorem D9 {P:Prop} [Decidable P] {b:Bool}:(if P then false else b)=true↔(¬P∧b=true):=by by_cases h:P<;>simp[h]
set_option maxHeartbeats 4000000 in
theorem xv (known:Bool) (k a b n kind val index:Int) (nt:Nat) (t0:Int) (labels:List Int) (hk:0≤k∧k≤20):bh known (lM k) (lN k) (lO k) k a b n kind val index nt t0 labels=sm known k a b n kind val index nt labels.length t0 (labels.all aL):=by
 have:k=0∨k=1∨k=2∨k=3∨k=4∨k=5∨k=6∨k=7∨k=8∨k=9∨k=10∨k=11∨k=12∨k=13∨k=14∨k=15∨k=16∨k=17∨k=18∨k=19∨k=20:=by omega
 rcases this with rfl|rfl|rfl|rfl|rfl|rfl|rfl|rfl|rfl|rfl|rfl|rfl|rfl|rfl|rfl|rfl|rfl|rfl|rfl|rfl|rfl
 all_goals
  unfold bh sm
  rw[Bool.eq_iff_iff]
  simp[lM,lN,lO,oP]
  try grind
theorem sf (F:Nat→Prop) (x:bP) (pt pl:Option Addr) (ct cl:Nat) (w:World) (h0:dQ w) (ht:af F w (.slice pt x.types.length ct) x.types) (hl:af F w (.slice pl x.labels.length cl) x.labels):Calls G.P 83 #[.agg #[Value.int .i64 x.op,Value.int .i64 x.a,Value.int .i64 x.b,Value.int .u64 x.n,Value.int .i64 x.kind,Value.int .i64 x.val,Value.int .i64 x.index,Value.slice pt x.types.length ct,Value.slice pl x.labels.length cl]] w fun e w'=>e=.returned (.bool (db x))∧Ext w w':=by
 have hkn:∀w',Ext w w'→Calls G.P 127 #[.int .i64 x.op] w' fun e w2=>e=.returned (.bool (gV x.op).isSome)∧Ext w' w2:=fun w' hx=>by rw[←tI];exact mN _ w' (h0.ext hx)
 have hof:∀w',Ext w w'→Calls G.P 98 #[.int .i64 x.op] w' fun e w2=>e=.returned (.int .i64 (iJ x.op))∧Ext w' w2:=fun w' hx=>eI _ w' (h0.ext hx)
 have hu:∀w',Ext w w'→Calls G.P 126 #[.int .i64 (iJ x.op)] w' fun e w2=>e=.returned (.tuple #[.bool (lM (iJ x.op)),.bool (lN (iJ x.op)),.bool (lO (iJ x.op))])∧Ext w' w2:=fun w' _=>tM _ w'
 have hcell:x.types.length=1→∃bt ot,pt=some ⟨bt,ot,none⟩∧w.cell? ⟨bt,ot+0,none⟩=some (.int .i64 (ix x.types 0)):=fun h1=>by
  obtain⟨b7,o7,rfl,-,hc⟩:=ht.at (i:=0) Hb
  exact⟨b7,o7,rfl,hc 0 Hb⟩
 have hr:=Ba x.op
 have key:db x=bh (gV x.op).isSome (lM (iJ x.op)) (lN (iJ x.op)) (lO (iJ x.op)) (iJ x.op) x.a x.b x.n x.kind x.val x.index x.types.length (ix x.types 0) x.labels:=by
  rw[q7,qZ,xv _ _ _ _ _ _ _ _ _ _ _ hr]
 rw[key]
 cases hf:(gV x.op).isSome with
 |false=>
  rw[hf]at hkn
  rw[show∀ua ub un k a b n kind val index nt t0 labels,bh false ua ub un k a b n kind val index nt t0 labels=false from fun _ _ _ _ _ _ _ _ _ _ _ _ _=>by simp[bh]]
  exact qj _ _ _ _ _ _ _ _ _ _ _ _ _ _ _ _ _ w hkn hof hu
 |true=>
  rw[hf]at hkn
  generalize iJ x.op=k at*
  have:k=0∨k=1∨k=3∨k=6∨k=13∨k=17∨k=18∨k=19∨k=20∨(k=2∨k=4∨k=7∨k=8∨k=9∨k=12∨k=16)∨(k=5∨k=10∨k=11∨k=14∨k=15):=by omega
  rcases this with rfl|rfl|rfl|rfl|rfl|rfl|rfl|rfl|rfl|h|h
  ·exact oY F _ _ _ _ _ _ _ _ _ _ _ _ _ _ w hl hkn hof hu
  ·exact oZ F _ _ _ _ _ _ _ _ _ _ _ _ _ _ w hl hkn hof hu
  ·exact o0 F _ _ _ _ _ _ _ _ _ _ _ _ _ _ w hl hkn hof hu
  ·by_cases h1:x.types.length=1
   ·obtain⟨bt,ot,rfl,hc⟩:=hcell h1
    rw[h1]
    exact nY F _ _ _ _ _ _ _ _ _ bt ot _ _ _ w hc hl hkn hof hu
   ·exact nZ F _ _ _ _ _ _ _ _ _ _ _ _ _ _ w Hb hl hkn hof hu
  ·exact nT F _ _ _ _ _ _ _ _ _ _ _ _ _ _ w hl hkn hof hu
  ·exact nU F _ _ _ _ _ _ _ _ _ _ _ _ _ _ w hl hkn hof hu
  ·exact nV F _ _ _ _ _ _ _ _ _ _ _ _ _ _ w hl hkn hof hu
  ·exact nW F _ _ _ _ _ _ _ _ _ _ _ _ _ _ w hl hkn hof hu
  ·exact nX F _ _ _ _ _ _ _ _ _ _ _ _ _ _ w hl hkn hof hu
  ·have ea:lM k=true:=by unfold lM;simp;omega
   have eb:lN k=false:=by unfold lN;simp;omega
   have en:lO k=false:=by unfold lO;simp;omega
   rw[ea,eb,en]at hu ⊢
   exact o9 F _ _ _ _ _ _ _ _ _ _ _ _ _ _ k w Hb Hb Hb Hb Hb Hb hl hkn hof hu
  ·have ea:lM k=true:=by unfold lM;simp;omega
   have eb:lN k=true:=by unfold lN;simp;omega
   have en:lO k=false:=by unfold lO;simp;omega
   rw[ea,eb,en]at hu ⊢
   exact pd F _ _ _ _ _ _ _ _ _ _ _ _ _ _ k w Hb Hb Hb Hb Hb Hb hl hkn hof hu
theorem vB:(AA.all fun r=>decide (gU r.1=0) || decide (gU r.1=1) || decide (gU r.1=2) || decide (gU r.1=4) || decide (gU r.1=8))=true:=by decide+kernel
theorem zE (op:Int):fO op=0∨fO op=1∨fO op=2∨fO op=4∨fO op=8:=by
 rw[uq]
 cases h:gV op with
 |some r=>
  have:=List.all_eq_true.1 vB r (List.mem_of_find?_eq_some h)
  have e:r.1=op:=by have:=List.find?_some h;simpa using this
  rw[e]at this
  simp only[Bool.or_eq_true,decide_eq_true_eq]at this
  omega
 |none=>left;unfold gU np;rw[h];rfl
theorem wA (k:Int) (hk:k=0∨k=1∨k=2∨k=4∨k=8) (op:Int) (w:World) (hw:∀w',Ext w w'→Calls G.P 136 #[.int .i64 op] w' fun e w2=>e=.returned (.int .i64 k)∧Ext w' w2):Calls G.P 146 #[.int .i64 op] w fun e w'=>e=.returned (.int .i64 (if k=2 then 1 else if k=4 then 2 else if k=8 then 3 else 0))∧Ext w w':=by
 obtain⟨fk,hfk,hfk3⟩:∃fk:Int,(if k=2 then 1 else if k=4 then 2 else if k=8 then 3 else 0)=fk∧fk≤3:=⟨_,rfl,by rcases hk with rfl|rfl|rfl|rfl|rfl<;>decide⟩
 rw[hfk]
 refine aj (l:=[_]) Tryz.func146 rfl Tryz.ntmps146 rfl (Ok.start w) ?_
 repeat'(first|refine ax ?_|(refine aa.ak (f:=136) ?_;refine aa.az rfl rfl rfl (fun w' hw'=>hw w' hw'.at) ?_)|fail)
 refine aQ.loop (σ:=Nat×Int) (fun s=>[(3,.int .i64 s.1),(4,.int .i64 s.2)]) (fun _=>[]) (fun _=>[Ext w]) (fun s=>(s.2=0∨s.2=1∨s.2=2∨s.2=4∨s.2=8)∧(s.1:Int)+(if s.2=2 then 1 else if s.2=4 then 2 else if s.2=8 then 3 else 0)=fk) (fun s=>s.2.toNat) (0,k) bR bN aY ⟨hk,by simp[hfk]⟩ ?_
 rintro⟨j,q⟩ ⟨hq,he⟩
 dsimp only at hq he ⊢
 rcases hq with rfl|rfl|rfl|rfl|rfl
 ·have he':(j:Int)+0=fk:=he
  repeat'(first|refine ax ?_|fail)
  all_goals exact ai.aA rfl rfl fun w' hw'=>⟨by rw[show fk=(j:Int)by omega],hw'.at⟩
 ·have he':(j:Int)+0=fk:=he
  repeat'(first|refine ax ?_|fail)
  all_goals exact ai.aA rfl rfl fun w' hw'=>⟨by rw[show fk=(j:Int)by omega],hw'.at⟩
 ·have he':(j:Int)+1=fk:=he
  repeat'(first|refine ax ?_|(refine aa.y_ (Yl.quo (r:=1) rfl rfl (fun w=>by kernel_rfl)) rfl ?_)|fail)
  all_goals exact ai.next (j+1,1) bR bN aY ⟨by simp,by show((j+1:Nat):Int)+0=fk;omega⟩ (by show(1:Int).toNat<(2:Int).toNat;decide)
 ·have he':(j:Int)+2=fk:=he
  repeat'(first|refine ax ?_|(refine aa.y_ (Yl.quo (r:=2) rfl rfl (fun w=>by kernel_rfl)) rfl ?_)|fail)
  all_goals exact ai.next (j+1,2) bR bN aY ⟨by simp,by show((j+1:Nat):Int)+1=fk;omega⟩ (by show(2:Int).toNat<(4:Int).toNat;decide)
 ·have he':(j:Int)+3=fk:=he
  repeat'(first|refine ax ?_|(refine aa.y_ (Yl.quo (r:=4) rfl rfl (fun w=>by kernel_rfl)) rfl ?_)|fail)
  all_goals exact ai.next (j+1,4) bR bN aY ⟨by simp,by show((j+1:Nat):Int)+2=fk;omega⟩ (by show(4:Int).toNat<(8:Int).toNat;decide)
theorem se (op:Int) (w:World) (h0:dQ w):Calls G.P 146 #[.int .i64 op] w fun e w'=>e=.returned (.int .i64 (ru op))∧Ext w w':=by
 unfold ru
 exact wA _ (zE op) op w fun w' hx=>mO op w' (h0.ext hx)
theorem tK (op:Int) (w:World) (h0:dQ w):Calls G.P 107 #[.int .i64 op] w (kD (gk op) (fun _=>False) w):=
 (uX op w h0).mono fun e w' ⟨⟨v,e1,hv⟩,hx⟩=>by
  obtain⟨_,rfl,p,r,rfl,h1,h2⟩:=hv
  exact⟨⟨(p,r),e1,h1.mono fun _ _ h=>.inr h,h2.mono fun _ _ h=>.inr h⟩,hx⟩
def dY (m:ae) (locals:List Int) (x:bP):aE×Int:=
 let k:=iJ x.op
 if k=4 then cr m x else if k=5 then dk m x else if k=6 then(⟨[ix x.types 0,ix x.types 0,1],[ix x.types 0]⟩,0)else if k=7 then fZ locals x else if k=8 then eA m x else if k=9 then eE m x else
 if k=20 then(⟨[],[x.a]⟩,0)else if jk m x≠0 then(gG,jk m x)else((gk x.op).getD gG,0)
def xR (m:ae):Prop:=∀f∈m.types,f.params.length≤17592186043904∧f.results.length≤17592186043904
theorem kZ {α:Type} [Inhabited α] {l:List α} {i:Int} {f:α} (h:eK l i=some f):f∈l:=by
 unfold eK at h
 split at h
 ·rename_i hc
  cases h
  rw[cw Hb];exact List.getElem_mem _
 ·cases h
theorem BM:(AA.all fun r=>!decide (r.2.2=9) || (decide (r.1=37) || decide (r.1=38) || decide (r.1=64528) || decide (r.1=64527) || decide (r.1=64529)))=true:=by decide+kernel
theorem CJ {op:Int} (h:iJ op=9):op=37∨op=38∨op=64528∨op=64527∨op=64529:=by
 obtain⟨r,hr,h1,h2⟩:=Av (op:=op) Hb
 have:=List.all_eq_true.1 BM r hr
 rw[h2,h,h1]at this
 simpa[or_assoc]using this
theorem ka {x:bP} (h:db x=true):gJ x.a∧gJ x.b∧0≤x.a∧0≤x.b∧(iJ x.op=6→x.types.length=1):=by
 have hr:=Ba x.op
 rw[q7,qZ]at h
 unfold sm at h
 unfold gJ
 generalize iJ x.op=k at*
 have:k=0∨k=1∨k=2∨k=3∨k=4∨k=5∨k=6∨k=7∨k=8∨k=9∨k=10∨k=11∨k=12∨k=13∨k=14∨k=15∨k=16∨k=17∨k=18∨k=19∨k=20:=by omega
 rcases this with rfl|rfl|rfl|rfl|rfl|rfl|rfl|rfl|rfl|rfl|rfl|rfl|rfl|rfl|rfl|rfl|rfl|rfl|rfl|rfl|rfl
 all_goals
  simp[oP]at h
  omega
theorem mS {g g':Prop} (h:g') (hw:ek g'→g:=by(intro hk_;(first|(refine aa.ak (f:=98) ?_;refine aa.az rfl rfl rfl (fun w' hw'=>hof w' hw'.at) ?_));exact hk_.out)):g:=hw ⟨h⟩
set_option maxHeartbeats 4000000 in
theorem sw (B:Nat) (F:Nat→Prop) (m:ae) (locals:List Int) (v:Value) (x:bP) (lp pt pl:Option Addr) (lc ct cl:Nat) (w:World) (h0:dQ w) (h:aR B m w v) (_hl:af F w (.slice lp locals.length lc) locals) (_ht:af F w (.slice pt x.types.length ct) x.types) (hp:db x=true) (_hT:xR m) (hk:iJ x.op=4):Calls G.P 59 #[v,.slice lp locals.length lc,.agg #[Value.int .i64 x.op,Value.int .i64 x.a,Value.int .i64 x.b,Value.int .u64 x.n,Value.int .i64 x.kind,Value.int .i64 x.val,Value.int .i64 x.index,Value.slice pt x.types.length ct,Value.slice pl x.labels.length cl]] w (gn (cr m x) (fun _=>False) w):=by
 obtain⟨a1,a2,a3,a4,-⟩:=ka hp
 have hof:∀w',Ext w w'→Calls G.P 98 #[.int .i64 x.op] w' fun e w2=>e=.returned (.int .i64 4)∧Ext w' w2:=fun w' hx=>by have:=eI x.op w' (h0.ext hx);rw[hk]at this;exact this
 refine FZ ?_
 repeat'(first|refine ax ?_|(refine Gn fun b_=>?_)|refine mS ?_|(refine aa.ak (f:=99) ?_;refine aa.he (HE.zp (r:=(cr m x)) ao rfl rfl (fun w' hw'=>qo B m v x pt pl ct cl w' (h.aD (show Ext w w' from hw'.at) (fun _ _ h=>h)) a1)) rfl ?_;rintro⟨D_,p_,c_,q_,d_⟩ hD_;dsimp only)|fail)
 all_goals(refine ai.bn (.inl rfl) rfl rfl rfl rfl rfl bJ rfl rfl ?_;exact fun w' hw'=>fj.nj (f0:=(cr m x).1) (tf:=fun y:Value×Value=>.tuple #[.agg #[y.1,y.2],.int .i64 (cr m x).2]) ⟨D_,p_,c_,q_,d_⟩ hw' ao ao hD_)
set_option maxHeartbeats 4000000 in
theorem sx (B:Nat) (F:Nat→Prop) (m:ae) (locals:List Int) (v:Value) (x:bP) (lp pt pl:Option Addr) (lc ct cl:Nat) (w:World) (h0:dQ w) (h:aR B m w v) (_hl:af F w (.slice lp locals.length lc) locals) (_ht:af F w (.slice pt x.types.length ct) x.types) (hp:db x=true) (hT:xR m) (hk:iJ x.op=5):Calls G.P 59 #[v,.slice lp locals.length lc,.agg #[Value.int .i64 x.op,Value.int .i64 x.a,Value.int .i64 x.b,Value.int .u64 x.n,Value.int .i64 x.kind,Value.int .i64 x.val,Value.int .i64 x.index,Value.slice pt x.types.length ct,Value.slice pl x.labels.length cl]] w (gn (dk m x) (fun _=>False) w):=by
 obtain⟨a1,a2,a3,a4,-⟩:=ka hp
 have hof:∀w',Ext w w'→Calls G.P 98 #[.int .i64 x.op] w' fun e w2=>e=.returned (.int .i64 5)∧Ext w' w2:=fun w' hx=>by have:=eI x.op w' (h0.ext hx);rw[hk]at this;exact this
 refine FZ ?_
 repeat'(first|refine ax ?_|(refine Gn fun b_=>?_)|refine mS ?_|(refine aa.ak (f:=100) ?_;refine aa.he (HE.zp (r:=(dk m x)) ao rfl rfl (fun w' hw'=>qp B m v x pt pl ct cl w' (h.aD (show Ext w w' from hw'.at) (fun _ _ h=>h)) (fun f hf=>⟨(hT f (kZ hf)).1,by have:=(hT f (kZ hf)).2;omega⟩))) rfl ?_;rintro⟨D_,p_,c_,q_,d_⟩ hD_;dsimp only)|fail)
 all_goals(refine ai.bn (.inl rfl) rfl rfl rfl rfl rfl bJ rfl rfl ?_;exact fun w' hw'=>fj.nj (f0:=(dk m x).1) (tf:=fun y:Value×Value=>.tuple #[.agg #[y.1,y.2],.int .i64 (dk m x).2]) ⟨D_,p_,c_,q_,d_⟩ hw' ao ao hD_)
set_option maxHeartbeats 4000000 in
theorem sA (B:Nat) (F:Nat→Prop) (m:ae) (locals:List Int) (v:Value) (x:bP) (lp pt pl:Option Addr) (lc ct cl:Nat) (w:World) (h0:dQ w) (_h:aR B m w v) (hl:af F w (.slice lp locals.length lc) locals) (_ht:af F w (.slice pt x.types.length ct) x.types) (hp:db x=true) (_hT:xR m) (hk:iJ x.op=7):Calls G.P 59 #[v,.slice lp locals.length lc,.agg #[Value.int .i64 x.op,Value.int .i64 x.a,Value.int .i64 x.b,Value.int .u64 x.n,Value.int .i64 x.kind,Value.int .i64 x.val,Value.int .i64 x.index,Value.slice pt x.types.length ct,Value.slice pl x.labels.length cl]] w (gn (fZ locals x) (fun _=>False) w):=by
 obtain⟨a1,a2,a3,a4,-⟩:=ka hp
 have hof:∀w',Ext w w'→Calls G.P 98 #[.int .i64 x.op] w' fun e w2=>e=.returned (.int .i64 7)∧Ext w' w2:=fun w' hx=>by have:=eI x.op w' (h0.ext hx);rw[hk]at this;exact this
 refine FZ ?_
 repeat'(first|refine ax ?_|(refine Gn fun b_=>?_)|refine mS ?_|(refine aa.ak (f:=102) ?_;refine aa.he (HE.zp (r:=(fZ locals x)) ao rfl rfl (fun w' hw'=>vj F locals x lp pt pl lc ct cl w' (hl.aD (show Ext w w' from hw'.at) (fun _ _ _ h=>h)) a3)) rfl ?_;rintro⟨D_,p_,c_,q_,d_⟩ hD_;dsimp only)|fail)
 all_goals(refine ai.bn (.inl rfl) rfl rfl rfl rfl rfl bJ rfl rfl ?_;exact fun w' hw'=>fj.nj (f0:=(fZ locals x).1) (tf:=fun y:Value×Value=>.tuple #[.agg #[y.1,y.2],.int .i64 (fZ locals x).2]) ⟨D_,p_,c_,q_,d_⟩ hw' ao ao hD_)
set_option maxHeartbeats 4000000 in
theorem sB (B:Nat) (F:Nat→Prop) (m:ae) (locals:List Int) (v:Value) (x:bP) (lp pt pl:Option Addr) (lc ct cl:Nat) (w:World) (h0:dQ w) (h:aR B m w v) (_hl:af F w (.slice lp locals.length lc) locals) (_ht:af F w (.slice pt x.types.length ct) x.types) (hp:db x=true) (_hT:xR m) (hk:iJ x.op=8):Calls G.P 59 #[v,.slice lp locals.length lc,.agg #[Value.int .i64 x.op,Value.int .i64 x.a,Value.int .i64 x.b,Value.int .u64 x.n,Value.int .i64 x.kind,Value.int .i64 x.val,Value.int .i64 x.index,Value.slice pt x.types.length ct,Value.slice pl x.labels.length cl]] w (gn (eA m x) (fun _=>False) w):=by
 obtain⟨a1,a2,a3,a4,-⟩:=ka hp
 have hof:∀w',Ext w w'→Calls G.P 98 #[.int .i64 x.op] w' fun e w2=>e=.returned (.int .i64 8)∧Ext w' w2:=fun w' hx=>by have:=eI x.op w' (h0.ext hx);rw[hk]at this;exact this
 refine FZ ?_
 repeat'(first|refine ax ?_|(refine Gn fun b_=>?_)|refine mS ?_|(refine aa.ak (f:=103) ?_;refine aa.he (HE.zp (r:=(eA m x)) ao rfl rfl (fun w' hw'=>tT B m v x pt pl ct cl w' (h.aD (show Ext w w' from hw'.at) (fun _ _ h=>h)))) rfl ?_;rintro⟨D_,p_,c_,q_,d_⟩ hD_;dsimp only)|fail)
 all_goals(refine ai.bn (.inl rfl) rfl rfl rfl rfl rfl bJ rfl rfl ?_;exact fun w' hw'=>fj.nj (f0:=(eA m x).1) (tf:=fun y:Value×Value=>.tuple #[.agg #[y.1,y.2],.int .i64 (eA m x).2]) ⟨D_,p_,c_,q_,d_⟩ hw' ao ao hD_)
set_option maxHeartbeats 4000000 in
theorem sC (B:Nat) (F:Nat→Prop) (m:ae) (locals:List Int) (v:Value) (x:bP) (lp pt pl:Option Addr) (lc ct cl:Nat) (w:World) (h0:dQ w) (h:aR B m w v) (_hl:af F w (.slice lp locals.length lc) locals) (_ht:af F w (.slice pt x.types.length ct) x.types) (hp:db x=true) (_hT:xR m) (hk:iJ x.op=9):Calls G.P 59 #[v,.slice lp locals.length lc,.agg #[Value.int .i64 x.op,Value.int .i64 x.a,Value.int .i64 x.b,Value.int .u64 x.n,Value.int .i64 x.kind,Value.int .i64 x.val,Value.int .i64 x.index,Value.slice pt x.types.length ct,Value.slice pl x.labels.length cl]] w (gn (eE m x) (fun _=>False) w):=by
 obtain⟨a1,a2,a3,a4,-⟩:=ka hp
 have hof:∀w',Ext w w'→Calls G.P 98 #[.int .i64 x.op] w' fun e w2=>e=.returned (.int .i64 9)∧Ext w' w2:=fun w' hx=>by have:=eI x.op w' (h0.ext hx);rw[hk]at this;exact this
 refine FZ ?_
 repeat'(first|refine ax ?_|(refine Gn fun b_=>?_)|refine mS ?_|(refine aa.ak (f:=104) ?_;refine aa.he (HE.zp (r:=(eE m x)) ao rfl rfl (fun w' hw'=>tU B m v x pt pl ct cl w' (h.aD (show Ext w w' from hw'.at) (fun _ _ h=>h)) (CJ hk))) rfl ?_;rintro⟨D_,p_,c_,q_,d_⟩ hD_;dsimp only)|fail)
 all_goals(refine ai.bn (.inl rfl) rfl rfl rfl rfl rfl bJ rfl rfl ?_;exact fun w' hw'=>fj.nj (f0:=(eE m x).1) (tf:=fun y:Value×Value=>.tuple #[.agg #[y.1,y.2],.int .i64 (eE m x).2]) ⟨D_,p_,c_,q_,d_⟩ hw' ao ao hD_)
set_option maxHeartbeats 4000000 in
theorem qt (B:Nat) (F:Nat→Prop) (m:ae) (locals:List Int) (v:Value) (x:bP) (lp pt pl:Option Addr) (lc ct cl:Nat) (w:World) (h0:dQ w) (_h:aR B m w v) (_hl:af F w (.slice lp locals.length lc) locals) (_ht:af F w (.slice pt x.types.length ct) x.types) (hp:db x=true) (_hT:xR m) (hk:iJ x.op=20):Calls G.P 59 #[v,.slice lp locals.length lc,.agg #[Value.int .i64 x.op,Value.int .i64 x.a,Value.int .i64 x.b,Value.int .u64 x.n,Value.int .i64 x.kind,Value.int .i64 x.val,Value.int .i64 x.index,Value.slice pt x.types.length ct,Value.slice pl x.labels.length cl]] w (gn (⟨[],[x.a]⟩,0) (fun _=>False) w):=by
 obtain⟨a1,a2,a3,a4,a5⟩:=ka hp
 have hof:∀w',Ext w w'→Calls G.P 98 #[.int .i64 x.op] w' fun e w2=>e=.returned (.int .i64 20)∧Ext w' w2:=fun w' hx=>by have:=eI x.op w' (h0.ext hx);rw[hk]at this;exact this
 refine FZ ?_
 repeat'(first|refine ax ?_|(refine Gn fun b_=>?_)|(refine gh fun b_ _=>?_)|refine mS ?_|(refine aa.ak (f:=101) ?_;refine aa.az rfl rfl rfl (fun w' hw'=>oy _ _ _ _ _ _ w') ?_)|fail)
 all_goals exact ne
set_option maxHeartbeats 4000000 in
theorem sy (B:Nat) (F:Nat→Prop) (m:ae) (locals:List Int) (v:Value) (x:bP) (lp pt pl:Option Addr) (lc ct cl:Nat) (w:World) (h0:dQ w) (_h:aR B m w v) (_hl:af F w (.slice lp locals.length lc) locals) (ht:af F w (.slice pt x.types.length ct) x.types) (hp:db x=true) (_hT:xR m) (hk:iJ x.op=6):Calls G.P 59 #[v,.slice lp locals.length lc,.agg #[Value.int .i64 x.op,Value.int .i64 x.a,Value.int .i64 x.b,Value.int .u64 x.n,Value.int .i64 x.kind,Value.int .i64 x.val,Value.int .i64 x.index,Value.slice pt x.types.length ct,Value.slice pl x.labels.length cl]] w (gn (⟨[ix x.types 0,ix x.types 0,1],[ix x.types 0]⟩,0) (fun _=>False) w):=by
 obtain⟨a1,a2,a3,a4,a5⟩:=ka hp
 have h1:=a5 hk
 obtain⟨bt,ot,rfl,-,hc⟩:=ht.at (i:=0) Hb
 have hcell:w.cell? ⟨bt,ot+0,none⟩=some (.int .i64 (ix x.types 0)):=hc 0 Hb
 generalize ix x.types 0=t0 at hcell ⊢
 have hof:∀w',Ext w w'→Calls G.P 98 #[.int .i64 x.op] w' fun e w2=>e=.returned (.int .i64 6)∧Ext w' w2:=fun w' hx=>by have:=eI x.op w' (h0.ext hx);rw[hk]at this;exact this
 refine FZ ?_
 repeat'(first|refine ax ?_|(refine Gn fun b_=>?_)|refine mS ?_|fail)
 rename_i b5
 refine aQ.de [.aJ b5 [Value.int .i64 x.op,Value.int .i64 x.a,Value.int .i64 x.b,Value.int .u64 x.n,Value.int .i64 x.kind,Value.int .i64 x.val,Value.int .i64 x.index,Value.slice (some ⟨bt,ot,none⟩) x.types.length ct,Value.slice pl x.labels.length cl] 63] [Ext w] bN aY ?_
 repeat'(first|refine uo ?_|(refine aK.qy 2 rfl (Yl.fX (i:=0) rfl rfl rfl rfl rfl rfl Hb) ?_)|(refine aK.qy 6 rfl (Yl.fX (i:=0) rfl rfl rfl rfl rfl rfl Hb) ?_)|(refine aK.qy 11 rfl (Yl.fX (i:=0) rfl rfl rfl rfl rfl rfl Hb) ?_)|(refine aI.wX ?_;refine aI.he rfl rfl (HE.ml rfl rfl rfl rfl rfl fT Hd Hd) (fun _=>bN) (fun _=>aY) ?_;rintro b7 _)|(refine aI.eU 101 ?_;refine aI.he rfl rfl (HE.kp rfl rfl (fun w' hw'=>oy _ _ _ _ _ _ w')) (fun _=>bN) (fun _=>aY) ?_;rintro⟨⟩ _)|(refine aI.yF ?_;refine aI.m6 rfl (gj.aM _ rfl rfl rfl rfl rfl rfl bJ rfl) (fun _=>bN) (fun _=>aY) ?_;rintro⟨⟩ _)|refine aK.nil G6 ?_|refine aK.any G6 ?_|exact aC.fin rfl|refine aC.skip G6 ?_|refine aC.go ?_ ?_)
 all_goals
  repeat'(first|refine ax ?_|fail)
  all_goals first|omega|exact ai.bn (.inl rfl) rfl rfl rfl rfl rfl bJ rfl rfl fun w' hw'=>⟨⟨(_,_),rfl,by first|exact kG _ hw' ao (hD:=fun _ h=>.inr h),by first|exact kG _ hw' ao (hD:=fun _ h=>.inr h)⟩,hw'.at⟩
theorem tV (B:Nat) (m:ae) (v:Value) (x:bP) (pt pl:Option Addr) (ct cl:Nat) (w:World) (h0:dQ w) (h:aR B m w v):Calls G.P 105 #[v,.agg #[Value.int .i64 x.op,Value.int .i64 x.a,Value.int .i64 x.b,Value.int .u64 x.n,Value.int .i64 x.kind,Value.int .i64 x.val,Value.int .i64 x.index,Value.slice pt x.types.length ct,Value.slice pl x.labels.length cl]] w fun e w'=>e=.returned (.int .i64 (jk m x))∧Ext w w':=by
 have ho:∀w',Ext w w'→Calls G.P 98 #[.int .i64 x.op] w' fun e w2=>e=.returned (.int .i64 (iJ x.op))∧Ext w' w2:=fun w' hx=>eI x.op w' (h0.ext hx)
 have ha:∀w',Ext w w'→Calls G.P 146 #[.int .i64 x.op] w' fun e w2=>e=.returned (.int .i64 (ru x.op))∧Ext w' w2:=fun w' hx=>se x.op w' (h0.ext hx)
 unfold jk
 generalize iJ x.op=k at ho ⊢
 exact qs B m v _ _ _ _ _ _ _ _ _ _ _ _ _ k _ w h ho ha
set_option maxHeartbeats 4000000 in
theorem sD (B:Nat) (F:Nat→Prop) (m:ae) (locals:List Int) (v:Value) (x:bP) (lp pt pl:Option Addr) (lc ct cl:Nat) (w:World) (h0:dQ w) (h:aR B m w v) (_hl:af F w (.slice lp locals.length lc) locals) (_ht:af F w (.slice pt x.types.length ct) x.types) (hk:iJ x.op≠4∧iJ x.op≠5∧iJ x.op≠6∧iJ x.op≠7∧iJ x.op≠8∧iJ x.op≠9∧iJ x.op≠20):Calls G.P 59 #[v,.slice lp locals.length lc,.agg #[Value.int .i64 x.op,Value.int .i64 x.a,Value.int .i64 x.b,Value.int .u64 x.n,Value.int .i64 x.kind,Value.int .i64 x.val,Value.int .i64 x.index,Value.slice pt x.types.length ct,Value.slice pl x.labels.length cl]] w (gn (if jk m x≠0 then(gG,jk m x)else((gk x.op).getD gG,0)) (fun _=>False) w):=by
 have hof:∀w',Ext w w'→Calls G.P 98 #[.int .i64 x.op] w' fun e w2=>e=.returned (.int .i64 (iJ x.op))∧Ext w' w2:=fun w' hx=>eI x.op w' (h0.ext hx)
 have hth:∀w',Ext w w'→Calls G.P 105 #[v,.agg #[Value.int .i64 x.op,Value.int .i64 x.a,Value.int .i64 x.b,Value.int .u64 x.n,Value.int .i64 x.kind,Value.int .i64 x.val,Value.int .i64 x.index,Value.slice pt x.types.length ct,Value.slice pl x.labels.length cl]] w' fun e w2=>e=.returned (.int .i64 (jk m x))∧Ext w' w2:=fun w' hx=>tV B m v x pt pl ct cl w' (h0.ext hx) (h.aD hx (fun _ _ h=>h))
 obtain⟨k1,k2,k3,k4,k5,k6,k7⟩:=hk
 generalize iJ x.op=k at*
 generalize jk m x=e0 at*
 by_cases he:e0=0
 ·rw[if_neg Hb]
  refine FZ ?_
  repeat'(first|refine ax ?_|(refine Gn fun b_=>?_)|refine mS ?_|(refine aa.ak (f:=105) ?_;refine aa.az rfl rfl rfl (fun w' hw'=>hth w' hw'.at) ?_)|(refine aa.ak (f:=107) ?_;refine aa.he (HE.mf (r:=gk x.op) ao rfl rfl (fun w' hw'=>tK x.op w' (h0.ext hw'.at))) rfl ?_;rintro⟨D_,p_,c_,q_,d_⟩ hD_;dsimp only)|fail)
  all_goals(refine ai.bn (.inl rfl) rfl rfl rfl rfl rfl bJ rfl rfl ?_;exact fun w' hw'=>fj.nj (f0:=(gk x.op).getD gG) (tf:=fun y:Value×Value=>.tuple #[.agg #[y.1,y.2],.int .i64 0]) ⟨D_,p_,c_,q_,d_⟩ hw' ao ao hD_)
 ·rw[if_pos he]
  refine FZ ?_
  repeat'(first|refine ax ?_|(refine Gn fun b_=>?_)|refine mS ?_|(refine aa.ak (f:=105) ?_;refine aa.az rfl rfl rfl (fun w' hw'=>hth w' hw'.at) ?_)|(refine aa.ak (f:=106) ?_;refine aa.az rfl rfl rfl (fun w' hw'=>pK _ w') ?_)|fail)
  all_goals exact ol
theorem vl (B:Nat) (F:Nat→Prop) (m:ae) (locals:List Int) (v:Value) (x:bP) (lp pt pl:Option Addr) (lc ct cl:Nat) (w:World) (h0:dQ w) (h:aR B m w v) (hl:af F w (.slice lp locals.length lc) locals) (ht:af F w (.slice pt x.types.length ct) x.types) (hp:db x=true) (hT:xR m):Calls G.P 59 #[v,.slice lp locals.length lc,.agg #[Value.int .i64 x.op,Value.int .i64 x.a,Value.int .i64 x.b,Value.int .u64 x.n,Value.int .i64 x.kind,Value.int .i64 x.val,Value.int .i64 x.index,Value.slice pt x.types.length ct,Value.slice pl x.labels.length cl]] w (gn (dY m locals x) (fun _=>False) w):=by
 unfold dY
 dsimp only
 split
 ·exact sw B F m locals v x lp pt pl lc ct cl w h0 h hl ht hp hT G8
 split
 ·exact sx B F m locals v x lp pt pl lc ct cl w h0 h hl ht hp hT G8
 split
 ·exact sy B F m locals v x lp pt pl lc ct cl w h0 h hl ht hp hT G8
 split
 ·exact sA B F m locals v x lp pt pl lc ct cl w h0 h hl ht hp hT G8
 split
 ·exact sB B F m locals v x lp pt pl lc ct cl w h0 h hl ht hp hT G8
 split
 ·exact sC B F m locals v x lp pt pl lc ct cl w h0 h hl ht hp hT G8
 split
 ·exact qt B F m locals v x lp pt pl lc ct cl w h0 h hl ht hp hT G8
 exact sD B F m locals v x lp pt pl lc ct cl w h0 h hl ht ⟨by assumption,by assumption,by assumption,by assumption,by assumption,by assumption,by assumption⟩
end Go.Proofs.YtceedealggognaaGreatDoor
