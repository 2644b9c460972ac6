/- Layer 5: what a plain instruction is, for the program and the reference alike; alignments. -/
import Derived.Test.YtdkcljdfbemnbaaGreatDoorJGs
import Derived.Test.YtdkcljdfbemnbaaGreatDoorJGt
import Derived.Test.YtdkcljdfbemnbaaGreatDoorJGu
import Derived.Test.YtdkcljdfbemnbaaGreatDoorJGv
import Derived.Test.YtdkcljdfbemnbaaGreatDoorJGw
import Derived.Test.YtdkcljdfbemnbaaGreatDoorJWe
import Derived.Test.YtdkcljdfbemnbaaGreatDoorJW2
namespace Go.Proofs.YtdkcljdfbemnbaaGreatDoor
open Go.RowKit _root_.Go.Proofs.Tryz
set_option maxHeartbeats 4000000
open Value renaming int→Pf,slice→Pg
set_option maxRecDepth 100000
theorem tF (a:Int):br a=true↔(0≤a∧a<4294967296):=by unfold br;simp
theorem Ks {P:Prop} [Decidable P] {b:Bool}:(if P then false else b)=true↔(¬P∧b=true):=by by_cases h:P<;>simp[h]
theorem DR (known:Bool) (k a b n kind val index:Int) (nt:Nat) (t0:Int) (labels:List Int) (_hk:0≤k∧k≤20):bW known (pC k) (pD k) (pE k) k a b n kind val index nt t0 labels=bG known k a b n kind val index nt labels.length t0 (labels.all br):=by
 have:k=0∨k=1∨k=2∨k=3∨k=4∨k=5∨k=6∨k=7∨k=8∨k=9∨k=10∨k=11∨k=12∨k=13∨k=14∨k=15∨k=16∨k=17∨k=18∨k=19∨k=20:=by omega
 rcases this with rfl|rfl|rfl|rfl|rfl|rfl|rfl|rfl|rfl|rfl|rfl|rfl|rfl|rfl|rfl|rfl|rfl|rfl|rfl|rfl|rfl
 all_goals
  unfold bW bG
  rw[Bool.eq_iff_iff]
  simp[pC,pD,pE,tF]
  try grind
variable (op:Int) (w:World) (B:Nat) (F:Nat→Prop) (m:af) (locals:List Int) (v:Value) (x:cv) (lp pt pl:Option Addr)
theorem yq (pt pl:Option Addr) (ct cl:Nat) (w:World) (h0:fJ w) (ht:ai F w (.slice pt x.types.length ct) x.types) (hl:ai F w (.slice pl x.labels.length cl) x.labels):Calls G.P 80 #[.agg #[Pf .i64 x.op,Pf .i64 x.a,Pf .i64 x.b,Pf .u64 x.n,Pf .i64 x.kind,Pf .i64 x.val,Pf .i64 x.index,Pg pt x.types.length ct,Pg pl x.labels.length cl]] w fun e w'=>e=.returned (.bool (cW x))∧Ext w w':=by
 have hkn:∀w',Ext w w'→Calls G.P 124 #[.int .i64 x.op] w' fun e w2=>e=.returned (.bool (fy x.op).isSome)∧Ext w' w2:=fun w' hx=>by rw[←zN];exact qH _ w' (h0.ext hx)
 have hof:∀w',Ext w w'→Calls G.P 95 #[.int .i64 x.op] w' fun e w2=>e=.returned (.int .i64 (eQ x.op))∧Ext w' w2:=fun w' hx=>ic _ w' (h0.ext hx)
 have hu:∀w',Ext w w'→Calls G.P 123 #[.int .i64 (eQ x.op)] w' fun e w2=>e=.returned (.tuple #[.bool (pC (eQ x.op)),.bool (pD (eQ x.op)),.bool (pE (eQ x.op))])∧Ext w' w2:=fun w' _=>zT _ w'
 have hcell:x.types.length=1→∃bt ot,pt=some ⟨bt,ot,none⟩∧w.cell? ⟨bt,ot+0,none⟩=some (.int .i64 (ix x.types 0)):=fun h1=>by
  obtain⟨b7,o7,rfl,-,hc⟩:=ht.at (i:=0) Pc
  exact⟨b7,o7,rfl,hc 0 Pc⟩
 have hr:=zQ x.op
 have key:cW x=bW (fy x.op).isSome (pC (eQ x.op)) (pD (eQ x.op)) (pE (eQ x.op)) (eQ x.op) x.a x.b x.n x.kind x.val x.index x.types.length (ix x.types 0) x.labels:=by
  rw[rA,rz,DR _ _ _ _ _ _ _ _ _ _ _ hr]
 rw[key]
 cases hf:(fy x.op).isSome with
 |false=>
  rw[hf]at hkn
  rw[show∀ua ub un k a b n kind val index nt t0 labels,bW false ua ub un k a b n kind val index nt t0 labels=false from fun _ _ _ _ _ _ _ _ _ _ _ _ _=>by simp[bW]]
  exact vO _ _ _ _ _ _ _ _ _ _ _ _ _ _ _ _ _ w hkn hof hu
 |true=>
  rw[hf]at hkn
  generalize eQ x.op=k at*
  have:k=0∨k=1∨k=3∨k=6∨k=13∨k=17∨k=18∨k=19∨k=20∨(k=2∨k=4∨k=7∨k=8∨k=9∨k=12∨k=16)∨(k=5∨k=10∨k=11∨k=14∨k=15):=by omega
  rcases this with rfl|rfl|rfl|rfl|rfl|rfl|rfl|rfl|rfl|h|h
  ·exact tQ F _ _ _ _ _ _ _ _ _ _ _ _ _ _ w hl hkn hof hu
  ·exact tR F _ _ _ _ _ _ _ _ _ _ _ _ _ _ w hl hkn hof hu
  ·exact tS F _ _ _ _ _ _ _ _ _ _ _ _ _ _ w hl hkn hof hu
  ·by_cases h1:x.types.length=1
   ·obtain⟨bt,ot,rfl,hc⟩:=hcell h1
    rw[h1]
    exact sJ F _ _ _ _ _ _ _ _ _ bt ot _ _ _ w hc hl hkn hof hu
   ·exact sK F _ _ _ _ _ _ _ _ _ _ _ _ _ _ w Pc hl hkn hof hu
  ·exact sE F _ _ _ _ _ _ _ _ _ _ _ _ _ _ w hl hkn hof hu
  ·exact sF F _ _ _ _ _ _ _ _ _ _ _ _ _ _ w hl hkn hof hu
  ·exact sG F _ _ _ _ _ _ _ _ _ _ _ _ _ _ w hl hkn hof hu
  ·exact sH F _ _ _ _ _ _ _ _ _ _ _ _ _ _ w hl hkn hof hu
  ·exact sI F _ _ _ _ _ _ _ _ _ _ _ _ _ _ w hl hkn hof hu
  ·have ea:pC k=true:=by unfold pC;simp;omega
   have eb:pD k=false:=by unfold pD;simp;omega
   have en:pE k=false:=by unfold pE;simp;omega
   rw[ea,eb,en]at hu ⊢
   exact tT F _ _ _ _ _ _ _ _ _ _ _ _ _ _ k w Pc Pc Pc Pc Pc Pc hl hkn hof hu
  ·have ea:pC k=true:=by unfold pC;simp;omega
   have eb:pD k=true:=by unfold pD;simp;omega
   have en:pE k=false:=by unfold pE;simp;omega
   rw[ea,eb,en]at hu ⊢
   exact tU F _ _ _ _ _ _ _ _ _ _ _ _ _ _ k w Pc Pc Pc Pc Pc Pc hl hkn hof hu
theorem sg (pt pl:Option Addr) (ct cl:Nat) (w:World) (ht:ai F w (.slice pt x.types.length ct) x.types) (hl:ai F w (.slice pl x.labels.length cl) x.labels):Calls G.P 64 #[.agg #[Pf .i64 x.op,Pf .i64 x.a,Pf .i64 x.b,Pf .u64 x.n,Pf .i64 x.kind,Pf .i64 x.val,Pf .i64 x.index,Pg pt x.types.length ct,Pg pl x.labels.length cl]] w fun e w'=>e=.returned (.bool (cW x))∧Ext w w':=by
 have hkn:∀w',Ext w w'→Calls G.P 106 #[.int .i64 x.op] w' fun e w2=>e=.returned (.bool (fy x.op).isSome)∧Ext w' w2:=fun w' _=>Aa _ w'
 have hof:∀w',Ext w w'→Calls G.P 105 #[.int .i64 x.op] w' fun e w2=>e=.returned (.int .i64 (eQ x.op))∧Ext w' w2:=fun w' _=>dq _ w'
 have hla:∀w',Ext w w'→Calls G.P 109 #[.slice pl x.labels.length cl] w' fun e w2=>e=.returned (.bool (x.labels.all br))∧Ext w' w2:=fun w' hx=>yA F _ _ w' (hl.aP hx (fun _ _ _ h=>h))
 have hcell:x.types.length=1→∃bt ot,pt=some ⟨bt,ot,none⟩∧w.cell? ⟨bt,ot+0,none⟩=some (.int .i64 (ix x.types 0)):=fun h1=>by
  obtain⟨b7,o7,rfl,-,hc⟩:=ht.at (i:=0) Pc
  exact⟨b7,o7,rfl,hc 0 Pc⟩
 have hr:=zQ x.op
 rw[rA,rz]
 cases hf:(fy x.op).isSome with
 |false=>
  rw[hf]at hkn
  rw[show∀k a b n kind val index nt nl t0 lal,bG false k a b n kind val index nt nl t0 lal=false from fun _ _ _ _ _ _ _ _ _ _ _=>by simp[bG]]
  exact yx _ _ _ _ _ _ _ _ _ _ _ _ _ _ w hkn hof
 |true=>
  rw[hf]at hkn
  generalize eQ x.op=k at*
  have:k=0∨k=1∨k=2∨k=3∨k=4∨k=5∨k=6∨k=7∨k=8∨k=9∨k=10∨k=11∨k=12∨k=13∨k=14∨k=15∨k=16∨k=17∨k=18∨k=19∨k=20:=by omega
  rcases this with rfl|rfl|rfl|rfl|rfl|rfl|rfl|rfl|rfl|rfl|rfl|rfl|rfl|rfl|rfl|rfl|rfl|rfl|rfl|rfl|rfl
  ·exact vS _ _ _ _ _ _ _ _ _ _ _ _ _ _ _ w hla hkn hof
  ·exact vT _ _ _ _ _ _ _ _ _ _ _ _ _ _ _ w hla hkn hof
  ·exact vU _ _ _ _ _ _ _ _ _ _ _ _ _ _ _ w hla hkn hof
  ·exact vV _ _ _ _ _ _ _ _ _ _ _ _ _ _ _ w hla hkn hof
  ·exact vW _ _ _ _ _ _ _ _ _ _ _ _ _ _ _ w hla hkn hof
  ·exact vX _ _ _ _ _ _ _ _ _ _ _ _ _ _ _ w hla hkn hof
  ·by_cases h1:x.types.length=1
   ·obtain⟨bt,ot,rfl,hc⟩:=hcell h1
    rw[h1]
    exact uv _ _ _ _ _ _ _ _ bt ot _ _ _ _ _ w hc hla hkn hof
   ·exact uw _ _ _ _ _ _ _ _ _ _ _ _ _ _ _ w Pc hla hkn hof
  ·exact vY _ _ _ _ _ _ _ _ _ _ _ _ _ _ _ w hla hkn hof
  ·exact vZ _ _ _ _ _ _ _ _ _ _ _ _ _ _ _ w hla hkn hof
  ·exact wb _ _ _ _ _ _ _ _ _ _ _ _ _ _ _ w hla hkn hof
  ·exact uf _ _ _ _ _ _ _ _ _ _ _ _ _ _ _ w hla hkn hof
  ·exact ug _ _ _ _ _ _ _ _ _ _ _ _ _ _ _ w hla hkn hof
  ·exact uh _ _ _ _ _ _ _ _ _ _ _ _ _ _ _ w hla hkn hof
  ·exact ui _ _ _ _ _ _ _ _ _ _ _ _ _ _ _ w hla hkn hof
  ·exact uj _ _ _ _ _ _ _ _ _ _ _ _ _ _ _ w hla hkn hof
  ·exact uk _ _ _ _ _ _ _ _ _ _ _ _ _ _ _ w hla hkn hof
  ·exact um _ _ _ _ _ _ _ _ _ _ _ _ _ _ _ w hla hkn hof
  ·exact uo _ _ _ _ _ _ _ _ _ _ _ _ _ _ _ w hla hkn hof
  ·exact uq _ _ _ _ _ _ _ _ _ _ _ _ _ _ _ w hla hkn hof
  ·exact ur _ _ _ _ _ _ _ _ _ _ _ _ _ _ _ w hla hkn hof
  ·exact uu _ _ _ _ _ _ _ _ _ _ _ _ _ _ _ w hla hkn hof
theorem Ci:(lL.all fun r=>decide (iX r.1=0) || decide (iX r.1=1) || decide (iX r.1=2) || decide (iX r.1=4) || decide (iX r.1=8))=true:=by decide+kernel
theorem F9:iJ op=0∨iJ op=1∨iJ op=2∨iJ op=4∨iJ op=8:=by
 rw[vA]
 cases h:fy op with
 |some r=>
  have:=List.all_eq_true.1 Ci r (List.mem_of_find?_eq_some h)
  have e:r.1=op:=by have:=List.find?_some h;simpa using this
  rw[e]at this
  simp only[Bool.or_eq_true,decide_eq_true_eq]at this
  omega
 |none=>left;unfold iX eE;rw[h];rfl
theorem z7:Calls G.P 181 #[.int .i64 op] w fun e w'=>e=.returned (.int .i64 (ml op))∧Ext w w':=by
 have hw:∀w',Calls G.P 199 #[.int .i64 op] w' fun e w2=>e=.returned (.int .i64 (iJ op))∧Ext w' w2:=fun w'=>by rw[vA];exact Ab op w'
 unfold ml
 generalize iJ op=k at hw ⊢
 refine ae (l:=[_]) func181 rfl ntmps181 rfl (Ok.start w) ?_
 repeat'(first|refine mq ?_|(refine aa.aj (f:=199) ?_;refine aa.au rfl rfl rfl (fun w' hw'=>hw w') ?_)|(refine gL ?_ ?_<;>(intro hc_;try subst hc_)))
 all_goals exact ah.aF rfl rfl fun w' hw'=>⟨by first|rfl|(simp only[*,if_false]),hw'.at⟩
theorem C7 (k:Int) (hk:k=0∨k=1∨k=2∨k=4∨k=8) (op:Int) (w:World) (hw:∀w',Ext w w'→Calls G.P 133 #[.int .i64 op] w' fun e w2=>e=.returned (.int .i64 k)∧Ext w' w2):Calls G.P 143 #[.int .i64 op] w fun e w'=>e=.returned (.int .i64 (if k=2 then 1 else if k=4 then 2 else if k=8 then 3 else 0))∧Ext w w':=by
 obtain⟨fk,hfk,hfk3⟩:∃fk:Int,(if k=2 then 1 else if k=4 then 2 else if k=8 then 3 else 0)=fk∧fk≤3:=⟨_,rfl,by rcases hk with rfl|rfl|rfl|rfl|rfl<;>decide⟩
 rw[hfk]
 refine ae (l:=[_]) func143 rfl ntmps143 rfl (Ok.start w) ?_
 repeat'(first|refine ar ?_|(refine aa.aj (f:=133) ?_;refine aa.au rfl rfl rfl (fun w' hw'=>hw w' hw'.at) ?_)|fail)
 refine bh.loop (σ:=Nat×Int) (fun s=>[(3,.int .i64 s.1),(4,.int .i64 s.2)]) (fun _=>[]) (fun _=>[Ext w]) (fun s=>(s.2=0∨s.2=1∨s.2=2∨s.2=4∨s.2=8)∧(s.1:Int)+(if s.2=2 then 1 else if s.2=4 then 2 else if s.2=8 then 3 else 0)=fk) (fun s=>s.2.toNat) (0,k) bH bw aU ⟨hk,by simp[hfk]⟩ ?_
 rintro⟨j,q⟩ ⟨hq,he⟩
 dsimp only at hq he ⊢
 rcases hq with rfl|rfl|rfl|rfl|rfl
 ·have he':(j:Int)+0=fk:=he
  repeat'(first|refine ar ?_|fail)
  all_goals exact ah.aF rfl rfl fun w' hw'=>⟨by rw[show fk=(j:Int)by omega],hw'.at⟩
 ·have he':(j:Int)+0=fk:=he
  repeat'(first|refine ar ?_|fail)
  all_goals exact ah.aF rfl rfl fun w' hw'=>⟨by rw[show fk=(j:Int)by omega],hw'.at⟩
 ·have he':(j:Int)+1=fk:=he
  repeat'(first|refine ar ?_|(refine aa.y_ (Yl.quo (r:=1) rfl rfl (fun w=>by kernel_rfl)) rfl ?_)|fail)
  all_goals exact ah.next (j+1,1) bH bw aU ⟨by simp,by show((j+1:Nat):Int)+0=fk;omega⟩ (by show(1:Int).toNat<(2:Int).toNat;decide)
 ·have he':(j:Int)+2=fk:=he
  repeat'(first|refine ar ?_|(refine aa.y_ (Yl.quo (r:=2) rfl rfl (fun w=>by kernel_rfl)) rfl ?_)|fail)
  all_goals exact ah.next (j+1,2) bH bw aU ⟨by simp,by show((j+1:Nat):Int)+1=fk;omega⟩ (by show(2:Int).toNat<(4:Int).toNat;decide)
 ·have he':(j:Int)+3=fk:=he
  repeat'(first|refine ar ?_|(refine aa.y_ (Yl.quo (r:=4) rfl rfl (fun w=>by kernel_rfl)) rfl ?_)|fail)
  all_goals exact ah.next (j+1,4) bH bw aU ⟨by simp,by show((j+1:Nat):Int)+2=fk;omega⟩ (by show(4:Int).toNat<(8:Int).toNat;decide)
theorem yp (h0:fJ w):Calls G.P 143 #[.int .i64 op] w fun e w'=>e=.returned (.int .i64 (ml op))∧Ext w w':=by
 unfold ml
 exact C7 _ (F9 op) op w fun w' hx=>qI op w' (h0.ext hx)
theorem zR (h0:fJ w):Calls G.P 104 #[.int .i64 op] w (iU (fP op) (fun _=>False) w):=
 (Bv op w h0).mono fun e w' ⟨⟨v,e1,hv⟩,hx⟩=>by
  obtain⟨_,rfl,p,r,rfl,h1,h2⟩:=hv
  exact⟨⟨(p,r),e1,h1.mono fun _ _ h=>.inr h,h2.mono fun _ _ h=>.inr h⟩,hx⟩
def fN (m:af) (locals:List Int) (x:cv):aO×Int:=
 let k:=eQ x.op
 if k=4 then dY m x else if k=5 then bZ m x else if k=6 then(⟨[ix x.types 0,ix x.types 0,1],[ix x.types 0]⟩,0)else if k=7 then eP locals x else if k=8 then dt m x else if k=9 then dr m x else
 if k=20 then(⟨[],[x.a]⟩,0)else if kG m x≠0 then(dF,kG m x)else((fP x.op).getD dF,0)
def m7 (m:af):Prop:=∀f∈m.types,f.params.length≤17592186043904∧f.results.length≤17592186043904
theorem m9 {α:Type} [Inhabited α] {l:List α} {i:Int} {f:α} (h:cJ l i=some f):f∈l:=by
 unfold cJ at h
 split at h
 ·rename_i hc
  cases h
  rw[cz Pc];exact List.getElem_mem _
 ·cases h
theorem H6:(lL.all fun r=>!decide (r.2.2=9) || (decide (r.1=37) || decide (r.1=38) || decide (r.1=64528) || decide (r.1=64527) || decide (r.1=64529)))=true:=by decide+kernel
theorem I1 {op:Int} (h:eQ op=9):op=37∨op=38∨op=64528∨op=64527∨op=64529:=by
 obtain⟨r,hr,h1,h2⟩:=s7 (op:=op) Pc
 have:=List.all_eq_true.1 H6 r hr
 rw[h2,h,h1]at this
 simpa[or_assoc]using this
theorem lY {x:cv} (h:cW x=true):eO x.a∧eO x.b∧0≤x.a∧0≤x.b∧(eQ x.op=6→x.types.length=1):=by
 have hr:=zQ x.op
 rw[rA,rz]at h
 unfold bG at h
 unfold eO
 generalize eQ x.op=k at*
 have:k=0∨k=1∨k=2∨k=3∨k=4∨k=5∨k=6∨k=7∨k=8∨k=9∨k=10∨k=11∨k=12∨k=13∨k=14∨k=15∨k=16∨k=17∨k=18∨k=19∨k=20:=by omega
 rcases this with rfl|rfl|rfl|rfl|rfl|rfl|rfl|rfl|rfl|rfl|rfl|rfl|rfl|rfl|rfl|rfl|rfl|rfl|rfl|rfl|rfl
 all_goals
  simp[tF]at h
  omega
theorem qL {g g':Prop} (h:g') (hw:eI g'→g:=by(intro hk_;(first|(refine aa.aj (f:=95) ?_;refine aa.au rfl rfl rfl (fun w' hw'=>hof w' hw'.at) ?_));exact hk_.out)):g:=hw ⟨h⟩
theorem yK (lc ct cl:Nat) (w:World) (h0:fJ w) (h:bN B m w v) (_hl:ai F w (.slice lp locals.length lc) locals) (_ht:ai F w (.slice pt x.types.length ct) x.types) (hp:cW x=true) (_hT:m7 m) (hk:eQ x.op=4):Calls G.P 56 #[v,.slice lp locals.length lc,.agg #[Pf .i64 x.op,Pf .i64 x.a,Pf .i64 x.b,Pf .u64 x.n,Pf .i64 x.kind,Pf .i64 x.val,Pf .i64 x.index,Pg pt x.types.length ct,Pg pl x.labels.length cl]] w (jx (dY m x) (fun _=>False) w):=by
 obtain⟨a1,a2,a3,a4,-⟩:=lY hp
 have hof:∀w',Ext w w'→Calls G.P 95 #[.int .i64 x.op] w' fun e w2=>e=.returned (.int .i64 4)∧Ext w' w2:=fun w' hx=>by have:=ic x.op w' (h0.ext hx);rw[hk]at this;exact this
 refine Mx ?_
 repeat'(first|refine ar ?_|(refine NU fun b_=>?_)|refine qL ?_|(refine aa.aj (f:=96) ?_;refine aa.he (HE.FZ (r:=(dY m x)) ak rfl rfl (fun w' hw'=>wH B m v x pt pl ct cl w' (h.aP (show Ext w w' from hw'.at) (fun _ _ h=>h)) a1)) rfl ?_;rintro⟨D_,p_,c_,q_,d_⟩ hD_;dsimp only)|fail)
 all_goals(refine ah.aM (.inl rfl) rfl rfl rfl rfl rfl aH rfl rfl ?_;exact fun w' hw'=>bD.jm (f0:=(dY m x).1) (tf:=fun y:Value×Value=>.tuple #[.agg #[y.1,y.2],.int .i64 (dY m x).2]) ⟨D_,p_,c_,q_,d_⟩ hw' ak ak hD_)
theorem yL (lc ct cl:Nat) (w:World) (h0:fJ w) (h:bN B m w v) (_hl:ai F w (.slice lp locals.length lc) locals) (_ht:ai F w (.slice pt x.types.length ct) x.types) (hp:cW x=true) (hT:m7 m) (hk:eQ x.op=5):Calls G.P 56 #[v,.slice lp locals.length lc,.agg #[Pf .i64 x.op,Pf .i64 x.a,Pf .i64 x.b,Pf .u64 x.n,Pf .i64 x.kind,Pf .i64 x.val,Pf .i64 x.index,Pg pt x.types.length ct,Pg pl x.labels.length cl]] w (jx (bZ m x) (fun _=>False) w):=by
 obtain⟨a1,a2,a3,a4,-⟩:=lY hp
 have hof:∀w',Ext w w'→Calls G.P 95 #[.int .i64 x.op] w' fun e w2=>e=.returned (.int .i64 5)∧Ext w' w2:=fun w' hx=>by have:=ic x.op w' (h0.ext hx);rw[hk]at this;exact this
 refine Mx ?_
 repeat'(first|refine ar ?_|(refine NU fun b_=>?_)|refine qL ?_|(refine aa.aj (f:=97) ?_;refine aa.he (HE.FZ (r:=(bZ m x)) ak rfl rfl (fun w' hw'=>wI B m v x pt pl ct cl w' (h.aP (show Ext w w' from hw'.at) (fun _ _ h=>h)) (fun f hf=>⟨(hT f (m9 hf)).1,by have:=(hT f (m9 hf)).2;omega⟩))) rfl ?_;rintro⟨D_,p_,c_,q_,d_⟩ hD_;dsimp only)|fail)
 all_goals(refine ah.aM (.inl rfl) rfl rfl rfl rfl rfl aH rfl rfl ?_;exact fun w' hw'=>bD.jm (f0:=(bZ m x).1) (tf:=fun y:Value×Value=>.tuple #[.agg #[y.1,y.2],.int .i64 (bZ m x).2]) ⟨D_,p_,c_,q_,d_⟩ hw' ak ak hD_)
theorem yN (lc ct cl:Nat) (w:World) (h0:fJ w) (_h:bN B m w v) (hl:ai F w (.slice lp locals.length lc) locals) (_ht:ai F w (.slice pt x.types.length ct) x.types) (hp:cW x=true) (_hT:m7 m) (hk:eQ x.op=7):Calls G.P 56 #[v,.slice lp locals.length lc,.agg #[Pf .i64 x.op,Pf .i64 x.a,Pf .i64 x.b,Pf .u64 x.n,Pf .i64 x.kind,Pf .i64 x.val,Pf .i64 x.index,Pg pt x.types.length ct,Pg pl x.labels.length cl]] w (jx (eP locals x) (fun _=>False) w):=by
 obtain⟨a1,a2,a3,a4,-⟩:=lY hp
 have hof:∀w',Ext w w'→Calls G.P 95 #[.int .i64 x.op] w' fun e w2=>e=.returned (.int .i64 7)∧Ext w' w2:=fun w' hx=>by have:=ic x.op w' (h0.ext hx);rw[hk]at this;exact this
 refine Mx ?_
 repeat'(first|refine ar ?_|(refine NU fun b_=>?_)|refine qL ?_|(refine aa.aj (f:=99) ?_;refine aa.he (HE.FZ (r:=(eP locals x)) ak rfl rfl (fun w' hw'=>BT F locals x lp pt pl lc ct cl w' (hl.aP (show Ext w w' from hw'.at) (fun _ _ _ h=>h)) a3)) rfl ?_;rintro⟨D_,p_,c_,q_,d_⟩ hD_;dsimp only)|fail)
 all_goals(refine ah.aM (.inl rfl) rfl rfl rfl rfl rfl aH rfl rfl ?_;exact fun w' hw'=>bD.jm (f0:=(eP locals x).1) (tf:=fun y:Value×Value=>.tuple #[.agg #[y.1,y.2],.int .i64 (eP locals x).2]) ⟨D_,p_,c_,q_,d_⟩ hw' ak ak hD_)
theorem yO (lc ct cl:Nat) (w:World) (h0:fJ w) (h:bN B m w v) (_hl:ai F w (.slice lp locals.length lc) locals) (_ht:ai F w (.slice pt x.types.length ct) x.types) (hp:cW x=true) (_hT:m7 m) (hk:eQ x.op=8):Calls G.P 56 #[v,.slice lp locals.length lc,.agg #[Pf .i64 x.op,Pf .i64 x.a,Pf .i64 x.b,Pf .u64 x.n,Pf .i64 x.kind,Pf .i64 x.val,Pf .i64 x.index,Pg pt x.types.length ct,Pg pl x.labels.length cl]] w (jx (dt m x) (fun _=>False) w):=by
 obtain⟨a1,a2,a3,a4,-⟩:=lY hp
 have hof:∀w',Ext w w'→Calls G.P 95 #[.int .i64 x.op] w' fun e w2=>e=.returned (.int .i64 8)∧Ext w' w2:=fun w' hx=>by have:=ic x.op w' (h0.ext hx);rw[hk]at this;exact this
 refine Mx ?_
 repeat'(first|refine ar ?_|(refine NU fun b_=>?_)|refine qL ?_|(refine aa.aj (f:=100) ?_;refine aa.he (HE.FZ (r:=(dt m x)) ak rfl rfl (fun w' hw'=>AB B m v x pt pl ct cl w' (h.aP (show Ext w w' from hw'.at) (fun _ _ h=>h)))) rfl ?_;rintro⟨D_,p_,c_,q_,d_⟩ hD_;dsimp only)|fail)
 all_goals(refine ah.aM (.inl rfl) rfl rfl rfl rfl rfl aH rfl rfl ?_;exact fun w' hw'=>bD.jm (f0:=(dt m x).1) (tf:=fun y:Value×Value=>.tuple #[.agg #[y.1,y.2],.int .i64 (dt m x).2]) ⟨D_,p_,c_,q_,d_⟩ hw' ak ak hD_)
theorem yP (lc ct cl:Nat) (w:World) (h0:fJ w) (h:bN B m w v) (_hl:ai F w (.slice lp locals.length lc) locals) (_ht:ai F w (.slice pt x.types.length ct) x.types) (hp:cW x=true) (_hT:m7 m) (hk:eQ x.op=9):Calls G.P 56 #[v,.slice lp locals.length lc,.agg #[Pf .i64 x.op,Pf .i64 x.a,Pf .i64 x.b,Pf .u64 x.n,Pf .i64 x.kind,Pf .i64 x.val,Pf .i64 x.index,Pg pt x.types.length ct,Pg pl x.labels.length cl]] w (jx (dr m x) (fun _=>False) w):=by
 obtain⟨a1,a2,a3,a4,-⟩:=lY hp
 have hof:∀w',Ext w w'→Calls G.P 95 #[.int .i64 x.op] w' fun e w2=>e=.returned (.int .i64 9)∧Ext w' w2:=fun w' hx=>by have:=ic x.op w' (h0.ext hx);rw[hk]at this;exact this
 refine Mx ?_
 repeat'(first|refine ar ?_|(refine NU fun b_=>?_)|refine qL ?_|(refine aa.aj (f:=101) ?_;refine aa.he (HE.FZ (r:=(dr m x)) ak rfl rfl (fun w' hw'=>AD B m v x pt pl ct cl w' (h.aP (show Ext w w' from hw'.at) (fun _ _ h=>h)) (I1 hk))) rfl ?_;rintro⟨D_,p_,c_,q_,d_⟩ hD_;dsimp only)|fail)
 all_goals(refine ah.aM (.inl rfl) rfl rfl rfl rfl rfl aH rfl rfl ?_;exact fun w' hw'=>bD.jm (f0:=(dr m x).1) (tf:=fun y:Value×Value=>.tuple #[.agg #[y.1,y.2],.int .i64 (dr m x).2]) ⟨D_,p_,c_,q_,d_⟩ hw' ak ak hD_)
theorem wL (lc ct cl:Nat) (w:World) (h0:fJ w) (h:bN B m w v) (_hl:ai F w (.slice lp locals.length lc) locals) (_ht:ai F w (.slice pt x.types.length ct) x.types) (hp:cW x=true) (_hT:m7 m) (hk:eQ x.op=20):Calls G.P 56 #[v,.slice lp locals.length lc,.agg #[Pf .i64 x.op,Pf .i64 x.a,Pf .i64 x.b,Pf .u64 x.n,Pf .i64 x.kind,Pf .i64 x.val,Pf .i64 x.index,Pg pt x.types.length ct,Pg pl x.labels.length cl]] w (jx (⟨[],[x.a]⟩,0) (fun _=>False) w):=by
 have:=h;clear this
 obtain⟨a1,a2,a3,a4,a5⟩:=lY hp
 have hof:∀w',Ext w w'→Calls G.P 95 #[.int .i64 x.op] w' fun e w2=>e=.returned (.int .i64 20)∧Ext w' w2:=fun w' hx=>by have:=ic x.op w' (h0.ext hx);rw[hk]at this;exact this
 refine Mx ?_
 repeat'(first|refine ar ?_|(refine NU fun b_=>?_)|(refine fB fun b_ _=>?_)|refine qL ?_|(refine aa.aj (f:=98) ?_;refine aa.au rfl rfl rfl (fun w' hw'=>s8 _ _ _ _ _ _ w') ?_)|fail)
 all_goals exact gt
theorem yM (lc ct cl:Nat) (w:World) (h0:fJ w) (_h:bN B m w v) (hl:ai F w (.slice lp locals.length lc) locals) (ht:ai F w (.slice pt x.types.length ct) x.types) (hp:cW x=true) (_hT:m7 m) (hk:eQ x.op=6):Calls G.P 56 #[v,.slice lp locals.length lc,.agg #[Pf .i64 x.op,Pf .i64 x.a,Pf .i64 x.b,Pf .u64 x.n,Pf .i64 x.kind,Pf .i64 x.val,Pf .i64 x.index,Pg pt x.types.length ct,Pg pl x.labels.length cl]] w (jx (⟨[ix x.types 0,ix x.types 0,1],[ix x.types 0]⟩,0) (fun _=>False) w):=by
 have:=hl;clear this
 obtain⟨a1,a2,a3,a4,a5⟩:=lY hp
 have h1:=a5 hk
 obtain⟨bt,ot,rfl,-,hc⟩:=ht.at (i:=0) Pc
 have hcell:w.cell? ⟨bt,ot+0,none⟩=some (.int .i64 (ix x.types 0)):=hc 0 Pc
 generalize ix x.types 0=t0 at hcell ⊢
 have hof:∀w',Ext w w'→Calls G.P 95 #[.int .i64 x.op] w' fun e w2=>e=.returned (.int .i64 6)∧Ext w' w2:=fun w' hx=>by have:=ic x.op w' (h0.ext hx);rw[hk]at this;exact this
 refine Mx ?_
 repeat'(first|refine ar ?_|(refine NU fun b_=>?_)|refine qL ?_|fail)
 rename_i b5
 refine Mk ?_
 repeat'(first|refine pG ?_|(refine aN.qy 2 rfl (Yl.gn (i:=0) rfl rfl rfl rfl rfl rfl Pc) ?_)|(refine aN.qy 6 rfl (Yl.gn (i:=0) rfl rfl rfl rfl rfl rfl Pc) ?_)|(refine aN.qy 11 rfl (Yl.gn (i:=0) rfl rfl rfl rfl rfl rfl Pc) ?_)|(refine ax.lD ?_;refine ax.he rfl rfl (HE.jJ rfl rfl rfl rfl rfl ep Pe Pe) (fun _=>bw) (fun _=>aU) ?_;rintro b7 _)|(refine ax.dz 98 ?_;refine ax.he rfl rfl (HE.eK rfl rfl (fun w' hw'=>s8 _ _ _ _ _ _ w')) (fun _=>bw) (fun _=>aU) ?_;rintro⟨⟩ _)|(refine ax.nf ?_;refine ax.jQ rfl (gj.bn _ rfl rfl rfl rfl rfl rfl aH rfl) (fun _=>bw) (fun _=>aU) ?_;rintro⟨⟩ _)|refine aN.nil O3 ?_|refine aN.any O3 ?_|exact aB.fin rfl|refine aB.skip O3 ?_|refine aB.go ?_ ?_)
 all_goals
  repeat'(first|refine ar ?_|fail)
  all_goals first|omega|exact ah.aM (.inl rfl) rfl rfl rfl rfl rfl aH rfl rfl fun w' hw'=>⟨⟨(_,_),rfl,by first|exact kN _ hw' ak (hD:=fun _ h=>.inr h),by first|exact kN _ hw' ak (hD:=fun _ h=>.inr h)⟩,hw'.at⟩
theorem AE (pt pl:Option Addr) (ct cl:Nat) (w:World) (h0:fJ w) (h:bN B m w v):Calls G.P 102 #[v,.agg #[Pf .i64 x.op,Pf .i64 x.a,Pf .i64 x.b,Pf .u64 x.n,Pf .i64 x.kind,Pf .i64 x.val,Pf .i64 x.index,Pg pt x.types.length ct,Pg pl x.labels.length cl]] w fun e w'=>e=.returned (.int .i64 (kG m x))∧Ext w w':=by
 have ho:∀w',Ext w w'→Calls G.P 95 #[.int .i64 x.op] w' fun e w2=>e=.returned (.int .i64 (eQ x.op))∧Ext w' w2:=fun w' hx=>ic x.op w' (h0.ext hx)
 have ha:∀w',Ext w w'→Calls G.P 143 #[.int .i64 x.op] w' fun e w2=>e=.returned (.int .i64 (ml x.op))∧Ext w' w2:=fun w' hx=>yp x.op w' (h0.ext hx)
 unfold kG
 generalize eQ x.op=k at ho ⊢
 exact wK B m v _ _ _ _ _ _ _ _ _ _ _ _ _ k _ w h ho ha
theorem yQ (lc ct cl:Nat) (w:World) (h0:fJ w) (h:bN B m w v) (_hl:ai F w (.slice lp locals.length lc) locals) (_ht:ai F w (.slice pt x.types.length ct) x.types) (hk:eQ x.op≠4∧eQ x.op≠5∧eQ x.op≠6∧eQ x.op≠7∧eQ x.op≠8∧eQ x.op≠9∧eQ x.op≠20):Calls G.P 56 #[v,.slice lp locals.length lc,.agg #[Pf .i64 x.op,Pf .i64 x.a,Pf .i64 x.b,Pf .u64 x.n,Pf .i64 x.kind,Pf .i64 x.val,Pf .i64 x.index,Pg pt x.types.length ct,Pg pl x.labels.length cl]] w (jx (if kG m x≠0 then(dF,kG m x)else((fP x.op).getD dF,0)) (fun _=>False) w):=by
 have hof:∀w',Ext w w'→Calls G.P 95 #[.int .i64 x.op] w' fun e w2=>e=.returned (.int .i64 (eQ x.op))∧Ext w' w2:=fun w' hx=>ic x.op w' (h0.ext hx)
 have hth:∀w',Ext w w'→Calls G.P 102 #[v,.agg #[Pf .i64 x.op,Pf .i64 x.a,Pf .i64 x.b,Pf .u64 x.n,Pf .i64 x.kind,Pf .i64 x.val,Pf .i64 x.index,Pg pt x.types.length ct,Pg pl x.labels.length cl]] w' fun e w2=>e=.returned (.int .i64 (kG m x))∧Ext w' w2:=fun w' hx=>AE B m v x pt pl ct cl w' (h0.ext hx) (h.aP hx (fun _ _ h=>h))
 obtain⟨k1,k2,k3,k4,k5,k6,k7⟩:=hk
 generalize eQ x.op=k at*
 generalize kG m x=e0 at*
 by_cases he:e0=0
 ·rw[if_neg Pc]
  refine Mx ?_
  repeat'(first|refine ar ?_|(refine NU fun b_=>?_)|refine qL ?_|(refine aa.aj (f:=102) ?_;refine aa.au rfl rfl rfl (fun w' hw'=>hth w' hw'.at) ?_)|(refine aa.aj (f:=104) ?_;refine aa.he (HE.mR (r:=fP x.op) ak rfl rfl (fun w' hw'=>zR x.op w' (h0.ext hw'.at))) rfl ?_;rintro⟨D_,p_,c_,q_,d_⟩ hD_;dsimp only)|fail)
  all_goals(refine ah.aM (.inl rfl) rfl rfl rfl rfl rfl aH rfl rfl ?_;exact fun w' hw'=>bD.jm (f0:=(fP x.op).getD dF) (tf:=fun y:Value×Value=>.tuple #[.agg #[y.1,y.2],.int .i64 0]) ⟨D_,p_,c_,q_,d_⟩ hw' ak ak hD_)
 ·rw[if_pos he]
  refine Mx ?_
  repeat'(first|refine ar ?_|(refine NU fun b_=>?_)|refine qL ?_|(refine aa.aj (f:=102) ?_;refine aa.au rfl rfl rfl (fun w' hw'=>hth w' hw'.at) ?_)|(refine aa.aj (f:=103) ?_;refine aa.au rfl rfl rfl (fun w' hw'=>vh _ w') ?_)|fail)
  all_goals exact ii
theorem BV (lc ct cl:Nat) (w:World) (h0:fJ w) (h:bN B m w v) (hl:ai F w (.slice lp locals.length lc) locals) (ht:ai F w (.slice pt x.types.length ct) x.types) (hp:cW x=true) (hT:m7 m):Calls G.P 56 #[v,.slice lp locals.length lc,.agg #[Pf .i64 x.op,Pf .i64 x.a,Pf .i64 x.b,Pf .u64 x.n,Pf .i64 x.kind,Pf .i64 x.val,Pf .i64 x.index,Pg pt x.types.length ct,Pg pl x.labels.length cl]] w (jx (fN m locals x) (fun _=>False) w):=by
 unfold fN
 dsimp only
 split
 ·exact yK B F m locals v x lp pt pl lc ct cl w h0 h hl ht hp hT O7
 split
 ·exact yL B F m locals v x lp pt pl lc ct cl w h0 h hl ht hp hT O7
 split
 ·exact yM B F m locals v x lp pt pl lc ct cl w h0 h hl ht hp hT O7
 split
 ·exact yN B F m locals v x lp pt pl lc ct cl w h0 h hl ht hp hT O7
 split
 ·exact yO B F m locals v x lp pt pl lc ct cl w h0 h hl ht hp hT O7
 split
 ·exact yP B F m locals v x lp pt pl lc ct cl w h0 h hl ht hp hT O7
 split
 ·exact wL B F m locals v x lp pt pl lc ct cl w h0 h hl ht hp hT O7
 exact yQ B F m locals v x lp pt pl lc ct cl w h0 h hl ht ⟨by assumption,by assumption,by assumption,by assumption,by assumption,by assumption,by assumption⟩
def qf (m:af) (locals:List Int) (x:cv):aO×Int:=if cW x=false then(dF,10)else if jW x.op=true then(dF,1)else fN m locals x
end Go.Proofs.YtdkcljdfbemnbaaGreatDoor
