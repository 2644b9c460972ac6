/- Layer 5: what a plain instruction is, for the program and the reference alike; alignments. -/
import Derived.Test.YtgbgnipidakdhaaGreatDoorJGs
import Derived.Test.YtgbgnipidakdhaaGreatDoorJGt
import Derived.Test.YtgbgnipidakdhaaGreatDoorJGu
import Derived.Test.YtgbgnipidakdhaaGreatDoorJGv
import Derived.Test.YtgbgnipidakdhaaGreatDoorJGw
import Derived.Test.YtgbgnipidakdhaaGreatDoorJWz
import Derived.Test.YtgbgnipidakdhaaGreatDoorJW2
namespace Go.Proofs.YtgbgnipidakdhaaGreatDoor
open Go.RowKit
set_option maxRecDepth 100000
theorem qK (a:Int):aW a=true↔(0≤a∧a<4294967296):=by unfold aW;simp
theorem HL {P:Prop} [Decidable P] {b:Bool}:(if P then false else b)=true↔(¬P∧b=true):=by by_cases h:P<;>simp[h]
set_option maxHeartbeats 4000000 in
theorem AO (known:Bool) (k a b n kind val index:Int) (nt:Nat) (t0:Int) (labels:List Int) (hk:0≤k∧k≤20):bK known (nM k) (nB k) (nK k) k a b n kind val index nt t0 labels=bp known k a b n kind val index nt labels.length t0 (labels.all aW):=by
 have:k=0∨k=1∨k=2∨k=3∨k=4∨k=5∨k=6∨k=7∨k=8∨k=9∨k=10∨k=11∨k=12∨k=13∨k=14∨k=15∨k=16∨k=17∨k=18∨k=19∨k=20:=by omega
 rcases this with rfl|rfl|rfl|rfl|rfl|rfl|rfl|rfl|rfl|rfl|rfl|rfl|rfl|rfl|rfl|rfl|rfl|rfl|rfl|rfl|rfl
 all_goals
  unfold bK bp
  rw[Bool.eq_iff_iff]
  simp[nM,nB,nK,qK]
  try grind
theorem oS (F:Nat→Prop) (x:cJ) (pt pl:Option Addr) (ct cl:Nat) (w:World) (h0:fu w) (ht:af F w (.slice pt x.types.length ct) x.types) (hl:af F w (.slice pl x.labels.length cl) x.labels):Calls G.P 75 #[.agg #[Value.int .i64 x.op,Value.int .i64 x.a,Value.int .i64 x.b,Value.int .u64 x.n,Value.int .i64 x.kind,Value.int .i64 x.val,Value.int .i64 x.index,Value.slice pt x.types.length ct,Value.slice pl x.labels.length cl]] w fun e w'=>e=.returned (.bool (cq x))∧Ext w w':=by
 have hkn:∀w',Ext w w'→Calls G.P 124 #[.int .i64 x.op] w' fun e w2=>e=.returned (.bool (eO x.op).isSome)∧Ext w' w2:=fun w' hx=>by rw[←xp];exact oR _ w' (h0.ext hx)
 have hof:∀w',Ext w w'→Calls G.P 76 #[.int .i64 x.op] w' fun e w2=>e=.returned (.int .i64 (dZ x.op))∧Ext w' w2:=fun w' hx=>gI _ w' (h0.ext hx)
 have hu:∀w',Ext w w'→Calls G.P 123 #[.int .i64 (dZ x.op)] w' fun e w2=>e=.returned (.tuple #[.bool (nM (dZ x.op)),.bool (nB (dZ x.op)),.bool (nK (dZ x.op))])∧Ext w' w2:=fun w' _=>wI _ w'
 have hcell:x.types.length=1→∃bt ot,pt=some ⟨bt,ot,none⟩∧w.cell? ⟨bt,ot+0,none⟩=some (.int .i64 (ix x.types 0)):=fun h1=>by
  obtain⟨b7,o7,rfl,-,hc⟩:=ht.at (i:=0) Mj
  exact⟨b7,o7,rfl,hc 0 Mj⟩
 have hr:=xv x.op
 have key:cq x=bK (eO x.op).isSome (nM (dZ x.op)) (nB (dZ x.op)) (nK (dZ x.op)) (dZ x.op) x.a x.b x.n x.kind x.val x.index x.types.length (ix x.types 0) x.labels:=by
  rw[pC,px,AO _ _ _ _ _ _ _ _ _ _ _ hr]
 rw[key]
 cases hf:(eO x.op).isSome with
 |false=>
  rw[hf]at hkn
  rw[show∀ua ub un k a b n kind val index nt t0 labels,bK false ua ub un k a b n kind val index nt t0 labels=false from fun _ _ _ _ _ _ _ _ _ _ _ _ _=>by simp[bK]]
  exact uh _ _ _ _ _ _ _ _ _ _ _ _ _ _ _ _ _ w hkn hof hu
 |true=>
  rw[hf]at hkn
  generalize dZ x.op=k at*
  have:k=0∨k=1∨k=3∨k=6∨k=13∨k=17∨k=18∨k=19∨k=20∨(k=2∨k=4∨k=7∨k=8∨k=9∨k=12∨k=16)∨(k=5∨k=10∨k=11∨k=14∨k=15):=by omega
  rcases this with rfl|rfl|rfl|rfl|rfl|rfl|rfl|rfl|rfl|h|h
  ·exact rQ F _ _ _ _ _ _ _ _ _ _ _ _ _ _ w hl hkn hof hu
  ·exact qQ F _ _ _ _ _ _ _ _ _ _ _ _ _ _ w hl hkn hof hu
  ·exact tj F _ _ _ _ _ _ _ _ _ _ _ _ _ _ w hl hkn hof hu
  ·by_cases h1:x.types.length=1
   ·obtain⟨bt,ot,rfl,hc⟩:=hcell h1
    rw[h1]
    exact qh F _ _ _ _ _ _ _ _ _ bt ot _ _ _ w hc hl hkn hof hu
   ·exact qf F _ _ _ _ _ _ _ _ _ _ _ _ _ _ w Mj hl hkn hof hu
  ·exact qn F _ _ _ _ _ _ _ _ _ _ _ _ _ _ w hl hkn hof hu
  ·exact pZ F _ _ _ _ _ _ _ _ _ _ _ _ _ _ w hl hkn hof hu
  ·exact qd F _ _ _ _ _ _ _ _ _ _ _ _ _ _ w hl hkn hof hu
  ·exact qs F _ _ _ _ _ _ _ _ _ _ _ _ _ _ w hl hkn hof hu
  ·exact qo F _ _ _ _ _ _ _ _ _ _ _ _ _ _ w hl hkn hof hu
  ·have ea:nM k=true:=by unfold nM;simp;omega
   have eb:nB k=false:=by unfold nB;simp;omega
   have en:nK k=false:=by unfold nK;simp;omega
   rw[ea,eb,en]at hu ⊢
   exact sm F _ _ _ _ _ _ _ _ _ _ _ _ _ _ k w Mj Mj Mj Mj Mj Mj hl hkn hof hu
  ·have ea:nM k=true:=by unfold nM;simp;omega
   have eb:nB k=true:=by unfold nB;simp;omega
   have en:nK k=false:=by unfold nK;simp;omega
   rw[ea,eb,en]at hu ⊢
   exact rW F _ _ _ _ _ _ _ _ _ _ _ _ _ _ k w Mj Mj Mj Mj Mj Mj hl hkn hof hu
theorem pJ (F:Nat→Prop) (x:cJ) (pt pl:Option Addr) (ct cl:Nat) (w:World) (ht:af F w (.slice pt x.types.length ct) x.types) (hl:af F w (.slice pl x.labels.length cl) x.labels):Calls G.P 40 #[.agg #[Value.int .i64 x.op,Value.int .i64 x.a,Value.int .i64 x.b,Value.int .u64 x.n,Value.int .i64 x.kind,Value.int .i64 x.val,Value.int .i64 x.index,Value.slice pt x.types.length ct,Value.slice pl x.labels.length cl]] w fun e w'=>e=.returned (.bool (cq x))∧Ext w w':=by
 have hkn:∀w',Ext w w'→Calls G.P 87 #[.int .i64 x.op] w' fun e w2=>e=.returned (.bool (eO x.op).isSome)∧Ext w' w2:=fun w' _=>xq _ w'
 have hof:∀w',Ext w w'→Calls G.P 86 #[.int .i64 x.op] w' fun e w2=>e=.returned (.int .i64 (dZ x.op))∧Ext w' w2:=fun w' _=>cW _ w'
 have hla:∀w',Ext w w'→Calls G.P 90 #[.slice pl x.labels.length cl] w' fun e w2=>e=.returned (.bool (x.labels.all aW))∧Ext w' w2:=fun w' hx=>wg F _ _ w' (hl.aO hx (fun _ _ _ h=>h))
 have hcell:x.types.length=1→∃bt ot,pt=some ⟨bt,ot,none⟩∧w.cell? ⟨bt,ot+0,none⟩=some (.int .i64 (ix x.types 0)):=fun h1=>by
  obtain⟨b7,o7,rfl,-,hc⟩:=ht.at (i:=0) Mj
  exact⟨b7,o7,rfl,hc 0 Mj⟩
 have hr:=xv x.op
 rw[pC,px]
 cases hf:(eO x.op).isSome with
 |false=>
  rw[hf]at hkn
  rw[show∀k a b n kind val index nt nl t0 lal,bp false k a b n kind val index nt nl t0 lal=false from fun _ _ _ _ _ _ _ _ _ _ _=>by simp[bp]]
  exact vW _ _ _ _ _ _ _ _ _ _ _ _ _ _ w hkn hof
 |true=>
  rw[hf]at hkn
  generalize dZ x.op=k at*
  have:k=0∨k=1∨k=2∨k=3∨k=4∨k=5∨k=6∨k=7∨k=8∨k=9∨k=10∨k=11∨k=12∨k=13∨k=14∨k=15∨k=16∨k=17∨k=18∨k=19∨k=20:=by omega
  rcases this with rfl|rfl|rfl|rfl|rfl|rfl|rfl|rfl|rfl|rfl|rfl|rfl|rfl|rfl|rfl|rfl|rfl|rfl|rfl|rfl|rfl
  ·exact tG _ _ _ _ _ _ _ _ _ _ _ _ _ _ _ w hla hkn hof
  ·exact tQ _ _ _ _ _ _ _ _ _ _ _ _ _ _ _ w hla hkn hof
  ·exact tu _ _ _ _ _ _ _ _ _ _ _ _ _ _ _ w hla hkn hof
  ·exact tr _ _ _ _ _ _ _ _ _ _ _ _ _ _ _ w hla hkn hof
  ·exact tL _ _ _ _ _ _ _ _ _ _ _ _ _ _ _ w hla hkn hof
  ·exact tT _ _ _ _ _ _ _ _ _ _ _ _ _ _ _ w hla hkn hof
  ·by_cases h1:x.types.length=1
   ·obtain⟨bt,ot,rfl,hc⟩:=hcell h1
    rw[h1]
    exact rE _ _ _ _ _ _ _ _ bt ot _ _ _ _ _ w hc hla hkn hof
   ·exact rN _ _ _ _ _ _ _ _ _ _ _ _ _ _ _ w Mj hla hkn hof
  ·exact tI _ _ _ _ _ _ _ _ _ _ _ _ _ _ _ w hla hkn hof
  ·exact tP _ _ _ _ _ _ _ _ _ _ _ _ _ _ _ w hla hkn hof
  ·exact tz _ _ _ _ _ _ _ _ _ _ _ _ _ _ _ w hla hkn hof
  ·exact sY _ _ _ _ _ _ _ _ _ _ _ _ _ _ _ w hla hkn hof
  ·exact rY _ _ _ _ _ _ _ _ _ _ _ _ _ _ _ w hla hkn hof
  ·exact rV _ _ _ _ _ _ _ _ _ _ _ _ _ _ _ w hla hkn hof
  ·exact rA _ _ _ _ _ _ _ _ _ _ _ _ _ _ _ w hla hkn hof
  ·exact sn _ _ _ _ _ _ _ _ _ _ _ _ _ _ _ w hla hkn hof
  ·exact sF _ _ _ _ _ _ _ _ _ _ _ _ _ _ _ w hla hkn hof
  ·exact rG _ _ _ _ _ _ _ _ _ _ _ _ _ _ _ w hla hkn hof
  ·exact rZ _ _ _ _ _ _ _ _ _ _ _ _ _ _ _ w hla hkn hof
  ·exact rB _ _ _ _ _ _ _ _ _ _ _ _ _ _ _ w hla hkn hof
  ·exact qX _ _ _ _ _ _ _ _ _ _ _ _ _ _ _ w hla hkn hof
  ·exact so _ _ _ _ _ _ _ _ _ _ _ _ _ _ _ w hla hkn hof
theorem zG:(kg.all fun r=>decide (il r.1=0) || decide (il r.1=1) || decide (il r.1=2) || decide (il r.1=4) || decide (il r.1=8))=true:=by decide+kernel
theorem Ca (op:Int):gQ op=0∨gQ op=1∨gQ op=2∨gQ op=4∨gQ op=8:=by
 rw[rI]
 cases h:eO op with
 |some r=>
  have:=List.all_eq_true.1 zG r (List.mem_of_find?_eq_some h)
  have e:r.1=op:=by have:=List.find?_some h;simpa using this
  rw[e]at this
  simp only[Bool.or_eq_true,decide_eq_true_eq]at this
  omega
 |none=>left;unfold il dU;rw[h];rfl
theorem xM (op:Int) (w:World):Calls G.P 150 #[.int .i64 op] w fun e w'=>e=.returned (.int .i64 (kO op))∧Ext w w':=by
 have hw:∀w',Calls G.P 175 #[.int .i64 op] w' fun e w2=>e=.returned (.int .i64 (gQ op))∧Ext w' w2:=fun w'=>by rw[rI];exact xb op w'
 unfold kO
 generalize gQ op=k at hw ⊢
 refine ae (l:=[_]) Tryz.func150 rfl Tryz.ntmps150 rfl (Ok.start w) ?_
 repeat'(first|refine kQ ?_|(refine aa.ai (f:=175) ?_;refine aa.aq rfl rfl rfl (fun w' hw'=>hw w') ?_)|(refine fV ?_ ?_<;>(intro hc_;try subst hc_)))
 all_goals exact ah.aB rfl rfl fun w' hw'=>⟨by first|rfl|(simp only[*,if_false]),hw'.at⟩
theorem Bp (k:Int) (hk:k=0∨k=1∨k=2∨k=4∨k=8) (op:Int) (w:World) (hw:∀w',Ext w w'→Calls G.P 128 #[.int .i64 op] w' fun e w2=>e=.returned (.int .i64 k)∧Ext w' w2):Calls G.P 138 #[.int .i64 op] w fun e w'=>e=.returned (.int .i64 (if k=2 then 1 else if k=4 then 2 else if k=8 then 3 else 0))∧Ext w w':=by
 obtain⟨fk,hfk,hfk3⟩:∃fk:Int,(if k=2 then 1 else if k=4 then 2 else if k=8 then 3 else 0)=fk∧fk≤3:=⟨_,rfl,by rcases hk with rfl|rfl|rfl|rfl|rfl<;>decide⟩
 rw[hfk]
 refine ae (l:=[_]) Tryz.func138 rfl Tryz.ntmps138 rfl (Ok.start w) ?_
 repeat'(first|refine ar ?_|(refine aa.ai (f:=128) ?_;refine aa.aq rfl rfl rfl (fun w' hw'=>hw w' hw'.at) ?_)|fail)
 refine aZ.loop (σ:=Nat×Int) (fun s=>[(3,.int .i64 s.1),(4,.int .i64 s.2)]) (fun _=>[]) (fun _=>[Ext w]) (fun s=>(s.2=0∨s.2=1∨s.2=2∨s.2=4∨s.2=8)∧(s.1:Int)+(if s.2=2 then 1 else if s.2=4 then 2 else if s.2=8 then 3 else 0)=fk) (fun s=>s.2.toNat) (0,k) bJ bc aV ⟨hk,by simp[hfk]⟩ ?_
 rintro⟨j,q⟩ ⟨hq,he⟩
 dsimp only at hq he ⊢
 rcases hq with rfl|rfl|rfl|rfl|rfl
 ·have he':(j:Int)+0=fk:=he
  repeat'(first|refine ar ?_|fail)
  all_goals exact ah.aB rfl rfl fun w' hw'=>⟨by rw[show fk=(j:Int)by omega],hw'.at⟩
 ·have he':(j:Int)+0=fk:=he
  repeat'(first|refine ar ?_|fail)
  all_goals exact ah.aB rfl rfl fun w' hw'=>⟨by rw[show fk=(j:Int)by omega],hw'.at⟩
 ·have he':(j:Int)+1=fk:=he
  repeat'(first|refine ar ?_|(refine aa.y_ (Yl.quo (r:=1) rfl rfl (fun w=>by kernel_rfl)) rfl ?_)|fail)
  all_goals exact ah.next (j+1,1) bJ bc aV ⟨by simp,by show((j+1:Nat):Int)+0=fk;omega⟩ (by show(1:Int).toNat<(2:Int).toNat;decide)
 ·have he':(j:Int)+2=fk:=he
  repeat'(first|refine ar ?_|(refine aa.y_ (Yl.quo (r:=2) rfl rfl (fun w=>by kernel_rfl)) rfl ?_)|fail)
  all_goals exact ah.next (j+1,2) bJ bc aV ⟨by simp,by show((j+1:Nat):Int)+1=fk;omega⟩ (by show(2:Int).toNat<(4:Int).toNat;decide)
 ·have he':(j:Int)+3=fk:=he
  repeat'(first|refine ar ?_|(refine aa.y_ (Yl.quo (r:=4) rfl rfl (fun w=>by kernel_rfl)) rfl ?_)|fail)
  all_goals exact ah.next (j+1,4) bJ bc aV ⟨by simp,by show((j+1:Nat):Int)+2=fk;omega⟩ (by show(4:Int).toNat<(8:Int).toNat;decide)
theorem wy (op:Int) (w:World) (h0:fu w):Calls G.P 138 #[.int .i64 op] w fun e w'=>e=.returned (.int .i64 (kO op))∧Ext w w':=by
 unfold kO
 exact Bp _ (Ca op) op w fun w' hx=>oL op w' (h0.ext hx)
theorem xF (op:Int) (w:World) (h0:fu w):Calls G.P 85 #[.int .i64 op] w (iZ (ft op) (fun _=>False) w):=
 (ze op w h0).mono fun e w' ⟨⟨v,e1,hv⟩,hx⟩=>by
  obtain⟨_,rfl,p,r,rfl,h1,h2⟩:=hv
  exact⟨⟨(p,r),e1,h1.mono fun _ _ h=>.inr h,h2.mono fun _ _ h=>.inr h⟩,hx⟩
def ed (m:aj) (locals:List Int) (x:cJ):aL×Int:=
 let k:=dZ x.op
 if k=4 then dH m x else if k=5 then bM m x else if k=6 then(⟨[ix x.types 0,ix x.types 0,1],[ix x.types 0]⟩,0)else if k=7 then ec locals x else if k=8 then cX m x else if k=9 then cU m x else
 if k=20 then(⟨[],[x.a]⟩,0)else if jK m x≠0 then(dy,jK m x)else((ft x.op).getD dy,0)
def kx (m:aj):Prop:=∀f∈m.types,f.params.length≤17592186043904∧f.results.length≤17592186043904
theorem nc {α:Type} [Inhabited α] {l:List α} {i:Int} {f:α} (h:cx l i=some f):f∈l:=by
 unfold cx at h
 split at h
 ·rename_i hc
  cases h
  rw[cD Mj];exact List.getElem_mem _
 ·cases h
theorem Fl:(kg.all fun r=>!decide (r.2.2=9) || (decide (r.1=37) || decide (r.1=38) || decide (r.1=64528) || decide (r.1=64527) || decide (r.1=64529)))=true:=by decide+kernel
theorem FU {op:Int} (h:dZ op=9):op=37∨op=38∨op=64528∨op=64527∨op=64529:=by
 obtain⟨r,hr,h1,h2⟩:=qI (op:=op) Mj
 have:=List.all_eq_true.1 Fl r hr
 rw[h2,h,h1]at this
 simpa[or_assoc]using this
theorem kD {x:cJ} (h:cq x=true):dV x.a∧dV x.b∧0≤x.a∧0≤x.b∧(dZ x.op=6→x.types.length=1):=by
 have hr:=xv x.op
 rw[pC,px]at h
 unfold bp at h
 unfold dV
 generalize dZ x.op=k at*
 have:k=0∨k=1∨k=2∨k=3∨k=4∨k=5∨k=6∨k=7∨k=8∨k=9∨k=10∨k=11∨k=12∨k=13∨k=14∨k=15∨k=16∨k=17∨k=18∨k=19∨k=20:=by omega
 rcases this with rfl|rfl|rfl|rfl|rfl|rfl|rfl|rfl|rfl|rfl|rfl|rfl|rfl|rfl|rfl|rfl|rfl|rfl|rfl|rfl|rfl
 all_goals
  simp[qK]at h
  omega
theorem Ak {g g':Prop} (h:g') (hw:dS g'→g:=by(intro hk_;(first|refine Lh ?_);exact hk_.out)):g:=hw ⟨h⟩
set_option maxHeartbeats 4000000 in
theorem vv (B:Nat) (F:Nat→Prop) (m:aj) (locals:List Int) (v:Value) (x:cJ) (lp pt pl:Option Addr) (lc ct cl:Nat) (w:World) (h0:fu w) (h:bL B m w v) (_hl:af F w (.slice lp locals.length lc) locals) (_ht:af F w (.slice pt x.types.length ct) x.types) (hp:cq x=true) (_hT:kx m) (hk:dZ x.op=4):Calls G.P 36 #[v,.slice lp locals.length lc,.agg #[Value.int .i64 x.op,Value.int .i64 x.a,Value.int .i64 x.b,Value.int .u64 x.n,Value.int .i64 x.kind,Value.int .i64 x.val,Value.int .i64 x.index,Value.slice pt x.types.length ct,Value.slice pl x.labels.length cl]] w (ia (dH m x) (fun _=>False) w):=by
 obtain⟨a1,a2,a3,a4,-⟩:=kD hp
 have hof:∀w',Ext w w'→Calls G.P 76 #[.int .i64 x.op] w' fun e w2=>e=.returned (.int .i64 4)∧Ext w' w2:=fun w' hx=>by have:=gI x.op w' (h0.ext hx);rw[hk]at this;exact this
 refine Kn ?_
 repeat'(first|refine ar ?_|(refine KS fun b_=>?_)|refine Ak ?_|(refine aa.ai (f:=77) ?_;refine aa.he (HE.A3 (r:=(dH m x)) ak rfl rfl (fun w' hw'=>tC B m v x pt pl ct cl w' (h.aO (show Ext w w' from hw'.at) (fun _ _ h=>h)) a1)) rfl ?_;rintro⟨D_,p_,c_,q_,d_⟩ hD_;dsimp only)|fail)
 all_goals(refine ah.aF (.inl rfl) rfl rfl rfl rfl rfl aA rfl rfl ?_;exact fun w' hw'=>bg.iI (f0:=(dH m x).1) (tf:=fun y:Value×Value=>.tuple #[.agg #[y.1,y.2],.int .i64 (dH m x).2]) ⟨D_,p_,c_,q_,d_⟩ hw' ak ak hD_)
set_option maxHeartbeats 4000000 in
theorem wk (B:Nat) (F:Nat→Prop) (m:aj) (locals:List Int) (v:Value) (x:cJ) (lp pt pl:Option Addr) (lc ct cl:Nat) (w:World) (h0:fu w) (h:bL B m w v) (_hl:af F w (.slice lp locals.length lc) locals) (_ht:af F w (.slice pt x.types.length ct) x.types) (hp:cq x=true) (hT:kx m) (hk:dZ x.op=5):Calls G.P 36 #[v,.slice lp locals.length lc,.agg #[Value.int .i64 x.op,Value.int .i64 x.a,Value.int .i64 x.b,Value.int .u64 x.n,Value.int .i64 x.kind,Value.int .i64 x.val,Value.int .i64 x.index,Value.slice pt x.types.length ct,Value.slice pl x.labels.length cl]] w (ia (bM m x) (fun _=>False) w):=by
 obtain⟨a1,a2,a3,a4,-⟩:=kD hp
 have hof:∀w',Ext w w'→Calls G.P 76 #[.int .i64 x.op] w' fun e w2=>e=.returned (.int .i64 5)∧Ext w' w2:=fun w' hx=>by have:=gI x.op w' (h0.ext hx);rw[hk]at this;exact this
 refine Kn ?_
 repeat'(first|refine ar ?_|(refine KS fun b_=>?_)|refine Ak ?_|(refine aa.ai (f:=78) ?_;refine aa.he (HE.A3 (r:=(bM m x)) ak rfl rfl (fun w' hw'=>tV B m v x pt pl ct cl w' (h.aO (show Ext w w' from hw'.at) (fun _ _ h=>h)) (fun f hf=>⟨(hT f (nc hf)).1,by have:=(hT f (nc hf)).2;omega⟩))) rfl ?_;rintro⟨D_,p_,c_,q_,d_⟩ hD_;dsimp only)|fail)
 all_goals(refine ah.aF (.inl rfl) rfl rfl rfl rfl rfl aA rfl rfl ?_;exact fun w' hw'=>bg.iI (f0:=(bM m x).1) (tf:=fun y:Value×Value=>.tuple #[.agg #[y.1,y.2],.int .i64 (bM m x).2]) ⟨D_,p_,c_,q_,d_⟩ hw' ak ak hD_)
set_option maxHeartbeats 4000000 in
theorem wc (B:Nat) (F:Nat→Prop) (m:aj) (locals:List Int) (v:Value) (x:cJ) (lp pt pl:Option Addr) (lc ct cl:Nat) (w:World) (h0:fu w) (_h:bL B m w v) (hl:af F w (.slice lp locals.length lc) locals) (_ht:af F w (.slice pt x.types.length ct) x.types) (hp:cq x=true) (_hT:kx m) (hk:dZ x.op=7):Calls G.P 36 #[v,.slice lp locals.length lc,.agg #[Value.int .i64 x.op,Value.int .i64 x.a,Value.int .i64 x.b,Value.int .u64 x.n,Value.int .i64 x.kind,Value.int .i64 x.val,Value.int .i64 x.index,Value.slice pt x.types.length ct,Value.slice pl x.labels.length cl]] w (ia (ec locals x) (fun _=>False) w):=by
 obtain⟨a1,a2,a3,a4,-⟩:=kD hp
 have hof:∀w',Ext w w'→Calls G.P 76 #[.int .i64 x.op] w' fun e w2=>e=.returned (.int .i64 7)∧Ext w' w2:=fun w' hx=>by have:=gI x.op w' (h0.ext hx);rw[hk]at this;exact this
 refine Kn ?_
 repeat'(first|refine ar ?_|(refine KS fun b_=>?_)|refine Ak ?_|(refine aa.ai (f:=80) ?_;refine aa.he (HE.A3 (r:=(ec locals x)) ak rfl rfl (fun w' hw'=>zm F locals x lp pt pl lc ct cl w' (hl.aO (show Ext w w' from hw'.at) (fun _ _ _ h=>h)) a3)) rfl ?_;rintro⟨D_,p_,c_,q_,d_⟩ hD_;dsimp only)|fail)
 all_goals(refine ah.aF (.inl rfl) rfl rfl rfl rfl rfl aA rfl rfl ?_;exact fun w' hw'=>bg.iI (f0:=(ec locals x).1) (tf:=fun y:Value×Value=>.tuple #[.agg #[y.1,y.2],.int .i64 (ec locals x).2]) ⟨D_,p_,c_,q_,d_⟩ hw' ak ak hD_)
set_option maxHeartbeats 4000000 in
theorem vL (B:Nat) (F:Nat→Prop) (m:aj) (locals:List Int) (v:Value) (x:cJ) (lp pt pl:Option Addr) (lc ct cl:Nat) (w:World) (h0:fu w) (h:bL B m w v) (_hl:af F w (.slice lp locals.length lc) locals) (_ht:af F w (.slice pt x.types.length ct) x.types) (hp:cq x=true) (_hT:kx m) (hk:dZ x.op=8):Calls G.P 36 #[v,.slice lp locals.length lc,.agg #[Value.int .i64 x.op,Value.int .i64 x.a,Value.int .i64 x.b,Value.int .u64 x.n,Value.int .i64 x.kind,Value.int .i64 x.val,Value.int .i64 x.index,Value.slice pt x.types.length ct,Value.slice pl x.labels.length cl]] w (ia (cX m x) (fun _=>False) w):=by
 obtain⟨a1,a2,a3,a4,-⟩:=kD hp
 have hof:∀w',Ext w w'→Calls G.P 76 #[.int .i64 x.op] w' fun e w2=>e=.returned (.int .i64 8)∧Ext w' w2:=fun w' hx=>by have:=gI x.op w' (h0.ext hx);rw[hk]at this;exact this
 refine Kn ?_
 repeat'(first|refine ar ?_|(refine KS fun b_=>?_)|refine Ak ?_|(refine aa.ai (f:=81) ?_;refine aa.he (HE.A3 (r:=(cX m x)) ak rfl rfl (fun w' hw'=>xe B m v x pt pl ct cl w' (h.aO (show Ext w w' from hw'.at) (fun _ _ h=>h)))) rfl ?_;rintro⟨D_,p_,c_,q_,d_⟩ hD_;dsimp only)|fail)
 all_goals(refine ah.aF (.inl rfl) rfl rfl rfl rfl rfl aA rfl rfl ?_;exact fun w' hw'=>bg.iI (f0:=(cX m x).1) (tf:=fun y:Value×Value=>.tuple #[.agg #[y.1,y.2],.int .i64 (cX m x).2]) ⟨D_,p_,c_,q_,d_⟩ hw' ak ak hD_)
set_option maxHeartbeats 4000000 in
theorem vx (B:Nat) (F:Nat→Prop) (m:aj) (locals:List Int) (v:Value) (x:cJ) (lp pt pl:Option Addr) (lc ct cl:Nat) (w:World) (h0:fu w) (h:bL B m w v) (_hl:af F w (.slice lp locals.length lc) locals) (_ht:af F w (.slice pt x.types.length ct) x.types) (hp:cq x=true) (_hT:kx m) (hk:dZ x.op=9):Calls G.P 36 #[v,.slice lp locals.length lc,.agg #[Value.int .i64 x.op,Value.int .i64 x.a,Value.int .i64 x.b,Value.int .u64 x.n,Value.int .i64 x.kind,Value.int .i64 x.val,Value.int .i64 x.index,Value.slice pt x.types.length ct,Value.slice pl x.labels.length cl]] w (ia (cU m x) (fun _=>False) w):=by
 obtain⟨a1,a2,a3,a4,-⟩:=kD hp
 have hof:∀w',Ext w w'→Calls G.P 76 #[.int .i64 x.op] w' fun e w2=>e=.returned (.int .i64 9)∧Ext w' w2:=fun w' hx=>by have:=gI x.op w' (h0.ext hx);rw[hk]at this;exact this
 refine Kn ?_
 repeat'(first|refine ar ?_|(refine KS fun b_=>?_)|refine Ak ?_|(refine aa.ai (f:=82) ?_;refine aa.he (HE.A3 (r:=(cU m x)) ak rfl rfl (fun w' hw'=>ya B m v x pt pl ct cl w' (h.aO (show Ext w w' from hw'.at) (fun _ _ h=>h)) (FU hk))) rfl ?_;rintro⟨D_,p_,c_,q_,d_⟩ hD_;dsimp only)|fail)
 all_goals(refine ah.aF (.inl rfl) rfl rfl rfl rfl rfl aA rfl rfl ?_;exact fun w' hw'=>bg.iI (f0:=(cU m x).1) (tf:=fun y:Value×Value=>.tuple #[.agg #[y.1,y.2],.int .i64 (cU m x).2]) ⟨D_,p_,c_,q_,d_⟩ hw' ak ak hD_)
set_option maxHeartbeats 4000000 in
theorem uu (B:Nat) (F:Nat→Prop) (m:aj) (locals:List Int) (v:Value) (x:cJ) (lp pt pl:Option Addr) (lc ct cl:Nat) (w:World) (h0:fu w) (_h:bL B m w v) (_hl:af F w (.slice lp locals.length lc) locals) (_ht:af F w (.slice pt x.types.length ct) x.types) (hp:cq x=true) (_hT:kx m) (hk:dZ x.op=20):Calls G.P 36 #[v,.slice lp locals.length lc,.agg #[Value.int .i64 x.op,Value.int .i64 x.a,Value.int .i64 x.b,Value.int .u64 x.n,Value.int .i64 x.kind,Value.int .i64 x.val,Value.int .i64 x.index,Value.slice pt x.types.length ct,Value.slice pl x.labels.length cl]] w (ia (⟨[],[x.a]⟩,0) (fun _=>False) w):=by
 obtain⟨a1,a2,a3,a4,a5⟩:=kD hp
 have hof:∀w',Ext w w'→Calls G.P 76 #[.int .i64 x.op] w' fun e w2=>e=.returned (.int .i64 20)∧Ext w' w2:=fun w' hx=>by have:=gI x.op w' (h0.ext hx);rw[hk]at this;exact this
 refine Kn ?_
 repeat'(first|refine ar ?_|(refine KS fun b_=>?_)|(refine eH fun b_ _=>?_)|refine Ak ?_|(refine aa.ai (f:=79) ?_;refine aa.aq rfl rfl rfl (fun w' hw'=>qz _ _ _ _ _ _ w') ?_)|fail)
 all_goals exact co
set_option maxHeartbeats 4000000 in
theorem vY (B:Nat) (F:Nat→Prop) (m:aj) (locals:List Int) (v:Value) (x:cJ) (lp pt pl:Option Addr) (lc ct cl:Nat) (w:World) (h0:fu w) (_h:bL B m w v) (_hl:af F w (.slice lp locals.length lc) locals) (ht:af F w (.slice pt x.types.length ct) x.types) (hp:cq x=true) (_hT:kx m) (hk:dZ x.op=6):Calls G.P 36 #[v,.slice lp locals.length lc,.agg #[Value.int .i64 x.op,Value.int .i64 x.a,Value.int .i64 x.b,Value.int .u64 x.n,Value.int .i64 x.kind,Value.int .i64 x.val,Value.int .i64 x.index,Value.slice pt x.types.length ct,Value.slice pl x.labels.length cl]] w (ia (⟨[ix x.types 0,ix x.types 0,1],[ix x.types 0]⟩,0) (fun _=>False) w):=by
 obtain⟨a1,a2,a3,a4,a5⟩:=kD hp
 have h1:=a5 hk
 obtain⟨bt,ot,rfl,-,hc⟩:=ht.at (i:=0) Mj
 have hcell:w.cell? ⟨bt,ot+0,none⟩=some (.int .i64 (ix x.types 0)):=hc 0 Mj
 generalize ix x.types 0=t0 at hcell ⊢
 have hof:∀w',Ext w w'→Calls G.P 76 #[.int .i64 x.op] w' fun e w2=>e=.returned (.int .i64 6)∧Ext w' w2:=fun w' hx=>by have:=gI x.op w' (h0.ext hx);rw[hk]at this;exact this
 refine Kn ?_
 repeat'(first|refine ar ?_|(refine KS fun b_=>?_)|refine Ak ?_|fail)
 rename_i b5
 refine Kl ?_
 repeat'(first|refine og ?_|(refine aP.qy 2 rfl (Yl.gh (i:=0) rfl rfl rfl rfl rfl rfl Mj) ?_)|(refine aP.qy 6 rfl (Yl.gh (i:=0) rfl rfl rfl rfl rfl rfl Mj) ?_)|(refine aP.qy 11 rfl (Yl.gh (i:=0) rfl rfl rfl rfl rfl rfl Mj) ?_)|(refine av.kZ ?_;refine av.he rfl rfl (HE.jJ rfl rfl rfl rfl rfl eT Ml Ml) (fun _=>bc) (fun _=>aV) ?_;rintro b7 _)|(refine av.ep 79 ?_;refine av.he rfl rfl (HE.dX rfl rfl (fun w' hw'=>qz _ _ _ _ _ _ w')) (fun _=>bc) (fun _=>aV) ?_;rintro⟨⟩ _)|(refine av.nw ?_;refine av.jf rfl (fQ.bn _ rfl rfl rfl rfl rfl rfl aA rfl) (fun _=>bc) (fun _=>aV) ?_;rintro⟨⟩ _)|refine aP.nil LX ?_|refine aP.any LX ?_|exact aN.fin rfl|refine aN.skip LX ?_|refine aN.go ?_ ?_)
 all_goals
  repeat'(first|refine ar ?_|fail)
  all_goals first|omega|exact ah.aF (.inl rfl) rfl rfl rfl rfl rfl aA rfl rfl fun w' hw'=>⟨⟨(_,_),rfl,by first|exact lg _ hw' ak (hD:=fun _ h=>.inr h),by first|exact lg _ hw' ak (hD:=fun _ h=>.inr h)⟩,hw'.at⟩
end Go.Proofs.YtgbgnipidakdhaaGreatDoor
