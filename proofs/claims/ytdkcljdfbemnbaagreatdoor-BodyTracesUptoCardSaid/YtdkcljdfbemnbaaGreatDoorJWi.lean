import Derived.Test.YtdkcljdfbemnbaaGreatDoorJGu
import Derived.Test.YtdkcljdfbemnbaaGreatDoorJGw
import Derived.Test.YtdkcljdfbemnbaaGreatDoorJWe
namespace Go.Proofs.YtdkcljdfbemnbaaGreatDoor
open Go.RowKit _root_.Go.Proofs.Tryz
set_option maxHeartbeats 4000000
open Value renaming int→Pm,slice→Pn
set_option maxRecDepth 100000
theorem tK (a:Int):br a=true↔(0≤a∧a<4294967296):=by unfold br;simp
theorem Kz {P:Prop} [Decidable P] {b:Bool}:(if P then false else b)=true↔(¬P∧b=true):=by by_cases h:P<;>simp[h]
theorem DW (known:Bool) (k a b n kind val index:Int) (nt:Nat) (t0:Int) (labels:List Int) (_hk:0≤k∧k≤20):bW known (pJ k) (pK k) (pM k) k a b n kind val index nt t0 labels=bG known k a b n kind val index nt labels.length t0 (labels.all br):=by
 have:k=0∨k=1∨k=2∨k=3∨k=4∨k=5∨k=6∨k=7∨k=8∨k=9∨k=10∨k=11∨k=12∨k=13∨k=14∨k=15∨k=16∨k=17∨k=18∨k=19∨k=20:=by omega
 rcases this with rfl|rfl|rfl|rfl|rfl|rfl|rfl|rfl|rfl|rfl|rfl|rfl|rfl|rfl|rfl|rfl|rfl|rfl|rfl|rfl|rfl
 all_goals
  unfold bW bG
  rw[Bool.eq_iff_iff]
  simp[pJ,pK,pM,tK]
  try grind
variable (B:Nat) (F:Nat→Prop) (x:cv) (pt pl:Option Addr)
theorem yw (ct cl:Nat) (w:World) (h0:fK w) (ht:ai F w (.slice pt x.types.length ct) x.types) (hl:ai F w (.slice pl x.labels.length cl) x.labels):Calls G.P 80 #[.agg #[Pm .i64 x.op,Pm .i64 x.a,Pm .i64 x.b,Pm .u64 x.n,Pm .i64 x.kind,Pm .i64 x.val,Pm .i64 x.index,Pn pt x.types.length ct,Pn pl x.labels.length cl]] w fun e w'=>e=.returned (.bool (cW x))∧Ext w w':=by
 have hkn:∀w',Ext w w'→Calls G.P 124 #[.int .i64 x.op] w' fun e w2=>e=.returned (.bool (fz x.op).isSome)∧Ext w' w2:=fun w' hx=>by rw[←zS];exact qO _ w' (h0.ext hx)
 have hof:∀w',Ext w w'→Calls G.P 95 #[.int .i64 x.op] w' fun e w2=>e=.returned (.int .i64 (eR x.op))∧Ext w' w2:=fun w' hx=>ij _ w' (h0.ext hx)
 have hu:∀w',Ext w w'→Calls G.P 123 #[.int .i64 (eR x.op)] w' fun e w2=>e=.returned (.tuple #[.bool (pJ (eR x.op)),.bool (pK (eR x.op)),.bool (pM (eR x.op))])∧Ext w' w2:=fun w' _=>zY _ w'
 have hcell:x.types.length=1→∃bt ot,pt=some ⟨bt,ot,none⟩∧w.cell? ⟨bt,ot+0,none⟩=some (.int .i64 (ix x.types 0)):=fun h1=>by
  obtain⟨b7,o7,rfl,-,hc⟩:=ht.at (i:=0) Pi
  exact⟨b7,o7,rfl,hc 0 Pi⟩
 have hr:=zV x.op
 have key:cW x=bW (fz x.op).isSome (pJ (eR x.op)) (pK (eR x.op)) (pM (eR x.op)) (eR x.op) x.a x.b x.n x.kind x.val x.index x.types.length (ix x.types 0) x.labels:=by
  rw[rF,rE,DW _ _ _ _ _ _ _ _ _ _ _ hr]
 rw[key]
 cases hf:(fz x.op).isSome with
 |false=>
  rw[hf]at hkn
  rw[show∀ua ub un k a b n kind val index nt t0 labels,bW false ua ub un k a b n kind val index nt t0 labels=false from fun _ _ _ _ _ _ _ _ _ _ _ _ _=>by simp[bW]]
  exact vT _ _ _ _ _ _ _ _ _ _ _ _ _ _ _ _ _ w hkn hof hu
 |true=>
  rw[hf]at hkn
  generalize eR x.op=k at*
  have:k=0∨k=1∨k=3∨k=6∨k=13∨k=17∨k=18∨k=19∨k=20∨(k=2∨k=4∨k=7∨k=8∨k=9∨k=12∨k=16)∨(k=5∨k=10∨k=11∨k=14∨k=15):=by omega
  rcases this with rfl|rfl|rfl|rfl|rfl|rfl|rfl|rfl|rfl|h|h
  ·exact tV F _ _ _ _ _ _ _ _ _ _ _ _ _ _ w hl hkn hof hu
  ·exact tW F _ _ _ _ _ _ _ _ _ _ _ _ _ _ w hl hkn hof hu
  ·exact tX F _ _ _ _ _ _ _ _ _ _ _ _ _ _ w hl hkn hof hu
  ·by_cases h1:x.types.length=1
   ·obtain⟨bt,ot,rfl,hc⟩:=hcell h1
    rw[h1]
    exact sM F _ _ _ _ _ _ _ _ _ bt ot _ _ _ w hc hl hkn hof hu
   ·exact sN F _ _ _ _ _ _ _ _ _ _ _ _ _ _ w Pi hl hkn hof hu
  ·exact sH F _ _ _ _ _ _ _ _ _ _ _ _ _ _ w hl hkn hof hu
  ·exact sI F _ _ _ _ _ _ _ _ _ _ _ _ _ _ w hl hkn hof hu
  ·exact sJ F _ _ _ _ _ _ _ _ _ _ _ _ _ _ w hl hkn hof hu
  ·exact sK F _ _ _ _ _ _ _ _ _ _ _ _ _ _ w hl hkn hof hu
  ·exact sL F _ _ _ _ _ _ _ _ _ _ _ _ _ _ w hl hkn hof hu
  ·have ea:pJ k=true:=by unfold pJ;simp;omega
   have eb:pK k=false:=by unfold pK;simp;omega
   have en:pM k=false:=by unfold pM;simp;omega
   rw[ea,eb,en]at hu ⊢
   exact tY F _ _ _ _ _ _ _ _ _ _ _ _ _ _ k w Pi Pi Pi Pi Pi Pi hl hkn hof hu
  ·have ea:pJ k=true:=by unfold pJ;simp;omega
   have eb:pK k=true:=by unfold pK;simp;omega
   have en:pM k=false:=by unfold pM;simp;omega
   rw[ea,eb,en]at hu ⊢
   exact tZ F _ _ _ _ _ _ _ _ _ _ _ _ _ _ k w Pi Pi Pi Pi Pi Pi hl hkn hof hu
theorem sj (ct cl:Nat) (w:World) (ht:ai F w (.slice pt x.types.length ct) x.types) (hl:ai F w (.slice pl x.labels.length cl) x.labels):Calls G.P 64 #[.agg #[Pm .i64 x.op,Pm .i64 x.a,Pm .i64 x.b,Pm .u64 x.n,Pm .i64 x.kind,Pm .i64 x.val,Pm .i64 x.index,Pn pt x.types.length ct,Pn pl x.labels.length cl]] w fun e w'=>e=.returned (.bool (cW x))∧Ext w w':=by
 have hkn:∀w',Ext w w'→Calls G.P 106 #[.int .i64 x.op] w' fun e w2=>e=.returned (.bool (fz x.op).isSome)∧Ext w' w2:=fun w' _=>Ae _ w'
 have hof:∀w',Ext w w'→Calls G.P 105 #[.int .i64 x.op] w' fun e w2=>e=.returned (.int .i64 (eR x.op))∧Ext w' w2:=fun w' _=>dq _ w'
 have hla:∀w',Ext w w'→Calls G.P 109 #[.slice pl x.labels.length cl] w' fun e w2=>e=.returned (.bool (x.labels.all br))∧Ext w' w2:=fun w' hx=>yE F _ _ w' (hl.aN hx (fun _ _ _ h=>h))
 have hcell:x.types.length=1→∃bt ot,pt=some ⟨bt,ot,none⟩∧w.cell? ⟨bt,ot+0,none⟩=some (.int .i64 (ix x.types 0)):=fun h1=>by
  obtain⟨b7,o7,rfl,-,hc⟩:=ht.at (i:=0) Pi
  exact⟨b7,o7,rfl,hc 0 Pi⟩
 have hr:=zV x.op
 rw[rF,rE]
 cases hf:(fz x.op).isSome with
 |false=>
  rw[hf]at hkn
  rw[show∀k a b n kind val index nt nl t0 lal,bG false k a b n kind val index nt nl t0 lal=false from fun _ _ _ _ _ _ _ _ _ _ _=>by simp[bG]]
  exact yC _ _ _ _ _ _ _ _ _ _ _ _ _ _ w hkn hof
 |true=>
  rw[hf]at hkn
  generalize eR x.op=k at*
  have:k=0∨k=1∨k=2∨k=3∨k=4∨k=5∨k=6∨k=7∨k=8∨k=9∨k=10∨k=11∨k=12∨k=13∨k=14∨k=15∨k=16∨k=17∨k=18∨k=19∨k=20:=by omega
  rcases this with rfl|rfl|rfl|rfl|rfl|rfl|rfl|rfl|rfl|rfl|rfl|rfl|rfl|rfl|rfl|rfl|rfl|rfl|rfl|rfl|rfl
  ·exact vX _ _ _ _ _ _ _ _ _ _ _ _ _ _ _ w hla hkn hof
  ·exact vY _ _ _ _ _ _ _ _ _ _ _ _ _ _ _ w hla hkn hof
  ·exact vZ _ _ _ _ _ _ _ _ _ _ _ _ _ _ _ w hla hkn hof
  ·exact wb _ _ _ _ _ _ _ _ _ _ _ _ _ _ _ w hla hkn hof
  ·exact wc _ _ _ _ _ _ _ _ _ _ _ _ _ _ _ w hla hkn hof
  ·exact we _ _ _ _ _ _ _ _ _ _ _ _ _ _ _ w hla hkn hof
  ·by_cases h1:x.types.length=1
   ·obtain⟨bt,ot,rfl,hc⟩:=hcell h1
    rw[h1]
    exact uB _ _ _ _ _ _ _ _ bt ot _ _ _ _ _ w hc hla hkn hof
   ·exact uC _ _ _ _ _ _ _ _ _ _ _ _ _ _ _ w Pi hla hkn hof
  ·exact wg _ _ _ _ _ _ _ _ _ _ _ _ _ _ _ w hla hkn hof
  ·exact wh _ _ _ _ _ _ _ _ _ _ _ _ _ _ _ w hla hkn hof
  ·exact wi _ _ _ _ _ _ _ _ _ _ _ _ _ _ _ w hla hkn hof
  ·exact um _ _ _ _ _ _ _ _ _ _ _ _ _ _ _ w hla hkn hof
  ·exact uo _ _ _ _ _ _ _ _ _ _ _ _ _ _ _ w hla hkn hof
  ·exact uq _ _ _ _ _ _ _ _ _ _ _ _ _ _ _ w hla hkn hof
  ·exact ur _ _ _ _ _ _ _ _ _ _ _ _ _ _ _ w hla hkn hof
  ·exact uu _ _ _ _ _ _ _ _ _ _ _ _ _ _ _ w hla hkn hof
  ·exact uv _ _ _ _ _ _ _ _ _ _ _ _ _ _ _ w hla hkn hof
  ·exact uw _ _ _ _ _ _ _ _ _ _ _ _ _ _ _ w hla hkn hof
  ·exact ux _ _ _ _ _ _ _ _ _ _ _ _ _ _ _ w hla hkn hof
  ·exact uy _ _ _ _ _ _ _ _ _ _ _ _ _ _ _ w hla hkn hof
  ·exact uz _ _ _ _ _ _ _ _ _ _ _ _ _ _ _ w hla hkn hof
  ·exact uA _ _ _ _ _ _ _ _ _ _ _ _ _ _ _ w hla hkn hof
theorem Cm:(lL.all fun r=>decide (iY r.1=0) || decide (iY r.1=1) || decide (iY r.1=2) || decide (iY r.1=4) || decide (iY r.1=8))=true:=by decide+kernel
theorem Ge (op:Int):iL op=0∨iL op=1∨iL op=2∨iL op=4∨iL op=8:=by
 rw[vG]
 cases h:fz op with
 |some r=>
  have:=List.all_eq_true.1 Cm r (List.mem_of_find?_eq_some h)
  have e:r.1=op:=by have:=List.find?_some h;simpa using this
  rw[e]at this
  simp only[Bool.or_eq_true,decide_eq_true_eq]at this
  omega
 |none=>left;unfold iY eH;rw[h];rfl
theorem Ad (op:Int) (w:World):Calls G.P 181 #[.int .i64 op] w fun e w'=>e=.returned (.int .i64 (mn op))∧Ext w w':=by
 have hw:∀w',Calls G.P 199 #[.int .i64 op] w' fun e w2=>e=.returned (.int .i64 (iL op))∧Ext w' w2:=fun w'=>by rw[vG];exact Af op w'
 unfold mn
 generalize iL op=k at hw ⊢
 refine ae (l:=[_]) func181 rfl ntmps181 rfl (Ok.start w) ?_
 repeat'(first|refine mu ?_|(refine aa.aj (f:=199) ?_;refine aa.av rfl rfl rfl (fun w' hw'=>hw w') ?_)|(refine gP ?_ ?_<;>(intro hc_;try subst hc_)))
 all_goals exact ah.aG rfl rfl fun w' hw'=>⟨by first|rfl|(simp only[*,if_false]),hw'.at⟩
theorem Dd (k:Int) (hk:k=0∨k=1∨k=2∨k=4∨k=8) (op:Int) (w:World) (hw:∀w',Ext w w'→Calls G.P 133 #[.int .i64 op] w' fun e w2=>e=.returned (.int .i64 k)∧Ext w' w2):Calls G.P 143 #[.int .i64 op] w fun e w'=>e=.returned (.int .i64 (if k=2 then 1 else if k=4 then 2 else if k=8 then 3 else 0))∧Ext w w':=by
 obtain⟨fk,hfk,hfk3⟩:∃fk:Int,(if k=2 then 1 else if k=4 then 2 else if k=8 then 3 else 0)=fk∧fk≤3:=⟨_,rfl,by rcases hk with rfl|rfl|rfl|rfl|rfl<;>decide⟩
 rw[hfk]
 refine ae (l:=[_]) func143 rfl ntmps143 rfl (Ok.start w) ?_
 repeat'(first|refine ar ?_|(refine aa.aj (f:=133) ?_;refine aa.av rfl rfl rfl (fun w' hw'=>hw w' hw'.at) ?_)|fail)
 refine bh.loop (σ:=Nat×Int) (fun s=>[(3,.int .i64 s.1),(4,.int .i64 s.2)]) (fun _=>[]) (fun _=>[Ext w]) (fun s=>(s.2=0∨s.2=1∨s.2=2∨s.2=4∨s.2=8)∧(s.1:Int)+(if s.2=2 then 1 else if s.2=4 then 2 else if s.2=8 then 3 else 0)=fk) (fun s=>s.2.toNat) (0,k) bH bz aU ⟨hk,by simp[hfk]⟩ ?_
 rintro⟨j,q⟩ ⟨hq,he⟩
 dsimp only at hq he ⊢
 rcases hq with rfl|rfl|rfl|rfl|rfl
 ·have he':(j:Int)+0=fk:=he
  repeat'(first|refine ar ?_|fail)
  all_goals exact ah.aG rfl rfl fun w' hw'=>⟨by rw[show fk=(j:Int)by omega],hw'.at⟩
 ·have he':(j:Int)+0=fk:=he
  repeat'(first|refine ar ?_|fail)
  all_goals exact ah.aG rfl rfl fun w' hw'=>⟨by rw[show fk=(j:Int)by omega],hw'.at⟩
 ·have he':(j:Int)+1=fk:=he
  repeat'(first|refine ar ?_|(refine aa.y_ (Yl.quo (r:=1) rfl rfl (fun w=>by kernel_rfl)) rfl ?_)|fail)
  all_goals exact ah.next (j+1,1) bH bz aU ⟨by simp,by show((j+1:Nat):Int)+0=fk;omega⟩ (by show(1:Int).toNat<(2:Int).toNat;decide)
 ·have he':(j:Int)+2=fk:=he
  repeat'(first|refine ar ?_|(refine aa.y_ (Yl.quo (r:=2) rfl rfl (fun w=>by kernel_rfl)) rfl ?_)|fail)
  all_goals exact ah.next (j+1,2) bH bz aU ⟨by simp,by show((j+1:Nat):Int)+1=fk;omega⟩ (by show(2:Int).toNat<(4:Int).toNat;decide)
 ·have he':(j:Int)+3=fk:=he
  repeat'(first|refine ar ?_|(refine aa.y_ (Yl.quo (r:=4) rfl rfl (fun w=>by kernel_rfl)) rfl ?_)|fail)
  all_goals exact ah.next (j+1,4) bH bz aU ⟨by simp,by show((j+1:Nat):Int)+2=fk;omega⟩ (by show(4:Int).toNat<(8:Int).toNat;decide)
theorem yv (op:Int) (w:World) (h0:fK w):Calls G.P 143 #[.int .i64 op] w fun e w'=>e=.returned (.int .i64 (mn op))∧Ext w w':=by
 unfold mn
 exact Dd _ (Ge op) op w fun w' hx=>qQ op w' (h0.ext hx)
theorem zW (op:Int) (w:World) (h0:fK w):Calls G.P 104 #[.int .i64 op] w (iV (fQ op) (fun _=>False) w):=
 (BD op w h0).mono fun e w' ⟨⟨v,e1,hv⟩,hx⟩=>by
  obtain⟨_,rfl,p,r,rfl,h1,h2⟩:=hv
  exact⟨⟨(p,r),e1,h1.mono fun _ _ h=>.inr h,h2.mono fun _ _ h=>.inr h⟩,hx⟩
def fO (m:af) (locals:List Int) (x:cv):aO×Int:=
 let k:=eR x.op
 if k=4 then dZ m x else if k=5 then bZ m x else if k=6 then(⟨[ix x.types 0,ix x.types 0,1],[ix x.types 0]⟩,0)else if k=7 then eQ locals x else if k=8 then dt m x else if k=9 then dr m x else
 if k=20 then(⟨[],[x.a]⟩,0)else if kH m x≠0 then(dF,kH m x)else((fQ x.op).getD dF,0)
def nb (m:af):Prop:=∀f∈m.types,f.params.length≤17592186043904∧f.results.length≤17592186043904
theorem nf {α:Type} [Inhabited α] {l:List α} {i:Int} {f:α} (h:cJ l i=some f):f∈l:=by
 unfold cJ at h
 split at h
 ·rename_i hc
  cases h
  rw[cz Pi];exact List.getElem_mem _
 ·cases h
theorem Ij:(lL.all fun r=>!decide (r.2.2=9) || (decide (r.1=37) || decide (r.1=38) || decide (r.1=64528) || decide (r.1=64527) || decide (r.1=64529)))=true:=by decide+kernel
theorem Ja {op:Int} (h:eR op=9):op=37∨op=38∨op=64528∨op=64527∨op=64529:=by
 obtain⟨r,hr,h1,h2⟩:=tg (op:=op) Pi
 have:=List.all_eq_true.1 Ij r hr
 rw[h2,h,h1]at this
 simpa[or_assoc]using this
theorem lY {x:cv} (h:cW x=true):eP x.a∧eP x.b∧0≤x.a∧0≤x.b∧(eR x.op=6→x.types.length=1):=by
 have hr:=zV x.op
 rw[rF,rE]at h
 unfold bG at h
 unfold eP
 generalize eR x.op=k at*
 have:k=0∨k=1∨k=2∨k=3∨k=4∨k=5∨k=6∨k=7∨k=8∨k=9∨k=10∨k=11∨k=12∨k=13∨k=14∨k=15∨k=16∨k=17∨k=18∨k=19∨k=20:=by omega
 rcases this with rfl|rfl|rfl|rfl|rfl|rfl|rfl|rfl|rfl|rfl|rfl|rfl|rfl|rfl|rfl|rfl|rfl|rfl|rfl|rfl|rfl
 all_goals
  simp[tK]at h
  omega
theorem uh {g g':Prop} (h:g') (hw:eA g'→g:=by(intro hk_;(first|refine On ?_);exact hk_.out)):g:=hw ⟨h⟩
theorem yO (m:af) (locals:List Int) (v:Value) (x:cv) (lp pt pl:Option Addr) (lc ct cl:Nat) (w:World) (h0:fK w) (h:bK B m w v) (_hl:ai F w (.slice lp locals.length lc) locals) (_ht:ai F w (.slice pt x.types.length ct) x.types) (hp:cW x=true) (_hT:nb m) (hk:eR x.op=4):Calls G.P 56 #[v,.slice lp locals.length lc,.agg #[Pm .i64 x.op,Pm .i64 x.a,Pm .i64 x.b,Pm .u64 x.n,Pm .i64 x.kind,Pm .i64 x.val,Pm .i64 x.index,Pn pt x.types.length ct,Pn pl x.labels.length cl]] w (jw (dZ m x) (fun _=>False) w):=by
 obtain⟨a1,a2,a3,a4,-⟩:=lY hp
 have hof:∀w',Ext w w'→Calls G.P 95 #[.int .i64 x.op] w' fun e w2=>e=.returned (.int .i64 4)∧Ext w' w2:=fun w' hx=>by have:=ij x.op w' (h0.ext hx);rw[hk]at this;exact this
 refine Ml ?_
 repeat'(first|refine ar ?_|(refine N0 fun b_=>?_)|refine uh ?_|(refine aa.aj (f:=96) ?_;refine aa.he (HE.F7 (r:=(dZ m x)) ak rfl rfl (fun w' hw'=>wM B m v x pt pl ct cl w' (h.aN (show Ext w w' from hw'.at) (fun _ _ h=>h)) a1)) rfl ?_;rintro⟨D_,p_,c_,q_,d_⟩ hD_;dsimp only)|fail)
 all_goals(refine ah.aM (.inl rfl) rfl rfl rfl rfl rfl aH rfl rfl ?_;exact fun w' hw'=>bD.jl (f0:=(dZ m x).1) (tf:=fun y:Value×Value=>.tuple #[.agg #[y.1,y.2],.int .i64 (dZ m x).2]) ⟨D_,p_,c_,q_,d_⟩ hw' ak ak hD_)
theorem yP (m:af) (locals:List Int) (v:Value) (x:cv) (lp pt pl:Option Addr) (lc ct cl:Nat) (w:World) (h0:fK w) (h:bK B m w v) (_hl:ai F w (.slice lp locals.length lc) locals) (_ht:ai F w (.slice pt x.types.length ct) x.types) (hp:cW x=true) (hT:nb m) (hk:eR x.op=5):Calls G.P 56 #[v,.slice lp locals.length lc,.agg #[Pm .i64 x.op,Pm .i64 x.a,Pm .i64 x.b,Pm .u64 x.n,Pm .i64 x.kind,Pm .i64 x.val,Pm .i64 x.index,Pn pt x.types.length ct,Pn pl x.labels.length cl]] w (jw (bZ m x) (fun _=>False) w):=by
 obtain⟨a1,a2,a3,a4,-⟩:=lY hp
 have hof:∀w',Ext w w'→Calls G.P 95 #[.int .i64 x.op] w' fun e w2=>e=.returned (.int .i64 5)∧Ext w' w2:=fun w' hx=>by have:=ij x.op w' (h0.ext hx);rw[hk]at this;exact this
 refine Ml ?_
 repeat'(first|refine ar ?_|(refine N0 fun b_=>?_)|refine uh ?_|(refine aa.aj (f:=97) ?_;refine aa.he (HE.F7 (r:=(bZ m x)) ak rfl rfl (fun w' hw'=>wN B m v x pt pl ct cl w' (h.aN (show Ext w w' from hw'.at) (fun _ _ h=>h)) (fun f hf=>⟨(hT f (nf hf)).1,by have:=(hT f (nf hf)).2;omega⟩))) rfl ?_;rintro⟨D_,p_,c_,q_,d_⟩ hD_;dsimp only)|fail)
 all_goals(refine ah.aM (.inl rfl) rfl rfl rfl rfl rfl aH rfl rfl ?_;exact fun w' hw'=>bD.jl (f0:=(bZ m x).1) (tf:=fun y:Value×Value=>.tuple #[.agg #[y.1,y.2],.int .i64 (bZ m x).2]) ⟨D_,p_,c_,q_,d_⟩ hw' ak ak hD_)
theorem yR (m:af) (locals:List Int) (v:Value) (x:cv) (lp pt pl:Option Addr) (lc ct cl:Nat) (w:World) (h0:fK w) (_h:bK B m w v) (hl:ai F w (.slice lp locals.length lc) locals) (_ht:ai F w (.slice pt x.types.length ct) x.types) (hp:cW x=true) (_hT:nb m) (hk:eR x.op=7):Calls G.P 56 #[v,.slice lp locals.length lc,.agg #[Pm .i64 x.op,Pm .i64 x.a,Pm .i64 x.b,Pm .u64 x.n,Pm .i64 x.kind,Pm .i64 x.val,Pm .i64 x.index,Pn pt x.types.length ct,Pn pl x.labels.length cl]] w (jw (eQ locals x) (fun _=>False) w):=by
 obtain⟨a1,a2,a3,a4,-⟩:=lY hp
 have hof:∀w',Ext w w'→Calls G.P 95 #[.int .i64 x.op] w' fun e w2=>e=.returned (.int .i64 7)∧Ext w' w2:=fun w' hx=>by have:=ij x.op w' (h0.ext hx);rw[hk]at this;exact this
 refine Ml ?_
 repeat'(first|refine ar ?_|(refine N0 fun b_=>?_)|refine uh ?_|(refine aa.aj (f:=99) ?_;refine aa.he (HE.F7 (r:=(eQ locals x)) ak rfl rfl (fun w' hw'=>BX F locals x lp pt pl lc ct cl w' (hl.aN (show Ext w w' from hw'.at) (fun _ _ _ h=>h)) a3)) rfl ?_;rintro⟨D_,p_,c_,q_,d_⟩ hD_;dsimp only)|fail)
 all_goals(refine ah.aM (.inl rfl) rfl rfl rfl rfl rfl aH rfl rfl ?_;exact fun w' hw'=>bD.jl (f0:=(eQ locals x).1) (tf:=fun y:Value×Value=>.tuple #[.agg #[y.1,y.2],.int .i64 (eQ locals x).2]) ⟨D_,p_,c_,q_,d_⟩ hw' ak ak hD_)
theorem yS (m:af) (locals:List Int) (v:Value) (x:cv) (lp pt pl:Option Addr) (lc ct cl:Nat) (w:World) (h0:fK w) (h:bK B m w v) (_hl:ai F w (.slice lp locals.length lc) locals) (_ht:ai F w (.slice pt x.types.length ct) x.types) (hp:cW x=true) (_hT:nb m) (hk:eR x.op=8):Calls G.P 56 #[v,.slice lp locals.length lc,.agg #[Pm .i64 x.op,Pm .i64 x.a,Pm .i64 x.b,Pm .u64 x.n,Pm .i64 x.kind,Pm .i64 x.val,Pm .i64 x.index,Pn pt x.types.length ct,Pn pl x.labels.length cl]] w (jw (dt m x) (fun _=>False) w):=by
 obtain⟨a1,a2,a3,a4,-⟩:=lY hp
 have hof:∀w',Ext w w'→Calls G.P 95 #[.int .i64 x.op] w' fun e w2=>e=.returned (.int .i64 8)∧Ext w' w2:=fun w' hx=>by have:=ij x.op w' (h0.ext hx);rw[hk]at this;exact this
 refine Ml ?_
 repeat'(first|refine ar ?_|(refine N0 fun b_=>?_)|refine uh ?_|(refine aa.aj (f:=100) ?_;refine aa.he (HE.F7 (r:=(dt m x)) ak rfl rfl (fun w' hw'=>AH B m v x pt pl ct cl w' (h.aN (show Ext w w' from hw'.at) (fun _ _ h=>h)))) rfl ?_;rintro⟨D_,p_,c_,q_,d_⟩ hD_;dsimp only)|fail)
 all_goals(refine ah.aM (.inl rfl) rfl rfl rfl rfl rfl aH rfl rfl ?_;exact fun w' hw'=>bD.jl (f0:=(dt m x).1) (tf:=fun y:Value×Value=>.tuple #[.agg #[y.1,y.2],.int .i64 (dt m x).2]) ⟨D_,p_,c_,q_,d_⟩ hw' ak ak hD_)
theorem yT (m:af) (locals:List Int) (v:Value) (x:cv) (lp pt pl:Option Addr) (lc ct cl:Nat) (w:World) (h0:fK w) (h:bK B m w v) (_hl:ai F w (.slice lp locals.length lc) locals) (_ht:ai F w (.slice pt x.types.length ct) x.types) (hp:cW x=true) (_hT:nb m) (hk:eR x.op=9):Calls G.P 56 #[v,.slice lp locals.length lc,.agg #[Pm .i64 x.op,Pm .i64 x.a,Pm .i64 x.b,Pm .u64 x.n,Pm .i64 x.kind,Pm .i64 x.val,Pm .i64 x.index,Pn pt x.types.length ct,Pn pl x.labels.length cl]] w (jw (dr m x) (fun _=>False) w):=by
 obtain⟨a1,a2,a3,a4,-⟩:=lY hp
 have hof:∀w',Ext w w'→Calls G.P 95 #[.int .i64 x.op] w' fun e w2=>e=.returned (.int .i64 9)∧Ext w' w2:=fun w' hx=>by have:=ij x.op w' (h0.ext hx);rw[hk]at this;exact this
 refine Ml ?_
 repeat'(first|refine ar ?_|(refine N0 fun b_=>?_)|refine uh ?_|(refine aa.aj (f:=101) ?_;refine aa.he (HE.F7 (r:=(dr m x)) ak rfl rfl (fun w' hw'=>AI B m v x pt pl ct cl w' (h.aN (show Ext w w' from hw'.at) (fun _ _ h=>h)) (Ja hk))) rfl ?_;rintro⟨D_,p_,c_,q_,d_⟩ hD_;dsimp only)|fail)
 all_goals(refine ah.aM (.inl rfl) rfl rfl rfl rfl rfl aH rfl rfl ?_;exact fun w' hw'=>bD.jl (f0:=(dr m x).1) (tf:=fun y:Value×Value=>.tuple #[.agg #[y.1,y.2],.int .i64 (dr m x).2]) ⟨D_,p_,c_,q_,d_⟩ hw' ak ak hD_)
theorem wS (m:af) (locals:List Int) (v:Value) (x:cv) (lp pt pl:Option Addr) (lc ct cl:Nat) (w:World) (h0:fK w) (h:bK B m w v) (_hl:ai F w (.slice lp locals.length lc) locals) (_ht:ai F w (.slice pt x.types.length ct) x.types) (hp:cW x=true) (_hT:nb m) (hk:eR x.op=20):Calls G.P 56 #[v,.slice lp locals.length lc,.agg #[Pm .i64 x.op,Pm .i64 x.a,Pm .i64 x.b,Pm .u64 x.n,Pm .i64 x.kind,Pm .i64 x.val,Pm .i64 x.index,Pn pt x.types.length ct,Pn pl x.labels.length cl]] w (jw (⟨[],[x.a]⟩,0) (fun _=>False) w):=by
 have:=h;clear this
 obtain⟨a1,a2,a3,a4,a5⟩:=lY hp
 have hof:∀w',Ext w w'→Calls G.P 95 #[.int .i64 x.op] w' fun e w2=>e=.returned (.int .i64 20)∧Ext w' w2:=fun w' hx=>by have:=ij x.op w' (h0.ext hx);rw[hk]at this;exact this
 refine Ml ?_
 repeat'(first|refine ar ?_|(refine N0 fun b_=>?_)|(refine fC fun b_ _=>?_)|refine uh ?_|(refine aa.aj (f:=98) ?_;refine aa.av rfl rfl rfl (fun w' hw'=>th _ _ _ _ _ _ w') ?_)|fail)
 all_goals exact mt
theorem yQ (m:af) (locals:List Int) (v:Value) (x:cv) (lp pt pl:Option Addr) (lc ct cl:Nat) (w:World) (h0:fK w) (_h:bK B m w v) (hl:ai F w (.slice lp locals.length lc) locals) (ht:ai F w (.slice pt x.types.length ct) x.types) (hp:cW x=true) (_hT:nb m) (hk:eR x.op=6):Calls G.P 56 #[v,.slice lp locals.length lc,.agg #[Pm .i64 x.op,Pm .i64 x.a,Pm .i64 x.b,Pm .u64 x.n,Pm .i64 x.kind,Pm .i64 x.val,Pm .i64 x.index,Pn pt x.types.length ct,Pn pl x.labels.length cl]] w (jw (⟨[ix x.types 0,ix x.types 0,1],[ix x.types 0]⟩,0) (fun _=>False) w):=by
 have:=hl;clear this
 obtain⟨a1,a2,a3,a4,a5⟩:=lY hp
 have h1:=a5 hk
 obtain⟨bt,ot,rfl,-,hc⟩:=ht.at (i:=0) Pi
 have hcell:w.cell? ⟨bt,ot+0,none⟩=some (.int .i64 (ix x.types 0)):=hc 0 Pi
 generalize ix x.types 0=t0 at hcell ⊢
 have hof:∀w',Ext w w'→Calls G.P 95 #[.int .i64 x.op] w' fun e w2=>e=.returned (.int .i64 6)∧Ext w' w2:=fun w' hx=>by have:=ij x.op w' (h0.ext hx);rw[hk]at this;exact this
 refine Ml ?_
 repeat'(first|refine ar ?_|(refine N0 fun b_=>?_)|refine uh ?_|fail)
 rename_i b5
 refine Mt ?_
 repeat'(first|refine pN ?_|(refine aP.qy 2 rfl (Yl.gn (i:=0) rfl rfl rfl rfl rfl rfl Pi) ?_)|(refine aP.qy 6 rfl (Yl.gn (i:=0) rfl rfl rfl rfl rfl rfl Pi) ?_)|(refine aP.qy 11 rfl (Yl.gn (i:=0) rfl rfl rfl rfl rfl rfl Pi) ?_)|(refine ax.lD ?_;refine ax.he rfl rfl (HE.jG rfl rfl rfl rfl rfl er Pk Pk) (fun _=>bz) (fun _=>aU) ?_;rintro b7 _)|(refine ax.dA 98 ?_;refine ax.he rfl rfl (HE.eU rfl rfl (fun w' hw'=>th _ _ _ _ _ _ w')) (fun _=>bz) (fun _=>aU) ?_;rintro⟨⟩ _)|(refine ax.nj ?_;refine ax.jO rfl (gj.bn _ rfl rfl rfl rfl rfl rfl aH rfl) (fun _=>bz) (fun _=>aU) ?_;rintro⟨⟩ _)|refine aP.nil O9 ?_|refine aP.any O9 ?_|exact aB.fin rfl|refine aB.skip O9 ?_|refine aB.go ?_ ?_)
 all_goals
  repeat'(first|refine ar ?_|fail)
  all_goals first|omega|exact ah.aM (.inl rfl) rfl rfl rfl rfl rfl aH rfl rfl fun w' hw'=>⟨⟨(_,_),rfl,by first|exact kP _ hw' ak (hD:=fun _ h=>.inr h),by first|exact kP _ hw' ak (hD:=fun _ h=>.inr h)⟩,hw'.at⟩
end Go.Proofs.YtdkcljdfbemnbaaGreatDoor
