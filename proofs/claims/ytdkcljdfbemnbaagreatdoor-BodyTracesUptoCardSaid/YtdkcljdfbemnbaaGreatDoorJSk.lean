import Derived.Test.YtdkcljdfbemnbaaGreatDoorJRt
import Derived.Laws.StructEq
import Derived.Test.YtdkcljdfbemnbaaGreatDoorJAw
namespace Go.Proofs.YtdkcljdfbemnbaaGreatDoor
set_option maxRecDepth 100000
def eR (op:Int):Int:=(eH op).2.2
def br (n:Int):Bool:=decide (0≤n) && decide (n<4294967296)
def ki (t:Int):Bool:=decide (1≤t) && decide (t≤4)
def jq (k v i:Int):Bool:=if k=0 then decide (v=0) && decide (i=0)else if k=1 then ki v && decide (i=0)else decide (k=2) && (decide (v=0) && br i)
def cW (x:cv):Bool:=
 let k:=eR x.op
 let ab:=decide (x.a=0) && decide (x.b=0)
 if(fz x.op).isSome=false∨(k≠1∧¬(x.kind=0∧x.val=0∧x.index=0))∨(k≠3∧0<x.labels.length)∨(k≠6∧0<x.types.length)then false else
 if k=0 then ab && decide (x.n=0)else
 if k=1 then ab && decide (x.n=0) && jq x.kind x.val x.index else
 if k=3 then br x.a && decide (x.b=0) && decide (x.n=0) && x.labels.all br else
 if k=6 then ab && decide (x.n=0) && decide (x.types.length=1) && ki (ix x.types 0)else
 if k=2∨k=4∨k=7∨k=8∨k=9∨k=12∨k=16 then br x.a && decide (x.b=0) && decide (x.n=0)else
 if k=5∨k=10∨k=11∨k=14∨k=15 then br x.a && br x.b && decide (x.n=0)else
 if k=13 then decide (x.a=0) && br x.b && decide (x.n=0)else
 if k=17 then decide (0≤x.a) && decide (x.a≤63) && br x.b && decide (x.n<4294967296)else
 if k=18 then ab && decide (x.n<4294967296)else
 if k=19 then ab else(decide (x.a=3) || decide (x.a=4)) && decide (x.b=0) && decide (x.n=0)
theorem Fm:(lL.all fun r=>decide (0≤r.2.2) && decide (r.2.2≤20))=true:=by decide+kernel
theorem zV (op:Int):0≤eR op∧eR op≤20:=by
 unfold eR eH
 cases h:fz op with
 |none=>exact⟨by decide,by decide⟩
 |some r=>
  have:=List.all_eq_true.1 Fm r (List.mem_of_find?_eq_some h)
  simpa using this
theorem tg {op:Int} (h:eR op≠0):∃r∈lL,r.1=op∧r.2.2=eR op:=by
 unfold eR eH at*
 cases hf:fz op with
 |none=>rw[hf]at h;exact absurd rfl h
 |some r=>exact⟨r,List.mem_of_find?_eq_some hf,by have:=List.find?_some hf;simpa using this,rfl⟩
def nL (m:af) (i:Int):Bool:=decide (0≤i) && decide (i<(gL m).length) && d6 m m.aJ.length i
def gK (m:af) (i:Int):Option aO:=(cJ (gL m) i).bind (cJ m.types)
def dF:aO:=⟨[],[]⟩
def da (op:Int):aO×Int:=match fQ op with
 |some f=>(f,0)
 |none=>(dF,1)
def mn (op:Int):Int:=if iL op=2 then 1 else if iL op=4 then 2 else if iL op=8 then 3 else 0
def cF (m:af) (locals:List Int) (x:cv):aO×Int:=
 let k:=eR x.op
 if k=1∨k=2∨k=3 then(dF,1)else
 if k=4 then match gK m x.a with
  |none=>(dF,11)
  |some f=>if x.op=16 then(f,0)else if nL m x.a=true then da x.op else(dF,22)
 else if k=5 then match cJ m.types x.a,cJ (bM m) x.b with
  |some f,some t=>if t.elem≠3 then(dF,12)else(⟨f.params++[1],f.results⟩,0)
  |_,_=>(dF,11)
 else if k=6 then(⟨[ix x.types 0,ix x.types 0,1],[ix x.types 0]⟩,0)
 else if k=7 then
  if(locals.length:Int)≤x.a then(dF,11)else
   let t:=ix locals x.a.toNat
   if x.op=32 then(⟨[],[t]⟩,0)else if x.op=33 then(⟨[t],[]⟩,0)else(⟨[t],[t]⟩,0)
 else if k=8 then match cJ (gg m) x.a with
  |none=>(dF,11)
  |some g=>if x.op=35 then(⟨[],[g.nY]⟩,0)else if g.sD=false then(dF,18)else(⟨[g.nY],[]⟩,0)
 else if k=9 then match cJ (bM m) x.a with
  |none=>(dF,11)
  |some t=>if x.op=37 then(⟨[1],[t.elem]⟩,0)else if x.op=38 then(⟨[1,t.elem],[]⟩,0)else if x.op=64528 then(⟨[],[1]⟩,0)else if x.op=64527 then(⟨[t.elem,1],[1]⟩,0)else(⟨[1,t.elem,1],[]⟩,0)
 else if k=10 then match cJ (bM m) x.a,cJ (bM m) x.b with
  |some a,some b=>if a.elem≠b.elem then(dF,12)else da x.op
  |_,_=>(dF,11)
 else if k=11 then match cJ (dO m) x.a,cJ (bM m) x.b with
  |some a,some b=>if a≠b.elem then(dF,12)else da x.op
  |_,_=>(dF,11)
 else if k=12 then if(cJ (dO m) x.a).isNone then(dF,11)else da x.op
 else if k=13∨k=14∨k=15∨k=17 then
  if k=14∧(cJ (ec m) x.a).isNone then(dF,11)else if k=15∧(m.bg.length:Int)≤x.a then(dF,11)else if(cJ (ec m) x.b).isNone then(dF,11)else if k=17∧mn x.op<x.a then(dF,19)else da x.op
 else if k=16 then if(m.bg.length:Int)≤x.a then(dF,11)else da x.op
 else if k=20 then(⟨[],[x.a]⟩,0)
 else da x.op
def jU (op:Int):Bool:=decide (op=2) || decide (op=3) || decide (op=4) || decide (op=5) || decide (op=11) || decide (op=0) || decide (op=12) || decide (op=13) || decide (op=14) || decide (op=15) || decide (op=26) || decide (op=27) || decide (op=209)
def kB (m:af) (locals:List Int) (x:cv):aO×Int:=if cW x=false then(dF,10)else cF m locals x
theorem De:(lL.all fun r=>!jU r.1 || ((decide (r.2.2=1) || decide (r.2.2=2) || decide (r.2.2=3) || decide (r.2.2=0)) && (fQ r.1).isNone))=true:=by decide+kernel
theorem EN (m:af) (locals:List Int) (x:cv) (h:jU x.op=true) (hk:(fz x.op).isSome=true):cF m locals x=(dF,1):=by
 obtain⟨r,hr⟩:=Option.isSome_iff_exists.1 hk
 have h1:=List.all_eq_true.1 De r (List.mem_of_find?_eq_some hr)
 have e:r.1=x.op:=by have:=List.find?_some hr;simpa using this
 have e2:eR x.op=r.2.2:=by unfold eR eH;rw[hr];rfl
 rw[e,h]at h1
 simp only[Bool.not_true,Bool.false_or,Bool.and_eq_true,Bool.or_eq_true,decide_eq_true_eq,←e2]at h1
 obtain⟨h2,h3⟩:=h1
 unfold cF
 dsimp only
 rcases h2 with((h2|h2)|h2)|h2
 ·rw[if_pos (.inl h2)]
 ·rw[if_pos (.inr (.inl h2))]
 ·rw[if_pos (.inr (.inr h2))]
 ·have h4:fQ x.op=none:=by simpa using h3
  simp[h2,da,h4]
open Go.RowKit _root_.Go.Proofs.Tryz
set_option maxHeartbeats 4000000
open List renaming all_eq_true→PC,length_append→Py,length_take→Pz,mem_of_find?_eq_some→P2,range→PH
open Nat renaming beq→PK,ble→PM,blt→Pt,eq_or_lt_of_le→Qn,le_of_ble_eq_true→PX,le_refl→Px,sub_self→PU,zero_le→Pu
open Value renaming int→Pm
variable {M M':List bu} (n:Int) (w:World) {c:dv} {s:ck} {fs:List n7} {f:n7}
theorem cE:Calls G.P 125 #[.int .i64 n] w fun e w'=>e=.returned (.bool (br n))∧Ext w w':=by
 refine ae (l:=[.int .i64 n]) func125 rfl ntmps125 rfl (Ok.start w) ?_
 repeat'(first|refine ar ?_|(refine bC ?_ ?_<;>intro hc_))
 all_goals exact ah.aG rfl rfl fun w' hw'=>⟨by simp_all [br]<;>omega,hw'.at⟩
theorem fm:Calls G.P 108 #[.int .i64 n] w fun e w'=>e=.returned (.bool (br n))∧Ext w w':=by
 refine ae (l:=[.int .i64 n]) func108 rfl ntmps108 rfl (Ok.start w) ?_
 repeat'(first|refine ar ?_|(refine bC ?_ ?_<;>intro hc_))
 all_goals exact ah.aG rfl rfl fun w' hw'=>⟨by simp_all [br]<;>omega,hw'.at⟩
theorem ud:Calls G.P 127 #[.int .i64 n] w fun e w'=>e=.returned (.bool (ki n))∧Ext w w':=by
 refine ae (l:=[.int .i64 n]) func127 rfl ntmps127 rfl (Ok.start w) ?_
 repeat'(first|refine ar ?_|(refine bC ?_ ?_<;>intro hc_))
 all_goals exact ah.aG rfl rfl fun w' hw'=>⟨by simp_all [ki]<;>omega,hw'.at⟩
theorem xE:Calls G.P 110 #[.int .i64 n] w fun e w'=>e=.returned (.bool (ki n))∧Ext w w':=by
 refine ae (l:=[.int .i64 n]) func110 rfl ntmps110 rfl (Ok.start w) ?_
 repeat'(first|refine ar ?_|(refine bC ?_ ?_<;>intro hc_))
 all_goals exact ah.aG rfl rfl fun w' hw'=>⟨by simp_all [ki]<;>omega,hw'.at⟩
theorem vi (b:Bool) (p q:Int) (w:World):Calls G.P 139 #[.bool b,.int .i64 p,.int .i64 q] w fun e w'=>e=.returned (.int .i64 (if b=false then 11 else if p≠q then 12 else 0))∧Ext w w':=by
 refine ae (l:=[.bool b,.int .i64 p,.int .i64 q]) func139 rfl ntmps139 rfl (Ok.start w) ?_
 repeat'(first|refine ar ?_|(refine bC ?_ ?_<;>intro hc_))
 all_goals exact ah.aG rfl rfl fun w' hw'=>⟨by simp_all,hw'.at⟩
def FC (t:Int):Bool:=decide (t=1) || decide (t=2)
def rI (t:Int):Bool:=decide (t=3) || decide (t=4)
theorem Hs (t:Int):(FC t || rI t)=ki t:=by
 unfold FC rI ki
 rw[Bool.eq_iff_iff]
 simp only[Bool.or_eq_true,Bool.and_eq_true,decide_eq_true_eq];omega
theorem Er:Calls G.P 128 #[.int .i64 n] w fun e w'=>e=.returned (.bool (FC n))∧Ext w w':=by
 refine ae (l:=[.int .i64 n]) func128 rfl ntmps128 rfl (Ok.start w) ?_
 repeat'(first|refine ar ?_|(refine bC ?_ ?_<;>intro hc_))
 all_goals exact ah.aG rfl rfl fun w' hw'=>⟨by simp_all [FC]<;>omega,hw'.at⟩
theorem Es:Calls G.P 129 #[.int .i64 n] w fun e w'=>e=.returned (.bool (rI n))∧Ext w w':=by
 refine ae (l:=[.int .i64 n]) func129 rfl ntmps129 rfl (Ok.start w) ?_
 repeat'(first|refine ar ?_|(refine bC ?_ ?_<;>intro hc_))
 all_goals exact ah.aG rfl rfl fun w' hw'=>⟨by simp_all [rI]<;>omega,hw'.at⟩
theorem qZ:Calls G.P 94 #[.int .i64 n] w fun e w'=>e=.returned (.bool (rI n))∧Ext w w':=by
 refine ae (l:=[.int .i64 n]) func94 rfl ntmps94 rfl (Ok.start w) ?_
 repeat'(first|refine ar ?_|(refine bC ?_ ?_<;>intro hc_))
 all_goals exact ah.aG rfl rfl fun w' hw'=>⟨by simp_all [rI]<;>omega,hw'.at⟩
attribute [local irreducible] FC rI
theorem xM:Calls G.P 81 #[.int .i64 n] w fun e w'=>e=.returned (.bool (ki n))∧Ext w w':=by
 refine ae (l:=[.int .i64 n]) func81 rfl ntmps81 rfl (Ok.start w) ?_
 repeat'(first|refine ar ?_|(refine aa.av rfl rfl rfl (fun w' _=>Er n w') ?_)|(refine aa.cB (by first|rfl|exact Ds rfl eJ|exact Dr rfl eJ) rfl rfl rfl (fun w' _=>Es n w') ?_)|(refine bC ?_ ?_<;>intro hc_))
 all_goals exact ah.aG rfl rfl fun w' hw'=>⟨by rw[←Hs];simp_all,hw'.at⟩
def vJ {β:Type} (V:(Nat→Prop)→World→β→Prop):Prop:=∀{D S:Nat→Prop} {x:β} {w w':World},V D w x→bX S w w'→(∀k,k<w.heap.size→D k→¬S k)→V D w' x
def bD {β:Type} (V:(Nat→Prop)→World→β→Prop) (tf:β→Value) (F:Nat→Prop) (w:World) (e:Ending) (w':World):Prop:=(∃x,e=.returned (tf x)∧V (fun k=>F k∨w.heap.size≤k) w' x)∧Ext w w'
section
variable {ops:Array Oper} {Q:Exit→Act→World→Prop} {n:Nat} {E:Env} {M M':List bu} {R R':List (World→Prop)} {v:Value} {x y z:Operand} {t t2:TypeId} {C:World→Prop}
theorem HE.zD {β:Type} {V:(Nat→Prop)→World→β→Prop} {tf:β→Value} {F:Nat→Prop} {w0:World} {f:Nat} {args:List Operand} {tys:Array TypeId} {vs:List Value} (hV:vJ V) (hR:Ext w0∈R) (hF:∀k,F k→k<w0.heap.size) (hf:G.fb[f]?=some true) (ha:kJ E args=some vs)
  (hc:∀w,Ok M R w→Calls G.P f vs.toArray w (bD V tf F w)):
  HE n (.call ⟨.value (.func f),args.toArray,tys⟩) E M R (fun x:(Nat→Prop)×β=>∀k,x.1 k→F k∨w0.heap.size≤k) (fun x=>tf x.2) (fun _=>M) (fun x=>(fun w=>V x.1 w x.2)::R):=
 ⟨fun w hw=>(bU.call hf ha (hc w hw) (fun e w' h=>by obtain⟨⟨x,e1,_⟩,_⟩:=h;exact⟨_,e1⟩)).mono fun v w' ⟨⟨x,e1,hv⟩,hx⟩=>by
  cases e1
  refine⟨(fun k=>F k∨w.heap.size≤k,x),?_,rfl,(hw.ext hx).add fun w2 h2=>hV hv h2 fun k hk1 hk hm=>?_⟩
  ·rintro k (h|h)
   ·exact .inl h
   ·exact .inr (Nat.le_trans (show Ext w0 w from hw.get hR).size h)
  ·rcases hk with hk|hk
   ·exact hw.origin (S:=fun _=>False) hR k hm (hF k hk)
   ·obtain⟨q,hq,hk'⟩:=hm
    have:=(hw.m q hq).2 k hk';omega⟩
theorem aC.sF {β:Type} {w w':World} {tf:β→Value} {φ:β→Prop} {M1:β→List bu} (x:β) (hφ:φ x) (h:Ok M R w') (hM:(M1 x).Sublist M) (hR:Ext w∈R):aC [] w tf φ M1 (.returned (tf x)) w':=
 ⟨x,rfl,hφ,h.sub hM (fun p hp=>absurd hp Pj),(show Ext w w' from h.get hR).mono (fun _ _ h=>h.elim),fun k ⟨q,hq,hk⟩ hlt=>(h.origin (S:=fun _=>False) hR k ⟨q,hM.subset hq,hk⟩ hlt).elim⟩
theorem me {P:Program} {xs ys:List Int} (d:Nat) (w:World) (hl:xs.length=ys.length):∀fs:List Field,(∀f∈fs,f.name≠ "_" ∧P.underlying f.type=some (.int .i64)∧f.offset<xs.length)→(Op.eqFields (d+1) (xs.map (Pm .i64)).toArray (ys.map (Pm .i64)).toArray fs).run P w=.ok (fs.all fun f=>decide (ix xs f.offset=ix ys f.offset)) w
 |[],_=>by simp[Op.eqFields]
 |f::fs,h=>by
  obtain⟨h0,h1,h2⟩:=h f Pj
  have ih:=me d w hl fs fun g hg=>h g (by simp[hg])
  have hg:(isAgg f.type).run P w=.ok false w:=by simp[isAgg,run_underlying h1]
  have hp:∀zs:List Int,f.offset<zs.length→(part f.type (zs.map (Pm .i64)).toArray f.offset).run P w=.ok (.int .i64 (ix zs f.offset)) w:=by
   intro zs hz
   have h2':(zs.map (Pm .i64)).toArray[f.offset]?=some (Pm .i64 (ix zs f.offset)):=by simp[cz hz,hz]
   simp only[part,Sem.run_bind,hg,Result.andThen_ok,Bool.false_eq_true,if_false]
   rw[h2'];simp
  have he:(Op.equalIn (d+1) f.type (.int .i64 (ix xs f.offset)) (.int .i64 (ix ys f.offset))).run P w=.ok (ix xs f.offset==ix ys f.offset) w:=by simp[Op.equalIn,run_underlying h1]
  simp only[Op.eqFields,h0,ne_eq,not_false_eq_true,if_true,Sem.run_bind,hp xs h2,hp ys (hl ▸ h2),Result.andThen_ok,he,Sem.run_ite,List.all_cons]
  by_cases e:ix xs f.offset=ix ys f.offset
  ·simp[e];simpa using ih
  ·simp[e]
theorem oK {xs ys:List Int} (w:World) (hl:xs.length=ys.length) (ht:G.P.underlying t=some (.struct (G.P.fieldsOf t))) (hp:G.P.stoodInHeld t=false)
  (hf:∀f∈(G.P.fieldsOf t).toList,f.name≠ "_" ∧G.P.underlying f.type=some (.int .i64)∧f.offset<xs.length) (ho:((G.P.fieldsOf t).toList.map fun f=>f.offset)=PH xs.length):(Op.equal t (.agg (xs.map (Pm .i64)).toArray) (.agg (ys.map (Pm .i64)).toArray)).run G.P w=.ok (decide (xs=ys)) w:=by
 show(Op.equalIn (9999+1) t _ _).run G.P w=_
 rw[run_equalIn_struct w 9999 t _ _ ht hp,me 9998 w hl _ hf]
 congr 1
 have e:((G.P.fieldsOf t).toList.all fun f=>decide (ix xs f.offset=ix ys f.offset))=(((G.P.fieldsOf t).toList.map fun f=>f.offset).all fun o=>decide (ix xs o=ix ys o)):=by rw[List.all_map];rfl
 rw[e,ho,Bool.eq_iff_iff]
 simp only[PC,List.mem_range,decide_eq_true_eq]
 constructor
 ·intro h
  refine List.ext_getElem hl fun i h1 h2=>?_
  have:=h i h1
  rw[cz h1,cz h2]at this;exact this
 ·rintro rfl i _;rfl
theorem Yl.Lf (xs ys:List Int) (hx:ev E x=some (.agg (xs.map (Pm .i64)).toArray)) (hy:ev E y=some (.agg (ys.map (Pm .i64)).toArray)) (hl:xs.length=ys.length) (ht:G.P.underlying t=some (.struct (G.P.fieldsOf t))) (hp:G.P.stoodInHeld t=false) (hg:G.P.eqGuardType G.P.depth t=false)
  (hf:∀f∈(G.P.fieldsOf t).toList,f.name≠ "_" ∧G.P.underlying f.type=some (.int .i64)∧f.offset<xs.length) (ho:((G.P.fieldsOf t).toList.map fun f=>f.offset)=PH xs.length):Yl G n (.binOp .eql t x y t2) E C (.bool (decide (xs=ys))):=
 ⟨fun w _ a ha d ty pos aft gd=>by
  have h4:∀b c:Operand,(eqGuard .eql t b c (.agg (xs.map (Pm .i64)).toArray) (.agg (ys.map (Pm .i64)).toArray)).run G.P w=.ok () w:=by
   intro b c;simp[eqGuard,hg,run_program]
  simp[execOp,ha.eval hx,ha.eval hy,h4,binOp,oK w hl ht hp hf ho]⟩
theorem Yl.Ka (xs ys:List Int) (hx:ev E x=some (.agg (xs.map (Pm .i64)).toArray)) (hy:ev E y=some (.agg (ys.map (Pm .i64)).toArray)) (hl:xs.length=ys.length) (ht:G.P.underlying t=some (.struct (G.P.fieldsOf t))) (hp:G.P.stoodInHeld t=false) (hg:G.P.eqGuardType G.P.depth t=false)
  (hf:∀f∈(G.P.fieldsOf t).toList,f.name≠ "_" ∧G.P.underlying f.type=some (.int .i64)∧f.offset<xs.length) (ho:((G.P.fieldsOf t).toList.map fun f=>f.offset)=PH xs.length):Yl G n (.binOp .neq t x y t2) E C (.bool (decide (xs≠ys))):=
 ⟨fun w _ a ha d ty pos aft gd=>by
  have h4:∀b c:Operand,(eqGuard .neq t b c (.agg (xs.map (Pm .i64)).toArray) (.agg (ys.map (Pm .i64)).toArray)).run G.P w=.ok () w:=by
   intro b c;simp[eqGuard,hg,run_program]
  simp[execOp,ha.eval hx,ha.eval hy,h4,binOp,oK w hl ht hp hf ho]⟩
end
def dH (f:aO) (D:Nat→Prop) (w:World) (x:Value×Value):Prop:=ai D w x.1 f.params∧ai D w x.2 f.results
theorem dH.fr (f:aO):vJ (dH f):=fun h hc hd=>⟨h.1.aN hc hd,h.2.aN hc hd⟩
theorem dH.mono {f:aO} {D H:Nat→Prop} {w:World} {x:Value×Value} (h:dH f D w x) (hd:∀k,D k→H k):dH f H w x:=⟨h.1.mono fun k _=>hd k,h.2.mono fun k _=>hd k⟩
theorem dH.nil (D:Nat→Prop) (w:World):dH dF D w (.slice none 0 0,.slice none 0 0):=⟨ai.cH _ _,ai.cH _ _⟩
section
variable {n:Nat} {E:Env} {op:Op} {v:Value} {x y:Operand} {t t2:TypeId} {C:World→Prop}
theorem Yl.aE {bo:BinOp} (h:Yl G n (.binOp bo t x y t2) E C v):Yl G n (.binOp bo t x y t2) E C v:=h
theorem Yl.eN (h:Yl G n (.indexAddr t x y) E C v):Yl G n (.indexAddr t x y) E C v:=h
theorem Yl.isField {f:Nat} (h:Yl G n (.fieldAddr t x f) E C v):Yl G n (.fieldAddr t x f) E C v:=h
theorem Yl.dn (h:Yl G n (.load t x) E C v):Yl G n (.load t x) E C v:=h
end
section
variable {l:List Oper} {Q:Exit→Act→World→Prop} {Mc:List bu} {Rc:List (World→Prop)} {n fuel:Nat} {listed:Array Bool} {E:Env} {M M':List bu} {R:List (World→Prop)} {d:Nat} {op:Op} {ty:TypeId} {pos:String} {aft:Array Edge} {v:Value} {β:Type} {φ:β→Prop} {vf:β→Value} {Mf:β→List bu} {Rf:β→List (World→Prop)}
theorem aP.qa (k:Nat) (hk:l[k]?=some ⟨some d,op,ty,pos,aft,none⟩)
  (h:aP l Q Mc Rc n fuel (listed.setIfInBounds k true) ((d,v)::E) M R) (hc:(Region.noSelect l.toArray && (Region.ready .any l.toArray listed).contains k && Region.free .any l.toArray listed k && qo op && Pt d n)=true:=by decide+kernel) (hy:Yl G n op E (Ok Mc Rc) v:=by(first|exact Yl.move rfl|exact Yl.assign rfl|(apply Yl.aE;(first|(apply Yl.aE (bo:=.lss);(first|exact Yl.lH rfl rfl Pi|exact Yl.lG rfl rfl Pi))|(apply Yl.aE (bo:=.eql);(first|exact Yl.ly rfl rfl Pi|exact Yl.lx rfl rfl Pi))|(apply Yl.aE (bo:=.neq);(first|exact Yl.lK rfl rfl Pi|exact Yl.lJ rfl rfl Pi))|(apply Yl.aE (bo:=.leq);(first|exact Yl.lF rfl rfl Pi|exact Yl.lE rfl rfl Pi))|(apply Yl.aE (bo:=.gtr);(first|exact Yl.lC rfl rfl Pi|exact Yl.lB rfl rfl Pi))|(apply Yl.aE (bo:=.geq);(first|exact Yl.lA rfl rfl Pi|exact Yl.lz rfl rfl Pi))|exact Yl.add rfl rfl Pi|exact Yl.sub rfl rfl Pi|exact Yl.jh rfl rfl rfl rfl|exact Yl.mr underlying4 rfl rfl|exact Yl.mq underlying4 rfl rfl|exact Yl.xj rfl rfl|exact Yl.nV rfl rfl|exact Yl.nS rfl rfl Pi|fail))|(apply Yl.isField;(first|exact Yl.kS rfl rfl rfl|exact Yl.gJ rfl rfl rfl|exact Yl.field rfl rfl rfl))|(apply Yl.dn;(first|exact Yl.mN rfl rfl rfl OF|exact Yl.mL rfl rfl rfl rfl OO|exact Yl.mO rfl rfl rfl rfl OO OL|exact Yl.mM rfl rfl rfl OJ rfl))|(apply Yl.eN;(first|exact Yl.gn rfl rfl rfl rfl rfl rfl Pi|exact Yl.idx rfl rfl rfl rfl rfl rfl Pi))|exact Yl.len rfl rfl rfl|exact Yl.extract rfl rfl|exact Yl.fT rfl rfl|exact Yl.fS rfl rfl|exact Yl.nilCheck rfl|exact Yl.not rfl|exact Yl.makeFunc rfl rfl|exact Yl.jW rfl rfl|exact Yl.jX rfl rfl rfl OH Pk|exact Yl.jY rfl rfl rfl OI|exact Yl.gH rfl rfl rfl rfl|exact Yl.ed underlying9 rfl rfl rfl Pi|exact Yl.dC underlying9 rfl rfl rfl Pi|exact Yl.eW underlying9 rfl rfl rfl rfl rfl Pi Pi|exact Yl.cZ rfl rfl rfl rfl rfl rfl Pi|exact Yl.nT underlying9 rfl)):aP l Q Mc Rc n (fuel+1) listed E M R:=aP.q k hk hc hy h
theorem aP.qy (k:Nat) (hk:l[k]?=some ⟨some d,op,ty,pos,aft,none⟩) (hy:Yl G n op E (Ok Mc Rc) v)
  (h:aP l Q Mc Rc n fuel (listed.setIfInBounds k true) ((d,v)::E) M R) (hc:(Region.noSelect l.toArray && (Region.ready .any l.toArray listed).contains k && Region.free .any l.toArray listed k && qo op && Pt d n)=true:=by decide+kernel):aP l Q Mc Rc n (fuel+1) listed E M R:=aP.q k hk hc hy h
structure aB (l:List Oper) (Q:Exit→Act→World→Prop) (Mc:List bu) (Rc:List (World→Prop)) (n fuel:Nat) (listed:Array Bool) (k:Nat) (E:Env) (M:List bu) (R:List (World→Prop)):Prop where
 h:∀i,k≤i→i∈Region.ready .any l.toArray listed→ax l Q Mc Rc n fuel listed i E M R
theorem Ac {i:Nat} (h:i∈Region.ready .any l.toArray listed):i<l.length:=by
 obtain⟨-,o,ho,-⟩:=mem_ready.1 h
 exact(Array.getElem?_eq_some_iff.1 ho).1
theorem aB.fin {k:Nat} (hk:PM l.length k=true):aB l Q Mc Rc n fuel listed k E M R:=⟨fun i hi hr=>by have:=Ac hr;have:=PX hk;omega⟩
theorem aB.skip {k:Nat} (hk:(Region.ready .any l.toArray listed).contains k=false) (h:aB l Q Mc Rc n fuel listed (k+1) E M R):aB l Q Mc Rc n fuel listed k E M R:=⟨fun i hi hr=>by
 rcases Qn hi with rfl|hlt
 ·have:(Region.ready .any l.toArray listed).contains k=true:=by simpa using hr
  rw[hk]at this;cases this
 ·exact h.h i hlt hr⟩
theorem aB.go {k:Nat} (h1:ax l Q Mc Rc n fuel listed k E M R) (h:aB l Q Mc Rc n fuel listed (k+1) E M R):aB l Q Mc Rc n fuel listed k E M R:=⟨fun i hi hr=>by
 rcases Qn hi with rfl|hlt
 ·exact h1
 ·exact h.h i hlt hr⟩
theorem aP.any (hr:(Region.ready .any l.toArray listed).isEmpty=false) (h:aB l Q Mc Rc n fuel listed 0 E M R):aP l Q Mc Rc n (fuel+1) listed E M R:=⟨fun w hw hC hcl a ha=>
 ⟨fun h0=>(by rw[h0]at hr;cases hr),fun k hk=>(h.h k (Pu _) hk).h w hw hC hcl hk a ha⟩⟩
theorem aP.pure {φ:Prop} (hp:∀w,Ok M R w→φ) (h:φ→aP l Q Mc Rc n fuel listed E M R):aP l Q Mc Rc n fuel listed E M R:=⟨fun w hw=>(h (hp w hw)).h w hw⟩
theorem aP.zR {α:Type} (E0:α→Env) (M0:α→List bu) (R0:α→List (World→Prop))
  (rest:∀x,ah Q n .normal (E0 x) (M0 x) (R0 x)) (h:(∀x,ah Q n .normal (E0 x) (M0 x) (R0 x))→aP l Q Mc Rc n fuel listed E M R):aP l Q Mc Rc n fuel listed E M R:=h rest
end
def I6 (l:List Oper) (i t:Nat):Bool:=match l[i]? with|some ⟨some _,.alloc t',_,_,_,none⟩=>PK t' t|_=>false
def HD (l:List Oper) (i f:Nat):Bool:=match l[i]? with|some ⟨some _,.call ⟨.value (.func f'),_,_⟩,_,_,_,none⟩=>PK f' f|_=>false
def I9 (l:List Oper) (i:Nat):Bool:=match l[i]? with|some ⟨none,.store _ _ _,_,_,_,none⟩=>true|_=>false
def HC (l:List Oper) (i:Nat):Bool:=match l[i]? with|some ⟨some _,.buildSlice _ _ _,_,_,_,none⟩=>true|_=>false
def HB (l:List Oper) (i:Nat):Bool:=match l[i]? with|some ⟨some _,.call ⟨.builtin .append,_,_⟩,_,_,_,none⟩=>true|_=>false
section
variable {l:List Oper} {Q:Exit→Act→World→Prop} {Mc:List bu} {Rc:List (World→Prop)} {n fuel i:Nat} {listed:Array Bool} {E:Env} {M:List bu} {R:List (World→Prop)}
theorem ax.yf (t:Nat) (h:ax l Q Mc Rc n fuel listed i E M R) (_:I6 l i t=true:=by decide+kernel):ax l Q Mc Rc n fuel listed i E M R:=h
theorem ax.dA (f:Nat) (h:ax l Q Mc Rc n fuel listed i E M R) (_:HD l i f=true:=by decide+kernel):ax l Q Mc Rc n fuel listed i E M R:=h
theorem ax.nj (h:ax l Q Mc Rc n fuel listed i E M R) (_:I9 l i=true:=by decide+kernel):ax l Q Mc Rc n fuel listed i E M R:=h
theorem ax.lD (h:ax l Q Mc Rc n fuel listed i E M R) (_:HC l i=true:=by decide+kernel):ax l Q Mc Rc n fuel listed i E M R:=h
theorem ax.rr (h:ax l Q Mc Rc n fuel listed i E M R) (_:HB l i=true:=by decide+kernel):ax l Q Mc Rc n fuel listed i E M R:=h
end
inductive kn:List bu→List bu→Prop
 |nil {M:List bu}:kn [] M
 |cons {q:bu} {M M1 M':List bu} (h:Rm q M M1) (hs:kn M' M1):kn (q::M') M
theorem Rm.perm {q:bu} {M M':List bu} (h:Rm q M M'):M.Perm (q::M'):=by
 induction h with
 |head=>exact List.Perm.refl _
 |tail _ ih=>exact(ih.cons _).trans (List.Perm.swap _ _ _)
theorem kn.perm (h:kn M' M):∃M2,M.Perm (M'++M2):=by
 induction h with
 |nil=>exact⟨_,List.Perm.refl _⟩
 |cons hr _ ih=>
  obtain⟨M2,hp⟩:=ih
  exact⟨M2,hr.perm.trans (hp.cons _)⟩
theorem Ok.dc {R R':List (World→Prop)} {w:World} (h:Ok M R w) (hM:kn M' M) (hR:∀p,p∈R'→p∈R):Ok M' R' w:=by
 obtain⟨M2,hp⟩:=hM.perm
 exact(h.perm hp).sub (List.sublist_append_left _ _) hR
theorem dV (h:kn M' M:=by(repeat(first|exact kn.nil|refine kn.cons jH ?_))):kn M' M:=h
theorem ah.dc {Q:Exit→Act→World→Prop} {n:Nat} {e:Exit} {E E':Env} {M M':List bu} {R R':List (World→Prop)} (h:ah Q n e E' M' R') (hE:Sub E E') (hM:kn M' M) (hR:∀p,p∈R'→p∈R):ah Q n e E M R:=⟨fun w hw=>⟨fun a ha=>(h.h w (hw.dc hM hR)).h a (ha.sub hE)⟩⟩
theorem Jz {g g':Prop} (h:g') (hw:eA g'→g:=by(intro hk_;(first|refine aP.qa 0 rfl ?_|refine aP.qa 1 rfl ?_|refine aP.qa 2 rfl ?_|refine aP.qa 3 rfl ?_|refine aP.qa 4 rfl ?_|refine aP.qa 5 rfl ?_|refine aP.qa 6 rfl ?_|refine aP.qa 7 rfl ?_|refine aP.qa 8 rfl ?_|refine aP.qa 9 rfl ?_|refine aP.qa 10 rfl ?_|refine aP.qa 11 rfl ?_|refine aP.qa 12 rfl ?_|refine aP.qa 13 rfl ?_|refine aP.qa 14 rfl ?_|refine aP.qa 15 rfl ?_|refine aP.qa 16 rfl ?_|refine aP.qa 17 rfl ?_|refine aP.qa 18 rfl ?_|refine aP.qa 19 rfl ?_|refine aP.qa 20 rfl ?_|refine aP.qa 21 rfl ?_|refine aP.qa 22 rfl ?_|refine aP.qa 23 rfl ?_|refine aP.qa 24 rfl ?_|refine aP.qa 25 rfl ?_|refine aP.qa 26 rfl ?_|refine aP.qa 27 rfl ?_|refine aP.qa 28 rfl ?_|refine aP.qa 29 rfl ?_);exact hk_.out)):g:=hw ⟨h⟩
theorem pN {g g':Prop} (h:g') (hw:eA g'→g:=by(intro hk_;refine Jz ?_;(repeat refine Jz ?_);exact hk_.out)):g:=hw ⟨h⟩
structure db (z:Nat) (l:List Oper) (Q:Exit→Act→World→Prop) (Mc:List bu) (Rc:List (World→Prop)) (n fuel:Nat) (listed:Array Bool) (E:Env) (M:List bu) (R:List (World→Prop)):Prop where
 h:∀w,Ok M R w→Ok Mc Rc w→zg .any l.toArray listed→∀a,Ag n a E→nD G.P .any l.toArray (Ok Mc Rc) z (Q .normal) fuel listed a w
structure bA (z:Nat) (l:List Oper) (Q:Exit→Act→World→Prop) (Mc:List bu) (Rc:List (World→Prop)) (n fuel:Nat) (listed:Array Bool) (i:Nat) (E:Env) (M:List bu) (R:List (World→Prop)):Prop where
 h:∀w,Ok M R w→Ok Mc Rc w→zg .any l.toArray listed→i∈Region.ready .any l.toArray listed→∀a,Ag n a E→vS G.P l.toArray (Ok Mc Rc) z i (nD G.P .any l.toArray (Ok Mc Rc) z (Q .normal) fuel (listed.setIfInBounds i true)) a w
structure cw (z:Nat) (l:List Oper) (Q:Exit→Act→World→Prop) (Mc:List bu) (Rc:List (World→Prop)) (n fuel:Nat) (listed:Array Bool) (k:Nat) (E:Env) (M:List bu) (R:List (World→Prop)):Prop where
 h:∀i,k≤i→i∈Region.ready .any l.toArray listed→bA z l Q Mc Rc n fuel listed i E M R
section
variable {z:Nat} {l:List Oper} {Q:Exit→Act→World→Prop} {Mc:List bu} {Rc:List (World→Prop)} {n fuel i:Nat} {listed:Array Bool} {E:Env} {M:List bu} {R:List (World→Prop)} {d:Nat} {op:Op} {ty:TypeId} {pos:String} {aft:Array Edge} {v:Value} {β:Type} {φ:β→Prop} {vf:β→Value} {Mf:β→List bu} {Rf:β→List (World→Prop)}
theorem bh.iB {id:Nat} (z:Nat) (Mc:List bu) (Rc:List (World→Prop)) (hM:Mc.Sublist M) (hR:∀p,p∈Rc→p∈R) (h:db z l Q Mc Rc n l.length (Array.replicate l.length false) E M R):bh Q n (.region id l.toArray true) E M R:=
 ⟨fun w hw=>⟨fun a ha=>wp_region_any G.mixed (nG (C:=Ok Mc Rc) (z:=z) (K:=Q .normal) (fun _ _ h=>h) _ _ _ _ (by
  have:=h.h w.drew hw.drew (hw.drew.sub hM hR) (zg.start _) a ha
  simpa using this))⟩⟩
theorem db.q (k:Nat) (hk:l[k]?=some ⟨some d,op,ty,pos,aft,none⟩) (hc:(Region.noSelect l.toArray && (Region.ready .any l.toArray listed).contains k && Region.free .any l.toArray listed k && qo op && Pt d n && sinkB .any l.toArray z && !(PK k z))=true) (hy:Yl G n op E (Ok Mc Rc) v)
  (h:db z l Q Mc Rc n fuel (listed.setIfInBounds k true) ((d,v)::E) M R):db z l Q Mc Rc n (fuel+1) listed E M R:=⟨fun w hw hC hcl a ha=>by
 simp only[Bool.and_eq_true,Bool.not_eq_true']at hc
 obtain⟨⟨⟨⟨⟨⟨h1,h2⟩,h3⟩,h4⟩,h5⟩,h6⟩,h7⟩:=hc
 have hne:k≠z:=fun e=>by subst e;simp at h7
 have ho:l.toArray[k]?=some ⟨some d,op,ty,pos,aft,none⟩:=by simpa using hk
 have hkl:k<l.toArray.size:=(Array.getElem?_eq_some_iff.1 ho).1
 have hkr:k∈Region.ready .any l.toArray listed:=by simpa using h2
 exact nE ho (Region.noSelect_spec h1) (fun _ hcl' hl _=>vt h6 hkl hne hcl' hl) hne fuel listed a w hC hcl (Region.free_spec ho h3) hkr (.inl ⟨by simp[Region.wanted],fun w hw=>hy.h w hw a ha _ _ _ _ _⟩) (h.h w hw hC (hcl.set hkr) _ (ha.put (by simpa using h5) v))⟩
theorem db.qa (k:Nat) (hk:l[k]?=some ⟨some d,op,ty,pos,aft,none⟩)
  (h:db z l Q Mc Rc n fuel (listed.setIfInBounds k true) ((d,v)::E) M R) (hc:(Region.noSelect l.toArray && (Region.ready .any l.toArray listed).contains k && Region.free .any l.toArray listed k && qo op && Pt d n && sinkB .any l.toArray z && !(PK k z))=true:=by decide+kernel) (hy:Yl G n op E (Ok Mc Rc) v:=by(first|exact Yl.move rfl|exact Yl.assign rfl|(apply Yl.aE;(first|(apply Yl.aE (bo:=.lss);(first|exact Yl.lH rfl rfl Pi|exact Yl.lG rfl rfl Pi))|(apply Yl.aE (bo:=.eql);(first|exact Yl.ly rfl rfl Pi|exact Yl.lx rfl rfl Pi))|(apply Yl.aE (bo:=.neq);(first|exact Yl.lK rfl rfl Pi|exact Yl.lJ rfl rfl Pi))|(apply Yl.aE (bo:=.leq);(first|exact Yl.lF rfl rfl Pi|exact Yl.lE rfl rfl Pi))|(apply Yl.aE (bo:=.gtr);(first|exact Yl.lC rfl rfl Pi|exact Yl.lB rfl rfl Pi))|(apply Yl.aE (bo:=.geq);(first|exact Yl.lA rfl rfl Pi|exact Yl.lz rfl rfl Pi))|exact Yl.add rfl rfl Pi|exact Yl.sub rfl rfl Pi|exact Yl.jh rfl rfl rfl rfl|exact Yl.mr underlying4 rfl rfl|exact Yl.mq underlying4 rfl rfl|exact Yl.xj rfl rfl|exact Yl.nV rfl rfl|exact Yl.nS rfl rfl Pi|fail))|(apply Yl.isField;(first|exact Yl.kS rfl rfl rfl|exact Yl.gJ rfl rfl rfl|exact Yl.field rfl rfl rfl))|(apply Yl.dn;(first|exact Yl.mN rfl rfl rfl OF|exact Yl.mL rfl rfl rfl rfl OO|exact Yl.mO rfl rfl rfl rfl OO OL|exact Yl.mM rfl rfl rfl OJ rfl))|(apply Yl.eN;(first|exact Yl.gn rfl rfl rfl rfl rfl rfl Pi|exact Yl.idx rfl rfl rfl rfl rfl rfl Pi))|exact Yl.len rfl rfl rfl|exact Yl.extract rfl rfl|exact Yl.fT rfl rfl|exact Yl.fS rfl rfl|exact Yl.nilCheck rfl|exact Yl.not rfl|exact Yl.makeFunc rfl rfl|exact Yl.jW rfl rfl|exact Yl.jX rfl rfl rfl OH Pk|exact Yl.jY rfl rfl rfl OI|exact Yl.gH rfl rfl rfl rfl|exact Yl.ed underlying9 rfl rfl rfl Pi|exact Yl.dC underlying9 rfl rfl rfl Pi|exact Yl.eW underlying9 rfl rfl rfl rfl rfl Pi Pi|exact Yl.cZ rfl rfl rfl rfl rfl rfl Pi|exact Yl.nT underlying9 rfl)):db z l Q Mc Rc n (fuel+1) listed E M R:=db.q k hk hc hy h
theorem cw.fin {k:Nat} (hk:PM l.length k=true):cw z l Q Mc Rc n fuel listed k E M R:=⟨fun i hi hr=>by have:=Ac hr;have:=PX hk;omega⟩
theorem cw.skip {k:Nat} (hk:(Region.ready .any l.toArray listed).contains k=false) (h:cw z l Q Mc Rc n fuel listed (k+1) E M R):cw z l Q Mc Rc n fuel listed k E M R:=⟨fun i hi hr=>by
 rcases Qn hi with rfl|hlt
 ·have:(Region.ready .any l.toArray listed).contains k=true:=by simpa using hr
  rw[hk]at this;cases this
 ·exact h.h i hlt hr⟩
theorem cw.go {k:Nat} (h1:bA z l Q Mc Rc n fuel listed k E M R) (h:cw z l Q Mc Rc n fuel listed (k+1) E M R):cw z l Q Mc Rc n fuel listed k E M R:=⟨fun i hi hr=>by
 rcases Qn hi with rfl|hlt
 ·exact h1
 ·exact h.h i hlt hr⟩
theorem db.any (hr:(Region.ready .any l.toArray listed).isEmpty=false) (h:cw z l Q Mc Rc n fuel listed 0 E M R):db z l Q Mc Rc n (fuel+1) listed E M R:=⟨fun w hw hC hcl a ha=>
 ⟨fun h0=>(by rw[h0]at hr;cases hr),fun k hk=>(h.h k (Pu _) hk).h w hw hC hcl hk a ha⟩⟩
theorem db.pure {φ:Prop} (hp:∀w,Ok M R w→φ) (h:φ→db z l Q Mc Rc n fuel listed E M R):db z l Q Mc Rc n fuel listed E M R:=⟨fun w hw=>(h (hp w hw)).h w hw⟩
theorem bA.he (hi:l[i]?=some ⟨some d,op,ty,pos,aft,none⟩) (hd:Pt d n=true) (he:HE n op E M R φ vf Mf Rf) (hM:∀x,Mc.Sublist (Mf x)) (hR:∀x p,p∈Rc→p∈Rf x) (h:∀x,φ x→db z l Q Mc Rc n fuel (listed.setIfInBounds i true) ((d,vf x)::E) (Mf x) (Rf x)):bA z l Q Mc Rc n fuel listed i E M R:=⟨fun w hw hC hcl hr a ha=>by
 have ho:l.toArray[i]?=some ⟨some d,op,ty,pos,aft,none⟩:=by simpa using hi
 unfold vS
 simp only[ho]
 have hw':Region.wanted ⟨some d,op,ty,pos,aft,none⟩ (yielded l.toArray a.tmps)=true:=by simp[Region.wanted]
 simp only[hw',if_true]
 exact dx ((he.h w hw).h a ha _ _ _ _ _) fun v w2 ⟨x,h1,h2,h3⟩=>by
  subst h2
  exact⟨.inr (h3.sub (hM x) (hR x)),(h x h1).h w2 h3 (h3.sub (hM x) (hR x)) (hcl.set hr) _ (ha.put (by simpa using hd) _)⟩⟩
theorem bA.iO (hi:l[z]?=some ⟨none,op,ty,pos,aft,none⟩) (he:gj n op E M R φ Mf Rf) (h:∀x,φ x→ah Q n .normal E (Mf x) (Rf x)) (hr:(Region.ready .any l.toArray (listed.setIfInBounds z true)).isEmpty=true:=by decide+kernel):bA z l Q Mc Rc n fuel listed z E M R:=⟨fun w hw hC hcl hrd a ha=>by
 have ho:l.toArray[z]?=some ⟨none,op,ty,pos,aft,none⟩:=by simpa using hi
 have hr':Region.ready .any l.toArray (listed.setIfInBounds z true)=[]:=by simpa using hr
 unfold vS
 simp only[ho]
 have hw':Region.wanted ⟨none,op,ty,pos,aft,none⟩ (yielded l.toArray a.tmps)=true:=by simp[Region.wanted]
 simp only[hw',if_true]
 exact dx ((he.h w hw).h a ha _ _ _ _ _) fun v w2 ⟨x,h1,h3⟩=>
  ⟨.inl trivial,by
   cases fuel with
   |zero=>exact⟨hr',((h x h1).h w2 h3).h _ ha⟩
   |succ f=>exact⟨fun _=>((h x h1).h w2 h3).h _ ha,fun i hi=>by rw[hr']at hi;cases hi⟩⟩⟩
theorem bA.dA (f:Nat) (h:bA z l Q Mc Rc n fuel listed i E M R) (_:HD l i f=true:=by decide+kernel):bA z l Q Mc Rc n fuel listed i E M R:=h
theorem bA.lD (h:bA z l Q Mc Rc n fuel listed i E M R) (_:HC l i=true:=by decide+kernel):bA z l Q Mc Rc n fuel listed i E M R:=h
theorem bA.rr (h:bA z l Q Mc Rc n fuel listed i E M R) (_:HB l i=true:=by decide+kernel):bA z l Q Mc Rc n fuel listed i E M R:=h
end
theorem JA {g g':Prop} (h:g') (hw:eA g'→g:=by(intro hk_;(first|refine db.qa 0 rfl ?_|refine db.qa 1 rfl ?_|refine db.qa 2 rfl ?_|refine db.qa 3 rfl ?_|refine db.qa 4 rfl ?_|refine db.qa 5 rfl ?_|refine db.qa 6 rfl ?_|refine db.qa 7 rfl ?_|refine db.qa 8 rfl ?_|refine db.qa 9 rfl ?_|refine db.qa 10 rfl ?_|refine db.qa 11 rfl ?_|refine db.qa 12 rfl ?_|refine db.qa 13 rfl ?_|refine db.qa 14 rfl ?_|refine db.qa 15 rfl ?_|refine db.qa 16 rfl ?_|refine db.qa 17 rfl ?_|refine db.qa 18 rfl ?_|refine db.qa 19 rfl ?_|refine db.qa 20 rfl ?_|refine db.qa 21 rfl ?_|refine db.qa 22 rfl ?_|refine db.qa 23 rfl ?_|refine db.qa 24 rfl ?_|refine db.qa 25 rfl ?_|refine db.qa 26 rfl ?_|refine db.qa 27 rfl ?_|refine db.qa 28 rfl ?_|refine db.qa 29 rfl ?_);exact hk_.out)):g:=hw ⟨h⟩
theorem CZ {g g':Prop} (h:g') (hw:eA g'→g:=by(intro hk_;refine JA ?_;(repeat refine JA ?_);exact hk_.out)):g:=hw ⟨h⟩
theorem ck.IT {a:Int} {b:Bool} {r:List (Int×Bool)} (h:s.ps=r++[(a,b)]):s.at_=a∧s.loose=b:=by
 have e:ix s.ps (s.ps.length - 1)=(a,b):=by rw[h,Py,List.length_singleton,Nat.add_sub_cancel,gN (Px _),PU];rfl
 unfold ck.at_ ck.loose;rw[e];exact⟨rfl,rfl⟩
theorem ck.Ok.at_ (h:s.Ok):0≤s.at_∧s.at_≤s.ts.length:=by
 have:=h.some
 exact h.le _ Pi
structure ck.Wf (s:ck):Prop where
 some:0<s.ps.length
 pos:∀i,i<s.ps.length→0≤(ix s.ps i).1
 mono:∀i j,i≤j→j<s.ps.length→(ix s.ps i).1≤(ix s.ps j).1
 top:s.at_≤s.ts.length
theorem ck.Wf.ok (h:s.Wf):s.Ok:=⟨h.some,fun i hi=>⟨h.pos i hi,by
 have:=h.mono i (s.ps.length - 1) Pi Pi
 have h2:(ix s.ps (s.ps.length - 1)).1≤s.ts.length:=h.top
 omega⟩⟩
theorem ck.Wf.at_ (h:s.Wf):0≤s.at_∧s.at_≤s.ts.length:=h.ok.at_
theorem qT (h:s.Wf) (l:List Int):(aS s l).Wf:=⟨h.some,h.pos,h.mono,by have:=h.top;show s.at_≤((s.ts++l).length:Int);rw[Py];omega⟩
theorem FJ (h:s.Wf):(aV s).Wf:=by
 have e:(aV s).at_=(s.ts.length:Int):=(ck.IT (s:=aV s) (a:=(s.ts.length:Int)) (b:=false) (r:=s.ps) rfl).1
 have e2:∀i,i<s.ps.length→ix (aV s).ps i=ix s.ps i:=fun i hi=>iH hi
 have e3:(ix (aV s).ps s.ps.length).1=(s.ts.length:Int):=by show(ix (s.ps++[((s.ts.length:Int),false)]) s.ps.length).1=_;rw[gN (Px _),PU];rfl
 have hl:(aV s).ps.length=s.ps.length+1:=by simp[aV]
 refine⟨by rw[hl];omega,fun i hi=>?_,fun i j hij hj=>?_,by rw[e];exact Int.le_refl _⟩
 ·by_cases hlt:i<s.ps.length
  ·rw[e2 i hlt];exact h.pos i hlt
  ·have:i=s.ps.length:=by omega
   subst this;rw[e3];omega
 ·by_cases hlt:j<s.ps.length
  ·rw[e2 i Pi,e2 j hlt];exact h.mono i j hij hlt
  ·have:j=s.ps.length:=by omega
   subst this
   rw[e3]
   by_cases hi:i<s.ps.length
   ·rw[e2 i hi];exact(h.ok.le i hi).2
   ·have:i=s.ps.length:=by omega
    subst this;rw[e3];exact Int.le_refl _
theorem CW (h:s.Wf) {n:Nat} (_hn:s.at_≤n) (_hl:n≤s.ts.length):({s with ts:=s.ts.take n}:ck).Wf:=⟨h.some,h.pos,h.mono,by show s.at_≤((s.ts.take n).length:Int);rw[Pz];omega⟩
theorem dE (h:s.Wf) (l:List Int):(aL s l).1.Wf:=by
 unfold aL
 dsimp only
 split
 ·rename_i h0
  have:=jK l.reverse s.ts.length h.top h0
  exact CW h this.1 this.2
 ·exact h
theorem ft (s:ck) (l:List Int):(aL s l).1.ps=s.ps:=by unfold aL;dsimp only;split<;>rfl
theorem jm (h:s.Wf):(aZ s).1.Wf:=by
 unfold aZ
 split
 ·exact CW h Pi Pi
 ·split<;>exact h
theorem DJ (h:s.Wf):(dG s).Wf:=by
 have h0:=h.some
 have e:∀i,i<s.ps.length→(ix (s.ps.set (s.ps.length - 1) (s.at_,true)) i).1=(ix s.ps i).1:=fun i hi=>by
  rw[cz (by simpa using hi),List.getElem_set,cz hi]
  split
  ·rename_i e;subst e
   show s.at_=_
   unfold ck.at_;rw[cz Pi]
  ·rfl
 have ea:(dG s).at_=s.at_:=by
  show(ix (s.ps.set (s.ps.length - 1) (s.at_,true)) ((s.ps.set (s.ps.length - 1) (s.at_,true)).length - 1)).1=_
  rw[List.length_set,e _ Pi];rfl
 have hl:(dG s).ps.length=s.ps.length:=List.length_set
 have h2:=h.at_
 refine⟨by rw[hl];exact h0,fun i hi=>?_,fun i j hij hj=>?_,?_⟩
 ·rw[hl]at hi
  show 0≤(ix (s.ps.set (s.ps.length - 1) (s.at_,true)) i).1
  rw[e i hi];exact h.pos i hi
 ·rw[hl]at hj
  show(ix (s.ps.set (s.ps.length - 1) (s.at_,true)) i).1≤(ix (s.ps.set (s.ps.length - 1) (s.at_,true)) j).1
  rw[e i Pi,e j hj];exact h.mono i j hij hj
 ·rw[ea]
  show s.at_≤((s.ts.take s.at_.toNat).length:Int)
  rw[Pz];omega
theorem jk {α:Type} [Inhabited α] {l:List α} {n i:Nat} (_hi:i<n) (_hl:n≤l.length):ix (l.take n) i=ix l i:=by
 rw[cz OZ,cz Pi];simp
theorem vr (h:s.Wf) (l:List Int):(cQ s l).1.Wf:=by
 unfold cQ
 dsimp only
 split
 ·exact h
 ·rename_i h0
  split
  ·exact h
  ·rename_i h1
   have h2:=jK l.reverse s.ts.length h.top Pi
   have h3:=h.at_
   have h4:=h.some
   by_cases h5:s.ps.length=1
   ·rw[if_pos h5]
    refine⟨by simp,fun i hi=>?_,fun i j hij hj=>?_,?_⟩
    ·have:i=0:=by simpa using hi
     subst this;exact Int.le_refl _
    ·have:j=0:=by simpa using hj
     subst this
     have:i=0:=by omega
     subst this;exact Int.le_refl _
    ·show(0:Int)≤((s.ts.take _).length:Int);omega
   ·rw[if_neg h5]
    have hl:(s.ps.take (s.ps.length - 1)).length=s.ps.length - 1:=by rw[Pz];omega
    refine⟨by dsimp only;rw[hl];omega,fun i hi=>?_,fun i j hij hj=>?_,?_⟩
    ·dsimp only at hi ⊢;rw[hl]at hi;rw[jk hi Pi];exact h.pos i Pi
    ·dsimp only at hj ⊢;rw[hl]at hj;rw[jk hj Pi,jk Pi Pi];exact h.mono i j hij Pi
    ·show(ix (s.ps.take (s.ps.length - 1)) ((s.ps.take (s.ps.length - 1)).length - 1)).1≤((s.ts.take (eV s l.reverse s.ts.length).1).length:Int)
     rw[hl,jk Pi Pi]
     have h6:=h.mono (s.ps.length - 1 - 1) (s.ps.length - 1) Pi Pi
     have h7:(ix s.ps (s.ps.length - 1)).1=s.at_:=rfl
     rw[Pz];omega
theorem vq {l:List Int} (h:(cQ s l).2=0):(cQ s l).1.ps=if s.ps.length=1 then[(0,false)]else s.ps.take (s.ps.length - 1):=by
 unfold cQ at h ⊢
 dsimp only at h ⊢
 split at h
 ·contradiction
 ·rename_i h0
  rw[if_neg h0]
  split at h
  ·cases h
  ·rename_i h1
   rw[if_neg h1]
structure zh (fs:List n7):Prop where
 kinds:∀i,i<fs.length→(ix fs i).kind=0∨(ix fs i).kind=2∨(ix fs i).kind=3∨(ix fs i).kind=4
 other:∀i,i<fs.length→(ix fs i).other=true→(ix fs i).kind=4
 first:0<fs.length→(ix fs 0).lq=true∧(ix fs 0).kind=0
theorem zh.snoc (h:zh fs) (hk:f.kind=0∨f.kind=2∨f.kind=3∨f.kind=4) (ho:f.other=true→f.kind=4) (hw:0<fs.length):zh (fs++[f]):=by
 have hl:(fs++[f]).length=fs.length+1:=by simp
 have e:∀i,i<fs.length→ix (fs++[f]) i=ix fs i:=fun i hi=>iH hi
 have e2:ix (fs++[f]) fs.length=f:=by rw[gN (Px _),PU];rfl
 refine⟨fun i hi=>?_,fun i hi=>?_,fun _=>by rw[e 0 hw];exact h.first hw⟩
 ·by_cases hlt:i<fs.length
  ·rw[e i hlt];exact h.kinds i hlt
  ·have:i=fs.length:=by omega
   subst this;rw[e2];exact hk
 ·by_cases hlt:i<fs.length
  ·rw[e i hlt];exact h.other i hlt
  ·have:i=fs.length:=by omega
   subst this;rw[e2];exact ho
theorem zh.take (h:zh fs) {n:Nat} (hn:n≤fs.length):zh (fs.take n):=by
 have hl:(fs.take n).length=n:=by rw[Pz];omega
 refine⟨fun i hi=>?_,fun i hi=>?_,fun h0=>?_⟩
 ·rw[hl]at hi;rw[jk hi hn];exact h.kinds i Pi
 ·rw[hl]at hi;rw[jk hi hn];exact h.other i Pi
 ·rw[hl]at h0;rw[jk h0 hn];exact h.first Pi
structure dv.Wf (c:dv):Prop where
 ao:c.ao.Wf
 many:c.ao.ps.length=c.fs.length+1
 fr:zh c.fs
 ended:c.fs.length=0→c.live=true
theorem G1 (r:List Int):(jP r).Wf:=by
 refine⟨⟨by simp[jP],fun i hi=>?_,fun i j hij hj=>?_,show(0:Int)≤0 from Int.le_refl _⟩,rfl,⟨fun i hi=>?_,fun i hi h=>?_,fun _=>⟨rfl,rfl⟩⟩,fun h=>by simp[jP]at h⟩
 ·have:i=0∨i=1:=by simp[jP]at hi;omega
  rcases this with rfl|rfl<;>simp[jP,ix]
 ·have:(i=0∨i=1)∧(j=0∨j=1):=by simp[jP]at hj;omega
  obtain⟨rfl|rfl,rfl|rfl⟩:=this<;>simp[jP,ix]
 ·have:i=0:=by simp[jP]at hi;exact hi
  subst this;exact .inl rfl
 ·have:i=0:=by simp[jP]at hi;exact hi
  subst this;cases h
theorem xc (hs:s.Wf) (hm:s.ps.length=fs.length+1) (hf:zh (fs++[f])):(gX c s fs f).Wf:=
 ⟨qT (FJ hs) _,by show(s.ps++[((s.ts.length:Int),false)]).length=(fs++[f]).length+1;simp[hm],hf,fun h=>by have h':(fs++[f]).length=0:=h;simp at h'⟩
theorem Dp (h:c.Wf) (op:Int) (par res:List Int):(ju c op par res).1.Wf:=by
 unfold ju
 split
 ·exact h
 ·split
  ·exact h
  ·rename_i hop
   split
   ·exact h
   ·rename_i hn
    have ha:(if op=4 then aL c.ao [1]else(c.ao,0)).1.Wf∧(if op=4 then aL c.ao [1]else(c.ao,0)).1.ps=c.ao.ps:=by
     split
     ·exact⟨dE h.ao _,ft _ _⟩
     ·exact⟨h.ao,rfl⟩
    revert ha
    generalize (if op=4 then aL c.ao [1]else(c.ao,0))=a
    intro ha
    dsimp only
    split
    ·exact⟨h.ao,h.many,h.fr,h.ended⟩
    ·split
     ·exact⟨ha.1,by show a.1.ps.length=_;rw[ha.2];exact h.many,h.fr,h.ended⟩
     ·exact xc (dE ha.1 _) (by rw[ft,ha.2];exact h.many) (h.fr.snoc O6 (fun h=>by cases h) Pi)
theorem E9 (h:c.Wf):(mF c).1.Wf:=by
 unfold mF
 split
 ·exact h
 ·split
  ·exact h
  ·rename_i hb hn
   simp only[not_or,Bool.not_eq_true]at hn
   obtain⟨h0,h4,h5⟩:=hn
   have h4':c.top.kind=4:=by omega
   dsimp only
   split
   ·exact⟨h.ao,h.many,h.fr,h.ended⟩
   ·rename_i he
    have hl:1<c.fs.length:=by
     rcases Nat.lt_or_ge 1 c.fs.length with h1|h1
     ·exact h1
     ·have h6:c.fs.length - 1=0:=by omega
      have:=(h.fr.first Pi).2
      have h7:(ix c.fs (c.fs.length - 1)).kind=4:=h4'
      rw[h6]at h7;omega
    refine xc (vr h.ao _) ?_ ?_
    ·have hm:=h.many
     rw[vq Pi,if_neg Pi,Pz,Pz];omega
    ·exact(h.fr.take Pi).snoc (.inr (.inr (.inr h4'))) (fun _=>h4') OZ
theorem DG (h:c.Wf):(kb c).1.Wf:=by
 unfold kb
 split
 ·exact h
 ·split
  ·exact h
  ·rename_i hb h0
   dsimp only
   have hm:=h.many
   split
   ·exact⟨h.ao,h.many,h.fr,h.ended⟩
   ·rename_i he
    have hps:(cQ c.ao c.top.res).1.ps.length=c.fs.length:=by
     rw[vq Pi,if_neg Pi,Pz];omega
    have hfl:(c.fs.take (c.fs.length - 1)).length=c.fs.length - 1:=by rw[Pz];omega
    split
    ·rename_i hk
     refine⟨vr h.ao _,by show(cQ c.ao c.top.res).1.ps.length=(c.fs.take (c.fs.length - 1)).length+1;omega,h.fr.take Pi,fun hz=>?_⟩
     have hz':(c.fs.take (c.fs.length - 1)).length=0:=hz
     have h6:c.fs.length - 1=0:=by omega
     have h7:(ix c.fs (c.fs.length - 1)).kind=4:=hk.1
     rw[h6]at h7
     have:=(h.fr.first Pi).2
     omega
    ·refine⟨qT (vr h.ao _) _,by show(cQ c.ao c.top.res).1.ps.length=(c.fs.take (c.fs.length - 1)).length+1;omega,h.fr.take Pi,fun hz=>?_⟩
     have hz':(c.fs.take (c.fs.length - 1)).length=0:=hz
     have h6:c.fs.length - 1=0:=by omega
     show(ix c.fs (c.fs.length - 1)).lq=true
     rw[h6];exact(h.fr.first Pi).1
theorem E6 (h:c.Wf):(iG c).Wf:=by
 unfold iG
 split
 ·exact h
 ·rename_i hn
  simp only[not_or]at hn
  exact⟨DJ h.ao,by show(c.ao.ps.set _ _).length=_;rw[List.length_set];exact h.many,h.fr,fun hz=>absurd hz hn.2⟩
end Go.Proofs.YtdkcljdfbemnbaaGreatDoor
