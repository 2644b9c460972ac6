/- Plain laws: the signature of an instruction in its context (layer 23), and which instructions are plain (layer 5). -/
import Derived.Test.YtdkcljdfbemnbaaGreatDoorJRt
import Derived.Test.YtdkcljdfbemnbaaGreatDoorJW2
import Derived.Test.YtdkcljdfbemnbaaGreatDoorJAu
import Derived.Laws.StructEq
import Derived.Test.YtdkcljdfbemnbaaGreatDoorJAw
namespace Go.Proofs.YtdkcljdfbemnbaaGreatDoor
set_option maxRecDepth 100000
def eQ (op:Int):Int:=(eE op).2.2
def br (n:Int):Bool:=decide (0≤n) && decide (n<4294967296)
def kj (t:Int):Bool:=decide (1≤t) && decide (t≤4)
def jr (k v i:Int):Bool:=if k=0 then decide (v=0) && decide (i=0)else if k=1 then kj v && decide (i=0)else decide (k=2) && (decide (v=0) && br i)
def cW (x:cv):Bool:=
 let k:=eQ x.op
 let ab:=decide (x.a=0) && decide (x.b=0)
 if(fy x.op).isSome=false∨(k≠1∧¬(x.kind=0∧x.val=0∧x.index=0))∨(k≠3∧0<x.labels.length)∨(k≠6∧0<x.types.length)then false else
 if k=0 then ab && decide (x.n=0)else
 if k=1 then ab && decide (x.n=0) && jr x.kind x.val x.index else
 if k=3 then br x.a && decide (x.b=0) && decide (x.n=0) && x.labels.all br else
 if k=6 then ab && decide (x.n=0) && decide (x.types.length=1) && kj (ix x.types 0)else
 if k=2∨k=4∨k=7∨k=8∨k=9∨k=12∨k=16 then br x.a && decide (x.b=0) && decide (x.n=0)else
 if k=5∨k=10∨k=11∨k=14∨k=15 then br x.a && br x.b && decide (x.n=0)else
 if k=13 then decide (x.a=0) && br x.b && decide (x.n=0)else
 if k=17 then decide (0≤x.a) && decide (x.a≤63) && br x.b && decide (x.n<4294967296)else
 if k=18 then ab && decide (x.n<4294967296)else
 if k=19 then ab else(decide (x.a=3) || decide (x.a=4)) && decide (x.b=0) && decide (x.n=0)
theorem Fj:(lL.all fun r=>decide (0≤r.2.2) && decide (r.2.2≤20))=true:=by decide+kernel
variable {M M':List bu} {fn:Func} (op:Int) (n:Int) (w:World)
theorem zQ:0≤eQ op∧eQ op≤20:=by
 unfold eQ eE
 cases h:fy op with
 |none=>exact⟨by decide,by decide⟩
 |some r=>
  have:=List.all_eq_true.1 Fj r (List.mem_of_find?_eq_some h)
  simpa using this
theorem s7 {op:Int} (h:eQ op≠0):∃r∈lL,r.1=op∧r.2.2=eQ op:=by
 unfold eQ eE at*
 cases hf:fy op with
 |none=>rw[hf]at h;exact absurd rfl h
 |some r=>exact⟨r,List.mem_of_find?_eq_some hf,by have:=List.find?_some hf;simpa using this,rfl⟩
def nF (m:af) (i:Int):Bool:=decide (0≤i) && decide (i<(gI m).length) && d6 m m.aL.length i
def gH (m:af) (i:Int):Option aO:=(cJ (gI m) i).bind (cJ m.types)
def dF:aO:=⟨[],[]⟩
def da (op:Int):aO×Int:=match fP op with
 |some f=>(f,0)
 |none=>(dF,1)
def ml (op:Int):Int:=if iJ op=2 then 1 else if iJ op=4 then 2 else if iJ op=8 then 3 else 0
def cE (m:af) (locals:List Int) (x:cv):aO×Int:=
 let k:=eQ x.op
 if k=1∨k=2∨k=3 then(dF,1)else
 if k=4 then match gH m x.a with
  |none=>(dF,11)
  |some f=>if x.op=16 then(f,0)else if nF m x.a=true then da x.op else(dF,22)
 else if k=5 then match cJ m.types x.a,cJ (bL m) x.b with
  |some f,some t=>if t.elem≠3 then(dF,12)else(⟨f.params++[1],f.results⟩,0)
  |_,_=>(dF,11)
 else if k=6 then(⟨[ix x.types 0,ix x.types 0,1],[ix x.types 0]⟩,0)
 else if k=7 then
  if(locals.length:Int)≤x.a then(dF,11)else
   let t:=ix locals x.a.toNat
   if x.op=32 then(⟨[],[t]⟩,0)else if x.op=33 then(⟨[t],[]⟩,0)else(⟨[t],[t]⟩,0)
 else if k=8 then match cJ (fZ m) x.a with
  |none=>(dF,11)
  |some g=>if x.op=35 then(⟨[],[g.nQ]⟩,0)else if g.sB=false then(dF,18)else(⟨[g.nQ],[]⟩,0)
 else if k=9 then match cJ (bL m) x.a with
  |none=>(dF,11)
  |some t=>if x.op=37 then(⟨[1],[t.elem]⟩,0)else if x.op=38 then(⟨[1,t.elem],[]⟩,0)else if x.op=64528 then(⟨[],[1]⟩,0)else if x.op=64527 then(⟨[t.elem,1],[1]⟩,0)else(⟨[1,t.elem,1],[]⟩,0)
 else if k=10 then match cJ (bL m) x.a,cJ (bL m) x.b with
  |some a,some b=>if a.elem≠b.elem then(dF,12)else da x.op
  |_,_=>(dF,11)
 else if k=11 then match cJ (dN m) x.a,cJ (bL m) x.b with
  |some a,some b=>if a≠b.elem then(dF,12)else da x.op
  |_,_=>(dF,11)
 else if k=12 then if(cJ (dN m) x.a).isNone then(dF,11)else da x.op
 else if k=13∨k=14∨k=15∨k=17 then
  if k=14∧(cJ (dZ m) x.a).isNone then(dF,11)else if k=15∧(m.bg.length:Int)≤x.a then(dF,11)else if(cJ (dZ m) x.b).isNone then(dF,11)else if k=17∧ml x.op<x.a then(dF,19)else da x.op
 else if k=16 then if(m.bg.length:Int)≤x.a then(dF,11)else da x.op
 else if k=20 then(⟨[],[x.a]⟩,0)
 else da x.op
def jW (op:Int):Bool:=decide (op=2) || decide (op=3) || decide (op=4) || decide (op=5) || decide (op=11) || decide (op=0) || decide (op=12) || decide (op=13) || decide (op=14) || decide (op=15) || decide (op=26) || decide (op=27) || decide (op=209)
def kA (m:af) (locals:List Int) (x:cv):aO×Int:=if cW x=false then(dF,10)else cE m locals x
theorem C8:(lL.all fun r=>!jW r.1 || ((decide (r.2.2=1) || decide (r.2.2=2) || decide (r.2.2=3) || decide (r.2.2=0)) && (fP r.1).isNone))=true:=by decide+kernel
theorem EK (m:af) (locals:List Int) (x:cv) (h:jW x.op=true) (hk:(fy x.op).isSome=true):cE m locals x=(dF,1):=by
 obtain⟨r,hr⟩:=Option.isSome_iff_exists.1 hk
 have h1:=List.all_eq_true.1 C8 r (List.mem_of_find?_eq_some hr)
 have e:r.1=x.op:=by have:=List.find?_some hr;simpa using this
 have e2:eQ x.op=r.2.2:=by unfold eQ eE;rw[hr];rfl
 rw[e,h]at h1
 simp only[Bool.not_true,Bool.false_or,Bool.and_eq_true,Bool.or_eq_true,decide_eq_true_eq,←e2]at h1
 obtain⟨h2,h3⟩:=h1
 unfold cE
 dsimp only
 rcases h2 with((h2|h2)|h2)|h2
 ·rw[if_pos (.inl h2)]
 ·rw[if_pos (.inr (.inl h2))]
 ·rw[if_pos (.inr (.inr h2))]
 ·have h4:fP x.op=none:=by simpa using h3
  simp[h2,da,h4]
open Go.RowKit _root_.Go.Proofs.Tryz
set_option maxHeartbeats 8000000
open Bool renaming and_eq_true→Px
open List renaming all_eq_true→Pv,mem_of_find?_eq_some→PX,range→PB
open Nat renaming beq→PC,ble→PF,blt→Pn,eq_or_lt_of_le→Qh,le_of_ble_eq_true→PQ,zero_le→Po
open Value renaming int→Pf
theorem cD:Calls G.P 125 #[.int .i64 n] w fun e w'=>e=.returned (.bool (br n))∧Ext w w':=by
 refine ae (l:=[.int .i64 n]) func125 rfl ntmps125 rfl (Ok.start w) ?_
 repeat'(first|refine ar ?_|(refine bC ?_ ?_<;>intro hc_))
 all_goals exact ah.aF rfl rfl fun w' hw'=>⟨by simp_all [br]<;>omega,hw'.at⟩
theorem gh:Calls G.P 108 #[.int .i64 n] w fun e w'=>e=.returned (.bool (br n))∧Ext w w':=by
 refine ae (l:=[.int .i64 n]) func108 rfl ntmps108 rfl (Ok.start w) ?_
 repeat'(first|refine ar ?_|(refine bC ?_ ?_<;>intro hc_))
 all_goals exact ah.aF rfl rfl fun w' hw'=>⟨by simp_all [br]<;>omega,hw'.at⟩
theorem tV:Calls G.P 127 #[.int .i64 n] w fun e w'=>e=.returned (.bool (kj n))∧Ext w w':=by
 refine ae (l:=[.int .i64 n]) func127 rfl ntmps127 rfl (Ok.start w) ?_
 repeat'(first|refine ar ?_|(refine bC ?_ ?_<;>intro hc_))
 all_goals exact ah.aF rfl rfl fun w' hw'=>⟨by simp_all [kj]<;>omega,hw'.at⟩
theorem xB:Calls G.P 110 #[.int .i64 n] w fun e w'=>e=.returned (.bool (kj n))∧Ext w w':=by
 refine ae (l:=[.int .i64 n]) func110 rfl ntmps110 rfl (Ok.start w) ?_
 repeat'(first|refine ar ?_|(refine bC ?_ ?_<;>intro hc_))
 all_goals exact ah.aF rfl rfl fun w' hw'=>⟨by simp_all [kj]<;>omega,hw'.at⟩
theorem uZ (b:Bool) (p q:Int) (w:World):Calls G.P 139 #[.bool b,.int .i64 p,.int .i64 q] w fun e w'=>e=.returned (.int .i64 (if b=false then 11 else if p≠q then 12 else 0))∧Ext w w':=by
 refine ae (l:=[.bool b,.int .i64 p,.int .i64 q]) func139 rfl ntmps139 rfl (Ok.start w) ?_
 repeat'(first|refine ar ?_|(refine bC ?_ ?_<;>intro hc_))
 all_goals exact ah.aF rfl rfl fun w' hw'=>⟨by simp_all,hw'.at⟩
def Fz (t:Int):Bool:=decide (t=1) || decide (t=2)
def rE (t:Int):Bool:=decide (t=3) || decide (t=4)
theorem Hk (t:Int):(Fz t || rE t)=kj t:=by
 unfold Fz rE kj
 rw[Bool.eq_iff_iff]
 simp only[Bool.or_eq_true,Px,decide_eq_true_eq];omega
theorem Em:Calls G.P 128 #[.int .i64 n] w fun e w'=>e=.returned (.bool (Fz n))∧Ext w w':=by
 refine ae (l:=[.int .i64 n]) func128 rfl ntmps128 rfl (Ok.start w) ?_
 repeat'(first|refine ar ?_|(refine bC ?_ ?_<;>intro hc_))
 all_goals exact ah.aF rfl rfl fun w' hw'=>⟨by simp_all [Fz]<;>omega,hw'.at⟩
theorem En:Calls G.P 129 #[.int .i64 n] w fun e w'=>e=.returned (.bool (rE n))∧Ext w w':=by
 refine ae (l:=[.int .i64 n]) func129 rfl ntmps129 rfl (Ok.start w) ?_
 repeat'(first|refine ar ?_|(refine bC ?_ ?_<;>intro hc_))
 all_goals exact ah.aF rfl rfl fun w' hw'=>⟨by simp_all [rE]<;>omega,hw'.at⟩
theorem qU:Calls G.P 94 #[.int .i64 n] w fun e w'=>e=.returned (.bool (rE n))∧Ext w w':=by
 refine ae (l:=[.int .i64 n]) func94 rfl ntmps94 rfl (Ok.start w) ?_
 repeat'(first|refine ar ?_|(refine bC ?_ ?_<;>intro hc_))
 all_goals exact ah.aF rfl rfl fun w' hw'=>⟨by simp_all [rE]<;>omega,hw'.at⟩
attribute [local irreducible] Fz rE
theorem xI:Calls G.P 81 #[.int .i64 n] w fun e w'=>e=.returned (.bool (kj n))∧Ext w w':=by
 refine ae (l:=[.int .i64 n]) func81 rfl ntmps81 rfl (Ok.start w) ?_
 repeat'(first|refine ar ?_|(refine aa.au rfl rfl rfl (fun w' _=>Em n w') ?_)|(refine aa.cH (by first|rfl|exact Dm rfl eG|exact Dl rfl eG) rfl rfl rfl (fun w' _=>En n w') ?_)|(refine bC ?_ ?_<;>intro hc_))
 all_goals exact ah.aF rfl rfl fun w' hw'=>⟨by rw[←Hk];simp_all,hw'.at⟩
def vE {β:Type} (V:(Nat→Prop)→World→β→Prop):Prop:=∀{D S:Nat→Prop} {x:β} {w w':World},V D w x→bX S w w'→(∀k,k<w.heap.size→D k→¬S k)→V D w' x
def bD {β:Type} (V:(Nat→Prop)→World→β→Prop) (tf:β→Value) (F:Nat→Prop) (w:World) (e:Ending) (w':World):Prop:=(∃x,e=.returned (tf x)∧V (fun k=>F k∨w.heap.size≤k) w' x)∧Ext w w'
section
variable {ops:Array Oper} {Q:Exit→Act→World→Prop} {n:Nat} {E:Env} {M M':List bu} {R R':List (World→Prop)} {v:Value} {x y z:Operand} {t t2:TypeId} {C:World→Prop}
theorem HE.Ct {β:Type} {V:(Nat→Prop)→World→β→Prop} {tf:β→Value} {F:Nat→Prop} {w0:World} {f:Nat} {args:List Operand} {tys:Array TypeId} {vs:List Value} (hV:vE V) (hR:Ext w0∈R) (hF:∀k,F k→k<w0.heap.size) (hf:G.fb[f]?=some true) (ha:kI E args=some vs)
  (hc:∀w,Ok M R w→Calls G.P f vs.toArray w (bD V tf F w)):
  HE n (.call ⟨.value (.func f),args.toArray,tys⟩) E M R (fun x:(Nat→Prop)×β=>∀k,x.1 k→F k∨w0.heap.size≤k) (fun x=>tf x.2) (fun _=>M) (fun x=>(fun w=>V x.1 w x.2)::R):=
 ⟨fun w hw=>(bU.call hf ha (hc w hw) (fun e w' h=>by obtain⟨⟨x,e1,_⟩,_⟩:=h;exact⟨_,e1⟩)).mono fun v w' ⟨⟨x,e1,hv⟩,hx⟩=>by
  cases e1
  refine⟨(fun k=>F k∨w.heap.size≤k,x),?_,rfl,(hw.ext hx).add fun w2 h2=>hV hv h2 fun k hk1 hk hm=>?_⟩
  ·rintro k (h|h)
   ·exact .inl h
   ·exact .inr (Nat.le_trans (show Ext w0 w from hw.get hR).size h)
  ·rcases hk with hk|hk
   ·exact hw.origin (S:=fun _=>False) hR k hm (hF k hk)
   ·obtain⟨q,hq,hk'⟩:=hm
    have:=(hw.m q hq).2 k hk';omega⟩
theorem aC.tP {β:Type} {w w':World} {tf:β→Value} {φ:β→Prop} {M1:β→List bu} (x:β) (hφ:φ x) (h:Ok M R w') (hM:(M1 x).Sublist M) (hR:Ext w∈R):aC [] w tf φ M1 (.returned (tf x)) w':=
 ⟨x,rfl,hφ,h.sub hM (fun p hp=>absurd hp Pd),(show Ext w w' from h.get hR).mono (fun _ _ h=>h.elim),fun k ⟨q,hq,hk⟩ hlt=>(h.origin (S:=fun _=>False) hR k ⟨q,hM.subset hq,hk⟩ hlt).elim⟩
theorem me {P:Program} {xs ys:List Int} (d:Nat) (w:World) (hl:xs.length=ys.length):∀fs:List Field,(∀f∈fs,f.name≠ "_" ∧P.underlying f.type=some (.int .i64)∧f.offset<xs.length)→(Op.eqFields (d+1) (xs.map (Pf .i64)).toArray (ys.map (Pf .i64)).toArray fs).run P w=.ok (fs.all fun f=>decide (ix xs f.offset=ix ys f.offset)) w
 |[],_=>by simp[Op.eqFields]
 |f::fs,h=>by
  obtain⟨h0,h1,h2⟩:=h f Pd
  have ih:=me d w hl fs fun g hg=>h g (by simp[hg])
  have hg:(isAgg f.type).run P w=.ok false w:=by simp[isAgg,run_underlying h1]
  have hp:∀zs:List Int,f.offset<zs.length→(part f.type (zs.map (Pf .i64)).toArray f.offset).run P w=.ok (.int .i64 (ix zs f.offset)) w:=by
   intro zs hz
   have h2':(zs.map (Pf .i64)).toArray[f.offset]?=some (Pf .i64 (ix zs f.offset)):=by simp[cz hz,hz]
   simp only[part,Sem.run_bind,hg,Result.andThen_ok,Bool.false_eq_true,if_false]
   rw[h2'];simp
  have he:(Op.equalIn (d+1) f.type (.int .i64 (ix xs f.offset)) (.int .i64 (ix ys f.offset))).run P w=.ok (ix xs f.offset==ix ys f.offset) w:=by simp[Op.equalIn,run_underlying h1]
  simp only[Op.eqFields,h0,ne_eq,not_false_eq_true,if_true,Sem.run_bind,hp xs h2,hp ys (hl ▸ h2),Result.andThen_ok,he,Sem.run_ite,List.all_cons]
  by_cases e:ix xs f.offset=ix ys f.offset
  ·simp[e];simpa using ih
  ·simp[e]
theorem oB {xs ys:List Int} (w:World) (hl:xs.length=ys.length) (ht:G.P.underlying t=some (.struct (G.P.fieldsOf t))) (hp:G.P.stoodInHeld t=false)
  (hf:∀f∈(G.P.fieldsOf t).toList,f.name≠ "_" ∧G.P.underlying f.type=some (.int .i64)∧f.offset<xs.length) (ho:((G.P.fieldsOf t).toList.map fun f=>f.offset)=PB xs.length):(Op.equal t (.agg (xs.map (Pf .i64)).toArray) (.agg (ys.map (Pf .i64)).toArray)).run G.P w=.ok (decide (xs=ys)) w:=by
 show(Op.equalIn (9999+1) t _ _).run G.P w=_
 rw[run_equalIn_struct w 9999 t _ _ ht hp,me 9998 w hl _ hf]
 congr 1
 have e:((G.P.fieldsOf t).toList.all fun f=>decide (ix xs f.offset=ix ys f.offset))=(((G.P.fieldsOf t).toList.map fun f=>f.offset).all fun o=>decide (ix xs o=ix ys o)):=by rw[List.all_map];rfl
 rw[e,ho,Bool.eq_iff_iff]
 simp only[Pv,List.mem_range,decide_eq_true_eq]
 constructor
 ·intro h
  refine List.ext_getElem hl fun i h1 h2=>?_
  have:=h i h1
  rw[cz h1,cz h2]at this;exact this
 ·rintro rfl i _;rfl
theorem Yl.K7 (xs ys:List Int) (hx:ev E x=some (.agg (xs.map (Pf .i64)).toArray)) (hy:ev E y=some (.agg (ys.map (Pf .i64)).toArray)) (hl:xs.length=ys.length) (ht:G.P.underlying t=some (.struct (G.P.fieldsOf t))) (hp:G.P.stoodInHeld t=false) (hg:G.P.eqGuardType G.P.depth t=false)
  (hf:∀f∈(G.P.fieldsOf t).toList,f.name≠ "_" ∧G.P.underlying f.type=some (.int .i64)∧f.offset<xs.length) (ho:((G.P.fieldsOf t).toList.map fun f=>f.offset)=PB xs.length):Yl G n (.binOp .eql t x y t2) E C (.bool (decide (xs=ys))):=
 ⟨fun w _ a ha d ty pos aft gd=>by
  have h4:∀b c:Operand,(eqGuard .eql t b c (.agg (xs.map (Pf .i64)).toArray) (.agg (ys.map (Pf .i64)).toArray)).run G.P w=.ok () w:=by
   intro b c;simp[eqGuard,hg,run_program]
  simp[execOp,ha.eval hx,ha.eval hy,h4,binOp,oB w hl ht hp hf ho]⟩
theorem Yl.J3 (xs ys:List Int) (hx:ev E x=some (.agg (xs.map (Pf .i64)).toArray)) (hy:ev E y=some (.agg (ys.map (Pf .i64)).toArray)) (hl:xs.length=ys.length) (ht:G.P.underlying t=some (.struct (G.P.fieldsOf t))) (hp:G.P.stoodInHeld t=false) (hg:G.P.eqGuardType G.P.depth t=false)
  (hf:∀f∈(G.P.fieldsOf t).toList,f.name≠ "_" ∧G.P.underlying f.type=some (.int .i64)∧f.offset<xs.length) (ho:((G.P.fieldsOf t).toList.map fun f=>f.offset)=PB xs.length):Yl G n (.binOp .neq t x y t2) E C (.bool (decide (xs≠ys))):=
 ⟨fun w _ a ha d ty pos aft gd=>by
  have h4:∀b c:Operand,(eqGuard .neq t b c (.agg (xs.map (Pf .i64)).toArray) (.agg (ys.map (Pf .i64)).toArray)).run G.P w=.ok () w:=by
   intro b c;simp[eqGuard,hg,run_program]
  simp[execOp,ha.eval hx,ha.eval hy,h4,binOp,oB w hl ht hp hf ho]⟩
end
def dH (f:aO) (D:Nat→Prop) (w:World) (x:Value×Value):Prop:=ai D w x.1 f.params∧ai D w x.2 f.results
theorem dH.fr (f:aO):vE (dH f):=fun h hc hd=>⟨h.1.aP hc hd,h.2.aP hc hd⟩
theorem dH.mono {f:aO} {D H:Nat→Prop} {w:World} {x:Value×Value} (h:dH f D w x) (hd:∀k,D k→H k):dH f H w x:=⟨h.1.mono fun k _=>hd k,h.2.mono fun k _=>hd k⟩
theorem dH.nil (D:Nat→Prop) (w:World):dH dF D w (.slice none 0 0,.slice none 0 0):=⟨ai.cI _ _,ai.cI _ _⟩
def s9 (op:Int):Int:=
 if op=37∨op=38∨op=64528∨op=64527∨op=64529 then 9 else if op=64526 then 10 else if op=64524 then 11 else if op=64525 then 12 else
 if op=63∨op=64∨op=64523 then 13 else if op=64522 then 14 else if op=64520 then 15 else if op=64521 then 16 else 0
def qF (op:Int):Int:=
 if op=2∨op=3∨op=4 then 1 else if op=12∨op=13 then 2 else if op=14 then 3 else if op=16∨op=210 then 4 else if op=17 then 5 else if op=28 then 6 else
 if op=32∨op=33∨op=34 then 7 else if op=35∨op=36 then 8 else if op=65 then 18 else if op=66 then 19 else if op=208 then 20 else if 0<iJ op then 17 else s9 op
def Br:List Int:=[2,3,4,12,13,14,16,210,17,28,32,33,34,35,36,65,66,208,37,38,64528,64527,64529,64526,64524,64525,63,64,64523,64522,64520,64521]
theorem Ib:(lL.all fun r=>decide (qF r.1=r.2.2))=true:=by decide+kernel
theorem DJ:(Br.all fun c=>(fy c).isSome)=true:=by decide+kernel
theorem Ia:qF op=eQ op:=by
 cases h:fy op with
 |some r=>
  have:=Pv.1 Ib r (PX h)
  have e:r.1=op:=by have:=List.find?_some h;simpa using this
  rw[e]at this
  rw[of_decide_eq_true this]
  unfold eQ eE;rw[h];rfl
 |none=>
  have hne:∀c∈Br,op≠c:=by
   rintro c hc rfl
   have:=Pv.1 DJ _ hc
   rw[h]at this;cases this
  have hw:iJ op=0:=by rw[vA];unfold iX eE;rw[h];rfl
  have e:eQ op=0:=by unfold eQ eE;rw[h];rfl
  rw[e]
  simp only[Br,List.mem_cons,List.not_mem_nil,or_false,forall_eq_or_imp,forall_eq]at hne
  unfold qF s9
  simp[hne,hw]
theorem vQ:Calls G.P 134 #[.int .i64 op] w fun e w'=>e=.returned (.int .i64 (s9 op))∧Ext w w':=by
 refine ae (l:=[.int .i64 op]) func134 rfl ntmps134 rfl (Ok.start w) ?_
 repeat'(first|refine mq ?_|(refine gL ?_ ?_<;>(intro hc_;try subst hc_)))
 all_goals first|exact ah.aF rfl rfl fun w' hw'=>⟨rfl,hw'.at⟩|exact ah.aF rfl rfl fun w' hw'=>⟨by unfold s9;simp only[*,if_false,or_false],hw'.at⟩
theorem ic (h0:fJ w):Calls G.P 95 #[.int .i64 op] w fun e w'=>e=.returned (.int .i64 (eQ op))∧Ext w w':=by
 rw[←Ia]
 refine ae (l:=[.int .i64 op]) func95 rfl ntmps95 rfl (Ok.start w) ?_
 repeat'(first|refine mq ?_|(refine aa.aj (f:=133) ?_;refine aa.au rfl rfl rfl (fun w' hw'=>qI _ w' (h0.ext hw'.at)) ?_)|(refine aa.aj (f:=134) ?_;refine aa.au rfl rfl rfl (fun w' hw'=>vQ _ w') ?_)|(refine gL ?_ ?_<;>(intro hc_;try subst hc_)))
 all_goals first|exact ah.aF rfl rfl fun w' hw'=>⟨rfl,hw'.at⟩|exact ah.aF rfl rfl fun w' hw'=>⟨by unfold qF;simp only[*,if_true,if_false,or_false],hw'.at⟩
theorem Fin.Ax {R:Ending→World→Prop} {w:World} {n:Nat} {E:Env} {t u s:Nat} {v x y:Value} (hr:fn.results=#[.tmp t,.tmp u,.tmp s]) (hv:lk E t=some v) (hx:lk E u=some x) (hy:lk E s=some y) (hR:R (.returned (.tuple #[v,x,y])) w):Fin (bodyPost G.P fn R) n .ret E w:=
 Fin.qG (.inl rfl) (fun ac hac=>by
  have g1:ac.tmps[t]?.getD undef=v:=by have:=(hac.eq t _ hv).2;simpa using this
  have g2:ac.tmps[u]?.getD undef=x:=by have:=(hac.eq u _ hx).2;simpa using this
  have g3:ac.tmps[s]?.getD undef=y:=by have:=(hac.eq s _ hy).2;simpa using this
  simp[results,hr,g1,g2,g3]) hR
theorem ah.Ax {Rp:Ending→World→Prop} {n:Nat} {E:Env} {M:List bu} {R:List (World→Prop)} {t u s:Nat} {v x y:Value} (hr:fn.results=#[.tmp t,.tmp u,.tmp s]) (hv:lk E t=some v) (hx:lk E u=some x) (hy:lk E s=some y) (hR:∀w,Ok M R w→Rp (.returned (.tuple #[v,x,y])) w):ah (bodyPost G.P fn Rp) n .ret E M R:=⟨fun w hw=>Fin.Ax hr hv hx hy (hR w hw)⟩
def HA (P:Program) (t n:Nat):Bool:=((P.fieldsOf t).toList.all fun f=>f.name != "_" && (match P.underlying f.type with|some (.int .i64)=>true|_=>false) && Pn f.offset n) && (((P.fieldsOf t).toList.map fun f=>f.offset)==PB n)
theorem qE {P:Program} {t n:Nat} (h:HA P t n=true):(∀f∈(P.fieldsOf t).toList,f.name≠ "_" ∧P.underlying f.type=some (.int .i64)∧f.offset<n)∧((P.fieldsOf t).toList.map fun f=>f.offset)=PB n:=by
 unfold HA at h
 rw[Px]at h
 refine⟨fun f hf=>?_,by simpa using h.2⟩
 have:=Pv.1 h.1 f hf
 simp only[Px,bne_iff_ne,ne_eq]at this
 obtain⟨⟨h1,h2⟩,h3⟩:=this
 refine⟨h1,?_,by simpa using h3⟩
 split at h2
 ·assumption
 ·cases h2
abbrev C3:Nat:=66
theorem Yl.JQ {n:Nat} {E:Env} {C:World→Prop} {x y:Operand} {t2:TypeId} {a b c d e f:Int} (hx:ev E x=some (.agg #[.int .i64 a,.int .i64 b,.int .i64 c])) (hy:ev E y=some (.agg #[.int .i64 d,.int .i64 e,.int .i64 f])):Yl G n (.binOp .eql C3 x y t2) E C (.bool (decide ([a,b,c]=[d,e,f]))):=
 Yl.K7 [a,b,c] [d,e,f] hx hy rfl O5 O5 O5 (qE (P:=G.P) (t:=C3) (n:=3) O5).1 (qE (P:=G.P) (t:=C3) (n:=3) O5).2
theorem Yl.xr {n:Nat} {E:Env} {C:World→Prop} {x y:Operand} {t2:TypeId} {a b c d e f:Int} (hx:ev E x=some (.agg #[.int .i64 a,.int .i64 b,.int .i64 c])) (hy:ev E y=some (.agg #[.int .i64 d,.int .i64 e,.int .i64 f])):Yl G n (.binOp .neq C3 x y t2) E C (.bool (decide ([a,b,c]≠[d,e,f]))):=
 Yl.J3 [a,b,c] [d,e,f] hx hy rfl O5 O5 O5 (qE (P:=G.P) (t:=C3) (n:=3) O5).1 (qE (P:=G.P) (t:=C3) (n:=3) O5).2
def pC (k:Int):Bool:=decide (k=2∨k=3∨k=4∨k=7∨k=8∨k=9∨k=12∨k=16∨k=20∨k=5∨k=10∨k=11∨k=14∨k=15∨k=17)
def pD (k:Int):Bool:=decide (k=5∨k=10∨k=11∨k=14∨k=15∨k=13∨k=17)
def pE (k:Int):Bool:=decide (k=17∨k=18∨k=19)
theorem zT (k:Int) (w:World):Calls G.P 123 #[.int .i64 k] w fun e w'=>e=.returned (.tuple #[.bool (pC k),.bool (pD k),.bool (pE k)])∧Ext w w':=by
 refine ae (l:=[.int .i64 k]) func123 rfl ntmps123 rfl (Ok.start w) ?_
 repeat'(first|refine mq ?_|(refine gL ?_ ?_<;>(intro hc_;try subst hc_)))
 all_goals exact ah.Ax rfl rfl rfl rfl fun w' hw'=>⟨by simp[pC,pD,pE, *],hw'.at⟩
attribute [local irreducible] br kj
theorem yr (k v i:Int) (w:World):Calls G.P 126 #[.agg #[.int .i64 k,.int .i64 v,.int .i64 i]] w fun e w'=>e=.returned (.bool (jr k v i))∧Ext w w':=by
 refine ae (l:=[.agg #[.int .i64 k,.int .i64 v,.int .i64 i]]) func126 rfl ntmps126 rfl (Ok.start w) ?_
 repeat'(first|refine mq ?_|(refine aE fun b_=>?_)|(refine aa.aG ?_;refine aa.y_ (Yl.JQ rfl rfl) rfl ?_)|(refine aa.aj (f:=127) ?_;refine aa.au rfl rfl rfl (fun w' hw'=>tV v w') ?_)|(refine aa.cQ (f:=125) ?_;refine aa.cH pF rfl rfl rfl (fun w' hw'=>cD i w') ?_)|(refine gL ?_ ?_<;>(intro hc_;try subst hc_)))
 all_goals exact ah.aF rfl rfl fun w' hw'=>⟨by simp_all [jr],hw'.at⟩
section
variable {n:Nat} {E:Env} {op:Op} {v:Value} {x y:Operand} {t t2:TypeId} {C:World→Prop}
theorem Yl.aG {bo:BinOp} (h:Yl G n (.binOp bo t x y t2) E C v):Yl G n (.binOp bo t x y t2) E C v:=h
theorem Yl.eM (h:Yl G n (.indexAddr t x y) E C v):Yl G n (.indexAddr t x y) E C v:=h
theorem Yl.isField {f:Nat} (h:Yl G n (.fieldAddr t x f) E C v):Yl G n (.fieldAddr t x f) E C v:=h
theorem Yl.dn (h:Yl G n (.load t x) E C v):Yl G n (.load t x) E C v:=h
end
section
variable {l:List Oper} {Q:Exit→Act→World→Prop} {Mc:List bu} {Rc:List (World→Prop)} {n fuel:Nat} {listed:Array Bool} {E:Env} {M M':List bu} {R:List (World→Prop)} {d:Nat} {op:Op} {ty:TypeId} {pos:String} {aft:Array Edge} {v:Value} {β:Type} {φ:β→Prop} {vf:β→Value} {Mf:β→List bu} {Rf:β→List (World→Prop)}
theorem aN.qa (k:Nat) (hk:l[k]?=some ⟨some d,op,ty,pos,aft,none⟩)
  (h:aN l Q Mc Rc n fuel (listed.setIfInBounds k true) ((d,v)::E) M R) (hc:(Region.noSelect l.toArray && (Region.ready .any l.toArray listed).contains k && Region.free .any l.toArray listed k && qi op && Pn d n)=true:=by decide+kernel) (hy:Yl G n op E (Ok Mc Rc) v:=by(first|exact Yl.move rfl|exact Yl.assign rfl|(apply Yl.aG;(first|(apply Yl.aG (bo:=.lss);(first|exact Yl.lH rfl rfl Pc|exact Yl.lG rfl rfl Pc))|(apply Yl.aG (bo:=.eql);(first|exact Yl.ly rfl rfl Pc|exact Yl.lx rfl rfl Pc))|(apply Yl.aG (bo:=.neq);(first|exact Yl.lK rfl rfl Pc|exact Yl.lJ rfl rfl Pc))|(apply Yl.aG (bo:=.leq);(first|exact Yl.lF rfl rfl Pc|exact Yl.lE rfl rfl Pc))|(apply Yl.aG (bo:=.gtr);(first|exact Yl.lC rfl rfl Pc|exact Yl.lB rfl rfl Pc))|(apply Yl.aG (bo:=.geq);(first|exact Yl.lA rfl rfl Pc|exact Yl.lz rfl rfl Pc))|exact Yl.add rfl rfl Pc|exact Yl.sub rfl rfl Pc|exact Yl.jh rfl rfl rfl rfl|exact Yl.mn underlying4 rfl rfl|exact Yl.xe rfl rfl|exact Yl.nO rfl rfl|exact Yl.nM rfl rfl Pc|fail))|(apply Yl.isField;(first|exact Yl.kR rfl rfl rfl|exact Yl.gG rfl rfl rfl|exact Yl.field rfl rfl rfl))|(apply Yl.dn;(first|exact Yl.mK rfl rfl rfl Oz|exact Yl.mI rfl rfl rfl rfl OI|exact Yl.mL rfl rfl rfl rfl OI OF|exact Yl.mJ rfl rfl rfl OD rfl))|(apply Yl.eM;(first|exact Yl.gn rfl rfl rfl rfl rfl rfl Pc|exact Yl.idx rfl rfl rfl rfl rfl rfl Pc))|exact Yl.len rfl rfl rfl|exact Yl.extract rfl rfl|exact Yl.fR rfl rfl|exact Yl.fQ rfl rfl|exact Yl.nilCheck rfl|exact Yl.not rfl|exact Yl.makeFunc rfl rfl|exact Yl.jY rfl rfl|exact Yl.jZ rfl rfl rfl OB Pe|exact Yl.ka rfl rfl rfl OC|exact Yl.gD rfl rfl rfl rfl|exact Yl.ec underlying9 rfl rfl rfl Pc|exact Yl.dC underlying9 rfl rfl rfl Pc|exact Yl.eV underlying9 rfl rfl rfl rfl rfl Pc Pc|exact Yl.cZ rfl rfl rfl rfl rfl rfl Pc|exact Yl.nN underlying9 rfl)):aN l Q Mc Rc n (fuel+1) listed E M R:=aN.q k hk hc hy h
theorem aN.qy (k:Nat) (hk:l[k]?=some ⟨some d,op,ty,pos,aft,none⟩) (hy:Yl G n op E (Ok Mc Rc) v)
  (h:aN l Q Mc Rc n fuel (listed.setIfInBounds k true) ((d,v)::E) M R) (hc:(Region.noSelect l.toArray && (Region.ready .any l.toArray listed).contains k && Region.free .any l.toArray listed k && qi op && Pn d n)=true:=by decide+kernel):aN l Q Mc Rc n (fuel+1) listed E M R:=aN.q k hk hc hy h
structure aB (l:List Oper) (Q:Exit→Act→World→Prop) (Mc:List bu) (Rc:List (World→Prop)) (n fuel:Nat) (listed:Array Bool) (k:Nat) (E:Env) (M:List bu) (R:List (World→Prop)):Prop where
 h:∀i,k≤i→i∈Region.ready .any l.toArray listed→ax l Q Mc Rc n fuel listed i E M R
theorem zZ {i:Nat} (h:i∈Region.ready .any l.toArray listed):i<l.length:=by
 obtain⟨-,o,ho,-⟩:=mem_ready.1 h
 exact(Array.getElem?_eq_some_iff.1 ho).1
theorem aB.fin {k:Nat} (hk:PF l.length k=true):aB l Q Mc Rc n fuel listed k E M R:=⟨fun i hi hr=>by have:=zZ hr;have:=PQ hk;omega⟩
theorem aB.skip {k:Nat} (hk:(Region.ready .any l.toArray listed).contains k=false) (h:aB l Q Mc Rc n fuel listed (k+1) E M R):aB l Q Mc Rc n fuel listed k E M R:=⟨fun i hi hr=>by
 rcases Qh hi with rfl|hlt
 ·have:(Region.ready .any l.toArray listed).contains k=true:=by simpa using hr
  rw[hk]at this;cases this
 ·exact h.h i hlt hr⟩
theorem aB.go {k:Nat} (h1:ax l Q Mc Rc n fuel listed k E M R) (h:aB l Q Mc Rc n fuel listed (k+1) E M R):aB l Q Mc Rc n fuel listed k E M R:=⟨fun i hi hr=>by
 rcases Qh hi with rfl|hlt
 ·exact h1
 ·exact h.h i hlt hr⟩
theorem aN.any (hr:(Region.ready .any l.toArray listed).isEmpty=false) (h:aB l Q Mc Rc n fuel listed 0 E M R):aN l Q Mc Rc n (fuel+1) listed E M R:=⟨fun w hw hC hcl a ha=>
 ⟨fun h0=>(by rw[h0]at hr;cases hr),fun k hk=>(h.h k (Po _) hk).h w hw hC hcl hk a ha⟩⟩
theorem aN.pure {φ:Prop} (hp:∀w,Ok M R w→φ) (h:φ→aN l Q Mc Rc n fuel listed E M R):aN l Q Mc Rc n fuel listed E M R:=⟨fun w hw=>(h (hp w hw)).h w hw⟩
theorem aN.zM {α:Type} (E0:α→Env) (M0:α→List bu) (R0:α→List (World→Prop))
  (rest:∀x,ah Q n .normal (E0 x) (M0 x) (R0 x)) (h:(∀x,ah Q n .normal (E0 x) (M0 x) (R0 x))→aN l Q Mc Rc n fuel listed E M R):aN l Q Mc Rc n fuel listed E M R:=h rest
end
def IX (l:List Oper) (i t:Nat):Bool:=match l[i]? with|some ⟨some _,.alloc t',_,_,_,none⟩=>PC t' t|_=>false
def Hu (l:List Oper) (i f:Nat):Bool:=match l[i]? with|some ⟨some _,.call ⟨.value (.func f'),_,_⟩,_,_,_,none⟩=>PC f' f|_=>false
def I0 (l:List Oper) (i:Nat):Bool:=match l[i]? with|some ⟨none,.store _ _ _,_,_,_,none⟩=>true|_=>false
def Ht (l:List Oper) (i:Nat):Bool:=match l[i]? with|some ⟨some _,.buildSlice _ _ _,_,_,_,none⟩=>true|_=>false
def Hs (l:List Oper) (i:Nat):Bool:=match l[i]? with|some ⟨some _,.call ⟨.builtin .append,_,_⟩,_,_,_,none⟩=>true|_=>false
section
variable {l:List Oper} {Q:Exit→Act→World→Prop} {Mc:List bu} {Rc:List (World→Prop)} {n fuel i:Nat} {listed:Array Bool} {E:Env} {M:List bu} {R:List (World→Prop)}
theorem ax.yb (t:Nat) (h:ax l Q Mc Rc n fuel listed i E M R) (_:IX l i t=true:=by decide+kernel):ax l Q Mc Rc n fuel listed i E M R:=h
theorem ax.dz (f:Nat) (h:ax l Q Mc Rc n fuel listed i E M R) (_:Hu l i f=true:=by decide+kernel):ax l Q Mc Rc n fuel listed i E M R:=h
theorem ax.nf (h:ax l Q Mc Rc n fuel listed i E M R) (_:I0 l i=true:=by decide+kernel):ax l Q Mc Rc n fuel listed i E M R:=h
theorem ax.lD (h:ax l Q Mc Rc n fuel listed i E M R) (_:Ht l i=true:=by decide+kernel):ax l Q Mc Rc n fuel listed i E M R:=h
theorem ax.rl (h:ax l Q Mc Rc n fuel listed i E M R) (_:Hs l i=true:=by decide+kernel):ax l Q Mc Rc n fuel listed i E M R:=h
end
inductive ko:List bu→List bu→Prop
 |nil {M:List bu}:ko [] M
 |cons {q:bu} {M M1 M':List bu} (h:Rm q M M1) (hs:ko M' M1):ko (q::M') M
theorem Rm.perm {q:bu} {M M':List bu} (h:Rm q M M'):M.Perm (q::M'):=by
 induction h with
 |head=>exact List.Perm.refl _
 |tail _ ih=>exact(ih.cons _).trans (List.Perm.swap _ _ _)
theorem ko.perm (h:ko M' M):∃M2,M.Perm (M'++M2):=by
 induction h with
 |nil=>exact⟨_,List.Perm.refl _⟩
 |cons hr _ ih=>
  obtain⟨M2,hp⟩:=ih
  exact⟨M2,hr.perm.trans (hp.cons _)⟩
theorem Ok.dc {R R':List (World→Prop)} {w:World} (h:Ok M R w) (hM:ko M' M) (hR:∀p,p∈R'→p∈R):Ok M' R' w:=by
 obtain⟨M2,hp⟩:=hM.perm
 exact(h.perm hp).sub (List.sublist_append_left _ _) hR
theorem dU (h:ko M' M:=by(repeat(first|exact ko.nil|refine ko.cons jK ?_))):ko M' M:=h
theorem ah.dc {Q:Exit→Act→World→Prop} {n:Nat} {e:Exit} {E E':Env} {M M':List bu} {R R':List (World→Prop)} (h:ah Q n e E' M' R') (hE:Sub E E') (hM:ko M' M) (hR:∀p,p∈R'→p∈R):ah Q n e E M R:=⟨fun w hw=>⟨fun a ha=>(h.h w (hw.dc hM hR)).h a (ha.sub hE)⟩⟩
theorem Js {g g':Prop} (h:g') (hw:eI g'→g:=by(intro hk_;(first|refine aN.qa 0 rfl ?_|refine aN.qa 1 rfl ?_|refine aN.qa 2 rfl ?_|refine aN.qa 3 rfl ?_|refine aN.qa 4 rfl ?_|refine aN.qa 5 rfl ?_|refine aN.qa 6 rfl ?_|refine aN.qa 7 rfl ?_|refine aN.qa 8 rfl ?_|refine aN.qa 9 rfl ?_|refine aN.qa 10 rfl ?_|refine aN.qa 11 rfl ?_|refine aN.qa 12 rfl ?_|refine aN.qa 13 rfl ?_|refine aN.qa 14 rfl ?_|refine aN.qa 15 rfl ?_|refine aN.qa 16 rfl ?_|refine aN.qa 17 rfl ?_|refine aN.qa 18 rfl ?_|refine aN.qa 19 rfl ?_|refine aN.qa 20 rfl ?_|refine aN.qa 21 rfl ?_|refine aN.qa 22 rfl ?_|refine aN.qa 23 rfl ?_|refine aN.qa 24 rfl ?_|refine aN.qa 25 rfl ?_|refine aN.qa 26 rfl ?_|refine aN.qa 27 rfl ?_|refine aN.qa 28 rfl ?_|refine aN.qa 29 rfl ?_);exact hk_.out)):g:=hw ⟨h⟩
theorem pG {g g':Prop} (h:g') (hw:eI g'→g:=by(intro hk_;refine Js ?_;(repeat refine Js ?_);exact hk_.out)):g:=hw ⟨h⟩
structure db (z:Nat) (l:List Oper) (Q:Exit→Act→World→Prop) (Mc:List bu) (Rc:List (World→Prop)) (n fuel:Nat) (listed:Array Bool) (E:Env) (M:List bu) (R:List (World→Prop)):Prop where
 h:∀w,Ok M R w→Ok Mc Rc w→zb .any l.toArray listed→∀a,Ag n a E→ny G.P .any l.toArray (Ok Mc Rc) z (Q .normal) fuel listed a w
structure bA (z:Nat) (l:List Oper) (Q:Exit→Act→World→Prop) (Mc:List bu) (Rc:List (World→Prop)) (n fuel:Nat) (listed:Array Bool) (i:Nat) (E:Env) (M:List bu) (R:List (World→Prop)):Prop where
 h:∀w,Ok M R w→Ok Mc Rc w→zb .any l.toArray listed→i∈Region.ready .any l.toArray listed→∀a,Ag n a E→vN G.P l.toArray (Ok Mc Rc) z i (ny G.P .any l.toArray (Ok Mc Rc) z (Q .normal) fuel (listed.setIfInBounds i true)) a w
structure cw (z:Nat) (l:List Oper) (Q:Exit→Act→World→Prop) (Mc:List bu) (Rc:List (World→Prop)) (n fuel:Nat) (listed:Array Bool) (k:Nat) (E:Env) (M:List bu) (R:List (World→Prop)):Prop where
 h:∀i,k≤i→i∈Region.ready .any l.toArray listed→bA z l Q Mc Rc n fuel listed i E M R
section
variable {z:Nat} {l:List Oper} {Q:Exit→Act→World→Prop} {Mc:List bu} {Rc:List (World→Prop)} {n fuel i:Nat} {listed:Array Bool} {E:Env} {M:List bu} {R:List (World→Prop)} {d:Nat} {op:Op} {ty:TypeId} {pos:String} {aft:Array Edge} {v:Value} {β:Type} {φ:β→Prop} {vf:β→Value} {Mf:β→List bu} {Rf:β→List (World→Prop)}
theorem bh.iA {id:Nat} (z:Nat) (Mc:List bu) (Rc:List (World→Prop)) (hM:Mc.Sublist M) (hR:∀p,p∈Rc→p∈R) (h:db z l Q Mc Rc n l.length (Array.replicate l.length false) E M R):bh Q n (.region id l.toArray true) E M R:=
 ⟨fun w hw=>⟨fun a ha=>wp_region_any G.mixed (nB (C:=Ok Mc Rc) (z:=z) (K:=Q .normal) (fun _ _ h=>h) _ _ _ _ (by
  have:=h.h w.drew hw.drew (hw.drew.sub hM hR) (zb.start _) a ha
  simpa using this))⟩⟩
theorem db.q (k:Nat) (hk:l[k]?=some ⟨some d,op,ty,pos,aft,none⟩) (hc:(Region.noSelect l.toArray && (Region.ready .any l.toArray listed).contains k && Region.free .any l.toArray listed k && qi op && Pn d n && sinkB .any l.toArray z && !(PC k z))=true) (hy:Yl G n op E (Ok Mc Rc) v)
  (h:db z l Q Mc Rc n fuel (listed.setIfInBounds k true) ((d,v)::E) M R):db z l Q Mc Rc n (fuel+1) listed E M R:=⟨fun w hw hC hcl a ha=>by
 simp only[Px,Bool.not_eq_true']at hc
 obtain⟨⟨⟨⟨⟨⟨h1,h2⟩,h3⟩,h4⟩,h5⟩,h6⟩,h7⟩:=hc
 have hne:k≠z:=fun e=>by subst e;simp at h7
 have ho:l.toArray[k]?=some ⟨some d,op,ty,pos,aft,none⟩:=by simpa using hk
 have hkl:k<l.toArray.size:=(Array.getElem?_eq_some_iff.1 ho).1
 have hkr:k∈Region.ready .any l.toArray listed:=by simpa using h2
 exact nz ho (Region.noSelect_spec h1) (fun _ hcl' hl _=>vm h6 hkl hne hcl' hl) hne fuel listed a w hC hcl (Region.free_spec ho h3) hkr (.inl ⟨by simp[Region.wanted],fun w hw=>hy.h w hw a ha _ _ _ _ _⟩) (h.h w hw hC (hcl.set hkr) _ (ha.put (by simpa using h5) v))⟩
theorem db.qa (k:Nat) (hk:l[k]?=some ⟨some d,op,ty,pos,aft,none⟩)
  (h:db z l Q Mc Rc n fuel (listed.setIfInBounds k true) ((d,v)::E) M R) (hc:(Region.noSelect l.toArray && (Region.ready .any l.toArray listed).contains k && Region.free .any l.toArray listed k && qi op && Pn d n && sinkB .any l.toArray z && !(PC k z))=true:=by decide+kernel) (hy:Yl G n op E (Ok Mc Rc) v:=by(first|exact Yl.move rfl|exact Yl.assign rfl|(apply Yl.aG;(first|(apply Yl.aG (bo:=.lss);(first|exact Yl.lH rfl rfl Pc|exact Yl.lG rfl rfl Pc))|(apply Yl.aG (bo:=.eql);(first|exact Yl.ly rfl rfl Pc|exact Yl.lx rfl rfl Pc))|(apply Yl.aG (bo:=.neq);(first|exact Yl.lK rfl rfl Pc|exact Yl.lJ rfl rfl Pc))|(apply Yl.aG (bo:=.leq);(first|exact Yl.lF rfl rfl Pc|exact Yl.lE rfl rfl Pc))|(apply Yl.aG (bo:=.gtr);(first|exact Yl.lC rfl rfl Pc|exact Yl.lB rfl rfl Pc))|(apply Yl.aG (bo:=.geq);(first|exact Yl.lA rfl rfl Pc|exact Yl.lz rfl rfl Pc))|exact Yl.add rfl rfl Pc|exact Yl.sub rfl rfl Pc|exact Yl.jh rfl rfl rfl rfl|exact Yl.mn underlying4 rfl rfl|exact Yl.xe rfl rfl|exact Yl.nO rfl rfl|exact Yl.nM rfl rfl Pc|fail))|(apply Yl.isField;(first|exact Yl.kR rfl rfl rfl|exact Yl.gG rfl rfl rfl|exact Yl.field rfl rfl rfl))|(apply Yl.dn;(first|exact Yl.mK rfl rfl rfl Oz|exact Yl.mI rfl rfl rfl rfl OI|exact Yl.mL rfl rfl rfl rfl OI OF|exact Yl.mJ rfl rfl rfl OD rfl))|(apply Yl.eM;(first|exact Yl.gn rfl rfl rfl rfl rfl rfl Pc|exact Yl.idx rfl rfl rfl rfl rfl rfl Pc))|exact Yl.len rfl rfl rfl|exact Yl.extract rfl rfl|exact Yl.fR rfl rfl|exact Yl.fQ rfl rfl|exact Yl.nilCheck rfl|exact Yl.not rfl|exact Yl.makeFunc rfl rfl|exact Yl.jY rfl rfl|exact Yl.jZ rfl rfl rfl OB Pe|exact Yl.ka rfl rfl rfl OC|exact Yl.gD rfl rfl rfl rfl|exact Yl.ec underlying9 rfl rfl rfl Pc|exact Yl.dC underlying9 rfl rfl rfl Pc|exact Yl.eV underlying9 rfl rfl rfl rfl rfl Pc Pc|exact Yl.cZ rfl rfl rfl rfl rfl rfl Pc|exact Yl.nN underlying9 rfl)):db z l Q Mc Rc n (fuel+1) listed E M R:=db.q k hk hc hy h
theorem cw.fin {k:Nat} (hk:PF l.length k=true):cw z l Q Mc Rc n fuel listed k E M R:=⟨fun i hi hr=>by have:=zZ hr;have:=PQ hk;omega⟩
theorem cw.skip {k:Nat} (hk:(Region.ready .any l.toArray listed).contains k=false) (h:cw z l Q Mc Rc n fuel listed (k+1) E M R):cw z l Q Mc Rc n fuel listed k E M R:=⟨fun i hi hr=>by
 rcases Qh hi with rfl|hlt
 ·have:(Region.ready .any l.toArray listed).contains k=true:=by simpa using hr
  rw[hk]at this;cases this
 ·exact h.h i hlt hr⟩
theorem cw.go {k:Nat} (h1:bA z l Q Mc Rc n fuel listed k E M R) (h:cw z l Q Mc Rc n fuel listed (k+1) E M R):cw z l Q Mc Rc n fuel listed k E M R:=⟨fun i hi hr=>by
 rcases Qh hi with rfl|hlt
 ·exact h1
 ·exact h.h i hlt hr⟩
theorem db.any (hr:(Region.ready .any l.toArray listed).isEmpty=false) (h:cw z l Q Mc Rc n fuel listed 0 E M R):db z l Q Mc Rc n (fuel+1) listed E M R:=⟨fun w hw hC hcl a ha=>
 ⟨fun h0=>(by rw[h0]at hr;cases hr),fun k hk=>(h.h k (Po _) hk).h w hw hC hcl hk a ha⟩⟩
theorem db.pure {φ:Prop} (hp:∀w,Ok M R w→φ) (h:φ→db z l Q Mc Rc n fuel listed E M R):db z l Q Mc Rc n fuel listed E M R:=⟨fun w hw=>(h (hp w hw)).h w hw⟩
theorem bA.he (hi:l[i]?=some ⟨some d,op,ty,pos,aft,none⟩) (hd:Pn d n=true) (he:HE n op E M R φ vf Mf Rf) (hM:∀x,Mc.Sublist (Mf x)) (hR:∀x p,p∈Rc→p∈Rf x) (h:∀x,φ x→db z l Q Mc Rc n fuel (listed.setIfInBounds i true) ((d,vf x)::E) (Mf x) (Rf x)):bA z l Q Mc Rc n fuel listed i E M R:=⟨fun w hw hC hcl hr a ha=>by
 have ho:l.toArray[i]?=some ⟨some d,op,ty,pos,aft,none⟩:=by simpa using hi
 unfold vN
 simp only[ho]
 have hw':Region.wanted ⟨some d,op,ty,pos,aft,none⟩ (yielded l.toArray a.tmps)=true:=by simp[Region.wanted]
 simp only[hw',if_true]
 exact dx ((he.h w hw).h a ha _ _ _ _ _) fun v w2 ⟨x,h1,h2,h3⟩=>by
  subst h2
  exact⟨.inr (h3.sub (hM x) (hR x)),(h x h1).h w2 h3 (h3.sub (hM x) (hR x)) (hcl.set hr) _ (ha.put (by simpa using hd) _)⟩⟩
theorem bA.iM (hi:l[z]?=some ⟨none,op,ty,pos,aft,none⟩) (he:gj n op E M R φ Mf Rf) (h:∀x,φ x→ah Q n .normal E (Mf x) (Rf x)) (hr:(Region.ready .any l.toArray (listed.setIfInBounds z true)).isEmpty=true:=by decide+kernel):bA z l Q Mc Rc n fuel listed z E M R:=⟨fun w hw hC hcl hrd a ha=>by
 have ho:l.toArray[z]?=some ⟨none,op,ty,pos,aft,none⟩:=by simpa using hi
 have hr':Region.ready .any l.toArray (listed.setIfInBounds z true)=[]:=by simpa using hr
 unfold vN
 simp only[ho]
 have hw':Region.wanted ⟨none,op,ty,pos,aft,none⟩ (yielded l.toArray a.tmps)=true:=by simp[Region.wanted]
 simp only[hw',if_true]
 exact dx ((he.h w hw).h a ha _ _ _ _ _) fun v w2 ⟨x,h1,h3⟩=>
  ⟨.inl trivial,by
   cases fuel with
   |zero=>exact⟨hr',((h x h1).h w2 h3).h _ ha⟩
   |succ f=>exact⟨fun _=>((h x h1).h w2 h3).h _ ha,fun i hi=>by rw[hr']at hi;cases hi⟩⟩⟩
theorem bA.dz (f:Nat) (h:bA z l Q Mc Rc n fuel listed i E M R) (_:Hu l i f=true:=by decide+kernel):bA z l Q Mc Rc n fuel listed i E M R:=h
theorem bA.lD (h:bA z l Q Mc Rc n fuel listed i E M R) (_:Ht l i=true:=by decide+kernel):bA z l Q Mc Rc n fuel listed i E M R:=h
theorem bA.rl (h:bA z l Q Mc Rc n fuel listed i E M R) (_:Hs l i=true:=by decide+kernel):bA z l Q Mc Rc n fuel listed i E M R:=h
end
theorem Jt {g g':Prop} (h:g') (hw:eI g'→g:=by(intro hk_;(first|refine db.qa 0 rfl ?_|refine db.qa 1 rfl ?_|refine db.qa 2 rfl ?_|refine db.qa 3 rfl ?_|refine db.qa 4 rfl ?_|refine db.qa 5 rfl ?_|refine db.qa 6 rfl ?_|refine db.qa 7 rfl ?_|refine db.qa 8 rfl ?_|refine db.qa 9 rfl ?_|refine db.qa 10 rfl ?_|refine db.qa 11 rfl ?_|refine db.qa 12 rfl ?_|refine db.qa 13 rfl ?_|refine db.qa 14 rfl ?_|refine db.qa 15 rfl ?_|refine db.qa 16 rfl ?_|refine db.qa 17 rfl ?_|refine db.qa 18 rfl ?_|refine db.qa 19 rfl ?_|refine db.qa 20 rfl ?_|refine db.qa 21 rfl ?_|refine db.qa 22 rfl ?_|refine db.qa 23 rfl ?_|refine db.qa 24 rfl ?_|refine db.qa 25 rfl ?_|refine db.qa 26 rfl ?_|refine db.qa 27 rfl ?_|refine db.qa 28 rfl ?_|refine db.qa 29 rfl ?_);exact hk_.out)):g:=hw ⟨h⟩
theorem CV {g g':Prop} (h:g') (hw:eI g'→g:=by(intro hk_;refine Jt ?_;(repeat refine Jt ?_);exact hk_.out)):g:=hw ⟨h⟩
end Go.Proofs.YtdkcljdfbemnbaaGreatDoor
