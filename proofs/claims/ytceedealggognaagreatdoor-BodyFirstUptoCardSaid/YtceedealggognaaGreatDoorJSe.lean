/- Small functions of layers 5, 6 and 23, by the walker for code without loops. -/
import Derived.Test.YtceedealggognaaGreatDoorJIn
import Derived.Test.YtceedealggognaaGreatDoorJIm
import Derived.Laws.StructEq
import Derived.Test.YtceedealggognaaGreatDoorJAw
import Derived.Test.YtceedealggognaaGreatDoorJW2
import Derived.Test.YtceedealggognaaGreatDoorJSb
namespace Go.Proofs.YtceedealggognaaGreatDoor
open Go.RowKit
set_option maxRecDepth 100000
theorem bE (n:Int) (w:World):Calls G.P 128 #[.int .i64 n] w fun e w'=>e=.returned (.bool (aL n))∧Ext w w':=by
 refine aj (l:=[.int .i64 n]) Tryz.func128 rfl Tryz.ntmps128 rfl (Ok.start w) ?_
 repeat'(first|refine ax ?_|(refine aO ?_ ?_<;>intro hc_))
 all_goals exact ai.aA rfl rfl fun w' hw'=>⟨by simp_all [aL]<;>omega,hw'.at⟩
theorem pf (n:Int) (w:World):Calls G.P 130 #[.int .i64 n] w fun e w'=>e=.returned (.bool (kC n))∧Ext w w':=by
 refine aj (l:=[.int .i64 n]) Tryz.func130 rfl Tryz.ntmps130 rfl (Ok.start w) ?_
 repeat'(first|refine ax ?_|(refine aO ?_ ?_<;>intro hc_))
 all_goals exact ai.aA rfl rfl fun w' hw'=>⟨by simp_all [kC]<;>omega,hw'.at⟩
theorem pF (b:Bool) (p q:Int) (w:World):Calls G.P 142 #[.bool b,.int .i64 p,.int .i64 q] w fun e w'=>e=.returned (.int .i64 (if b=false then 11 else if p≠q then 12 else 0))∧Ext w w':=by
 refine aj (l:=[.bool b,.int .i64 p,.int .i64 q]) Tryz.func142 rfl Tryz.ntmps142 rfl (Ok.start w) ?_
 repeat'(first|refine ax ?_|(refine aO ?_ ?_<;>intro hc_))
 all_goals exact ai.aA rfl rfl fun w' hw'=>⟨by simp_all,hw'.at⟩
def yR (t:Int):Bool:=decide (t=1) || decide (t=2)
def nk (t:Int):Bool:=decide (t=3) || decide (t=4)
theorem AM (t:Int):(yR t || nk t)=kC t:=by
 unfold yR nk kC
 rw[Bool.eq_iff_iff]
 simp only[Bool.or_eq_true,Bool.and_eq_true,decide_eq_true_eq];omega
theorem xK (n:Int) (w:World):Calls G.P 131 #[.int .i64 n] w fun e w'=>e=.returned (.bool (yR n))∧Ext w w':=by
 refine aj (l:=[.int .i64 n]) Tryz.func131 rfl Tryz.ntmps131 rfl (Ok.start w) ?_
 repeat'(first|refine ax ?_|(refine aO ?_ ?_<;>intro hc_))
 all_goals exact ai.aA rfl rfl fun w' hw'=>⟨by simp_all [yR]<;>omega,hw'.at⟩
theorem xL (n:Int) (w:World):Calls G.P 132 #[.int .i64 n] w fun e w'=>e=.returned (.bool (nk n))∧Ext w w':=by
 refine aj (l:=[.int .i64 n]) Tryz.func132 rfl Tryz.ntmps132 rfl (Ok.start w) ?_
 repeat'(first|refine ax ?_|(refine aO ?_ ?_<;>intro hc_))
 all_goals exact ai.aA rfl rfl fun w' hw'=>⟨by simp_all [nk]<;>omega,hw'.at⟩
theorem mV (n:Int) (w:World):Calls G.P 97 #[.int .i64 n] w fun e w'=>e=.returned (.bool (nk n))∧Ext w w':=by
 refine aj (l:=[.int .i64 n]) Tryz.func97 rfl Tryz.ntmps97 rfl (Ok.start w) ?_
 repeat'(first|refine ax ?_|(refine aO ?_ ?_<;>intro hc_))
 all_goals exact ai.aA rfl rfl fun w' hw'=>⟨by simp_all [nk]<;>omega,hw'.at⟩
attribute [local irreducible] yR nk
set_option maxHeartbeats 4000000 in
theorem rk (n:Int) (w:World):Calls G.P 84 #[.int .i64 n] w fun e w'=>e=.returned (.bool (kC n))∧Ext w w':=by
 refine aj (l:=[.int .i64 n]) Tryz.func84 rfl Tryz.ntmps84 rfl (Ok.start w) ?_
 repeat'(first|refine ax ?_|(refine aa.az rfl rfl rfl (fun w' _=>xK n w') ?_)|(refine aa.dV (by first|rfl|exact wQ rfl dp|exact wO rfl dp) rfl rfl rfl (fun w' _=>xL n w') ?_)|(refine aO ?_ ?_<;>intro hc_))
 all_goals exact ai.aA rfl rfl fun w' hw'=>⟨by rw[←AM];simp_all,hw'.at⟩
end Go.Proofs.YtceedealggognaaGreatDoor
namespace Go.Proofs.YtceedealggognaaGreatDoor
open Go.RowKit
set_option maxRecDepth 100000
def Bi {β:Type} (V:(Nat→Prop)→World→β→Prop):Prop:=∀{D S:Nat→Prop} {x:β} {w w':World},V D w x→bA S w w'→(∀k,k<w.heap.size→D k→¬S k)→V D w' x
def fj {β:Type} (V:(Nat→Prop)→World→β→Prop) (tf:β→Value) (F:Nat→Prop) (w:World) (e:Ending) (w':World):Prop:=(∃x,e=.returned (tf x)∧V (fun k=>F k∨w.heap.size≤k) w' x)∧Ext w w'
section
variable {ops:Array Oper} {Q:Exit→Act→World→Prop} {n:Nat} {E:Env} {M M':List aV} {R R':List (World→Prop)} {v:Value} {x y z:Operand} {t t2:TypeId} {C:World→Prop}
theorem HE.vM {β:Type} {V:(Nat→Prop)→World→β→Prop} {tf:β→Value} {F:Nat→Prop} {w0:World} {f:Nat} {args:List Operand} {tys:Array TypeId} {vs:List Value} (hV:Bi V) (hR:Ext w0∈R) (hF:∀k,F k→k<w0.heap.size) (hf:G.fb[f]?=some true) (ha:ju E args=some vs)
  (hc:∀w,Ok M R w→Calls G.P f vs.toArray w (fj V tf F w)):
  HE n (.call ⟨.value (.func f),args.toArray,tys⟩) E M R (fun x:(Nat→Prop)×β=>∀k,x.1 k→F k∨w0.heap.size≤k) (fun x=>tf x.2) (fun _=>M) (fun x=>(fun w=>V x.1 w x.2)::R):=
 ⟨fun w hw=>(bB.call hf ha (hc w hw) (fun e w' h=>by obtain⟨⟨x,e1,_⟩,_⟩:=h;exact⟨_,e1⟩)).mono fun v w' ⟨⟨x,e1,hv⟩,hx⟩=>by
  cases e1
  refine⟨(fun k=>F k∨w.heap.size≤k,x),?_,rfl,(hw.ext hx).add fun w2 h2=>hV hv h2 fun k hk1 hk hm=>?_⟩
  ·rintro k (h|h)
   ·exact .inl h
   ·exact .inr (Nat.le_trans (show Ext w0 w from hw.get hR).size h)
  ·rcases hk with hk|hk
   ·exact hw.origin (S:=fun _=>False) hR k hm (hF k hk)
   ·obtain⟨q,hq,hk'⟩:=hm
    have:=(hw.m q hq).2 k hk';omega⟩
theorem aq.uy {β:Type} {w w':World} {tf:β→Value} {φ:β→Prop} {M1:β→List aV} (x:β) (hφ:φ x) (h:Ok M R w') (hM:(M1 x).Sublist M) (hR:Ext w∈R):aq [] w tf φ M1 (.returned (tf x)) w':=
 ⟨x,rfl,hφ,h.sub hM (fun p hp=>absurd hp Hc),(show Ext w w' from h.get hR).mono (fun _ _ h=>h.elim),fun k ⟨q,hq,hk⟩ hlt=>(h.origin (S:=fun _=>False) hR k ⟨q,hM.subset hq,hk⟩ hlt).elim⟩
theorem jf {P:Program} {xs ys:List Int} (d:Nat) (w:World) (hl:xs.length=ys.length):∀fs:List Field,(∀f∈fs,f.name≠ "_" ∧P.underlying f.type=some (.int .i64)∧f.offset<xs.length)→(Op.eqFields (d+1) (xs.map (Value.int .i64)).toArray (ys.map (Value.int .i64)).toArray fs).run P w=.ok (fs.all fun f=>decide (ix xs f.offset=ix ys f.offset)) w
 |[],_=>by simp[Op.eqFields]
 |f::fs,h=>by
  obtain⟨h0,h1,h2⟩:=h f Hc
  have ih:=jf d w hl fs fun g hg=>h g (by simp[hg])
  have hg:(isAgg f.type).run P w=.ok false w:=by simp[isAgg,run_underlying h1]
  have hp:∀zs:List Int,f.offset<zs.length→(part f.type (zs.map (Value.int .i64)).toArray f.offset).run P w=.ok (.int .i64 (ix zs f.offset)) w:=by
   intro zs hz
   have h2':(zs.map (Value.int .i64)).toArray[f.offset]?=some (Value.int .i64 (ix zs f.offset)):=by simp[cw hz,hz]
   simp only[part,Sem.run_bind,hg,Result.andThen_ok,Bool.false_eq_true,if_false]
   rw[h2'];simp
  have he:(Op.equalIn (d+1) f.type (.int .i64 (ix xs f.offset)) (.int .i64 (ix ys f.offset))).run P w=.ok (ix xs f.offset==ix ys f.offset) w:=by simp[Op.equalIn,run_underlying h1]
  simp only[Op.eqFields,h0,ne_eq,not_false_eq_true,if_true,Sem.run_bind,hp xs h2,hp ys (hl ▸ h2),Result.andThen_ok,he,Sem.run_ite,List.all_cons]
  by_cases e:ix xs f.offset=ix ys f.offset
  ·simp[e];simpa using ih
  ·simp[e]
theorem kT {xs ys:List Int} (w:World) (hl:xs.length=ys.length) (ht:G.P.underlying t=some (.struct (G.P.fieldsOf t))) (hp:G.P.stoodInHeld t=false)
  (hf:∀f∈(G.P.fieldsOf t).toList,f.name≠ "_" ∧G.P.underlying f.type=some (.int .i64)∧f.offset<xs.length) (ho:((G.P.fieldsOf t).toList.map fun f=>f.offset)=List.range xs.length):(Op.equal t (.agg (xs.map (Value.int .i64)).toArray) (.agg (ys.map (Value.int .i64)).toArray)).run G.P w=.ok (decide (xs=ys)) w:=by
 show(Op.equalIn (9999+1) t _ _).run G.P w=_
 rw[run_equalIn_struct w 9999 t _ _ ht hp,jf 9998 w hl _ hf]
 congr 1
 have e:((G.P.fieldsOf t).toList.all fun f=>decide (ix xs f.offset=ix ys f.offset))=(((G.P.fieldsOf t).toList.map fun f=>f.offset).all fun o=>decide (ix xs o=ix ys o)):=by rw[List.all_map];rfl
 rw[e,ho,Bool.eq_iff_iff]
 simp only[List.all_eq_true,List.mem_range,decide_eq_true_eq]
 constructor
 ·intro h
  refine List.ext_getElem hl fun i h1 h2=>?_
  have:=h i h1
  rw[cw h1,cw h2]at this;exact this
 ·rintro rfl i _;rfl
theorem Yl.ES (xs ys:List Int) (hx:ev E x=some (.agg (xs.map (Value.int .i64)).toArray)) (hy:ev E y=some (.agg (ys.map (Value.int .i64)).toArray)) (hl:xs.length=ys.length) (ht:G.P.underlying t=some (.struct (G.P.fieldsOf t))) (hp:G.P.stoodInHeld t=false) (hg:G.P.eqGuardType G.P.depth t=false)
  (hf:∀f∈(G.P.fieldsOf t).toList,f.name≠ "_" ∧G.P.underlying f.type=some (.int .i64)∧f.offset<xs.length) (ho:((G.P.fieldsOf t).toList.map fun f=>f.offset)=List.range xs.length):Yl G n (.binOp .eql t x y t2) E C (.bool (decide (xs=ys))):=
 ⟨fun w _ a ha d ty pos aft gd=>by
  have h4:∀b c:Operand,(eqGuard .eql t b c (.agg (xs.map (Value.int .i64)).toArray) (.agg (ys.map (Value.int .i64)).toArray)).run G.P w=.ok () w:=by
   intro b c;simp[eqGuard,hg,run_program]
  simp[execOp,ha.eval hx,ha.eval hy,h4,binOp,kT w hl ht hp hf ho]⟩
theorem Yl.DE (xs ys:List Int) (hx:ev E x=some (.agg (xs.map (Value.int .i64)).toArray)) (hy:ev E y=some (.agg (ys.map (Value.int .i64)).toArray)) (hl:xs.length=ys.length) (ht:G.P.underlying t=some (.struct (G.P.fieldsOf t))) (hp:G.P.stoodInHeld t=false) (hg:G.P.eqGuardType G.P.depth t=false)
  (hf:∀f∈(G.P.fieldsOf t).toList,f.name≠ "_" ∧G.P.underlying f.type=some (.int .i64)∧f.offset<xs.length) (ho:((G.P.fieldsOf t).toList.map fun f=>f.offset)=List.range xs.length):Yl G n (.binOp .neq t x y t2) E C (.bool (decide (xs≠ys))):=
 ⟨fun w _ a ha d ty pos aft gd=>by
  have h4:∀b c:Operand,(eqGuard .neq t b c (.agg (xs.map (Value.int .i64)).toArray) (.agg (ys.map (Value.int .i64)).toArray)).run G.P w=.ok () w:=by
   intro b c;simp[eqGuard,hg,run_program]
  simp[execOp,ha.eval hx,ha.eval hy,h4,binOp,kT w hl ht hp hf ho]⟩
end
def fa (f:aE) (D:Nat→Prop) (w:World) (x:Value×Value):Prop:=af D w x.1 f.params∧af D w x.2 f.results
theorem fa.fr (f:aE):Bi (fa f):=fun h hc hd=>⟨h.1.aD hc hd,h.2.aD hc hd⟩
theorem fa.mono {f:aE} {D H:Nat→Prop} {w:World} {x:Value×Value} (h:fa f D w x) (hd:∀k,D k→H k):fa f H w x:=⟨h.1.mono fun k _=>hd k,h.2.mono fun k _=>hd k⟩
theorem fa.nil (D:Nat→Prop) (w:World):fa gG D w (.slice none 0 0,.slice none 0 0):=⟨af.eJ _ _,af.eJ _ _⟩
end Go.Proofs.YtceedealggognaaGreatDoor
namespace Go.Proofs.YtceedealggognaaGreatDoor
open Go.RowKit
set_option maxRecDepth 100000
def oz (op:Int):Int:=
 if op=37∨op=38∨op=64528∨op=64527∨op=64529 then 9 else if op=64526 then 10 else if op=64524 then 11 else if op=64525 then 12 else
 if op=63∨op=64∨op=64523 then 13 else if op=64522 then 14 else if op=64520 then 15 else if op=64521 then 16 else 0
def mM (op:Int):Int:=
 if op=2∨op=3∨op=4 then 1 else if op=12∨op=13 then 2 else if op=14 then 3 else if op=16∨op=210 then 4 else if op=17 then 5 else if op=28 then 6 else
 if op=32∨op=33∨op=34 then 7 else if op=35∨op=36 then 8 else if op=65 then 18 else if op=66 then 19 else if op=208 then 20 else if 0<fO op then 17 else oz op
def uW:List Int:=[2,3,4,12,13,14,16,210,17,28,32,33,34,35,36,65,66,208,37,38,64528,64527,64529,64526,64524,64525,63,64,64523,64522,64520,64521]
theorem BU:(AA.all fun r=>decide (mM r.1=r.2.2))=true:=by decide+kernel
theorem xn:(uW.all fun c=>(gV c).isSome)=true:=by decide+kernel
theorem BT (op:Int):mM op=iJ op:=by
 cases h:gV op with
 |some r=>
  have:=List.all_eq_true.1 BU r (List.mem_of_find?_eq_some h)
  have e:r.1=op:=by have:=List.find?_some h;simpa using this
  rw[e]at this
  rw[of_decide_eq_true this]
  unfold iJ np;rw[h];rfl
 |none=>
  have hne:∀c∈uW,op≠c:=by
   rintro c hc rfl
   have:=List.all_eq_true.1 xn _ hc
   rw[h]at this;cases this
  have hw:fO op=0:=by rw[uq];unfold gU np;rw[h];rfl
  have e:iJ op=0:=by unfold iJ np;rw[h];rfl
  rw[e]
  simp only[uW,List.mem_cons,List.not_mem_nil,or_false,forall_eq_or_imp,forall_eq]at hne
  unfold mM oz
  simp[hne,hw]
set_option maxHeartbeats 8000000 in
theorem ql (op:Int) (w:World):Calls G.P 137 #[.int .i64 op] w fun e w'=>e=.returned (.int .i64 (oz op))∧Ext w w':=by
 refine aj (l:=[.int .i64 op]) Tryz.func137 rfl Tryz.ntmps137 rfl (Ok.start w) ?_
 repeat'(first|refine uk ?_|(refine lC ?_ ?_<;>(intro hc_;try subst hc_)))
 all_goals first|exact ai.aA rfl rfl fun w' hw'=>⟨rfl,hw'.at⟩|exact ai.aA rfl rfl fun w' hw'=>⟨by unfold oz;simp only[*,if_false,or_false],hw'.at⟩
set_option maxHeartbeats 8000000 in
theorem eI (op:Int) (w:World) (h0:dQ w):Calls G.P 98 #[.int .i64 op] w fun e w'=>e=.returned (.int .i64 (iJ op))∧Ext w w':=by
 rw[←BT]
 refine aj (l:=[.int .i64 op]) Tryz.func98 rfl Tryz.ntmps98 rfl (Ok.start w) ?_
 repeat'(first|refine uk ?_|(refine aa.ak (f:=136) ?_;refine aa.az rfl rfl rfl (fun w' hw'=>mO _ w' (h0.ext hw'.at)) ?_)|(refine aa.ak (f:=137) ?_;refine aa.az rfl rfl rfl (fun w' hw'=>ql _ w') ?_)|(refine lC ?_ ?_<;>(intro hc_;try subst hc_)))
 all_goals first|exact ai.aA rfl rfl fun w' hw'=>⟨rfl,hw'.at⟩|exact ai.aA rfl rfl fun w' hw'=>⟨by unfold mM;simp only[*,if_true,if_false,or_false],hw'.at⟩
end Go.Proofs.YtceedealggognaaGreatDoor
namespace Go.Proofs.YtceedealggognaaGreatDoor
open Go.RowKit
set_option maxRecDepth 100000
theorem Fin.BZ {fn:Func} {R:Ending→World→Prop} {w:World} {n:Nat} {E:Env} {t u s:Nat} {v x y:Value} (hr:fn.results=#[.tmp t,.tmp u,.tmp s]) (hv:lk E t=some v) (hx:lk E u=some x) (hy:lk E s=some y) (hR:R (.returned (.tuple #[v,x,y])) w):Fin (bodyPost G.P fn R) n .ret E w:=
 Fin.nG (.inl rfl) (fun ac hac=>by
  have g1:ac.tmps[t]?.getD undef=v:=by have:=(hac.eq t _ hv).2;simpa using this
  have g2:ac.tmps[u]?.getD undef=x:=by have:=(hac.eq u _ hx).2;simpa using this
  have g3:ac.tmps[s]?.getD undef=y:=by have:=(hac.eq s _ hy).2;simpa using this
  simp[results,hr,g1,g2,g3]) hR
theorem ai.BZ {fn:Func} {Rp:Ending→World→Prop} {n:Nat} {E:Env} {M:List aV} {R:List (World→Prop)} {t u s:Nat} {v x y:Value} (hr:fn.results=#[.tmp t,.tmp u,.tmp s]) (hv:lk E t=some v) (hx:lk E u=some x) (hy:lk E s=some y) (hR:∀w,Ok M R w→Rp (.returned (.tuple #[v,x,y])) w):ai (bodyPost G.P fn Rp) n .ret E M R:=⟨fun w hw=>Fin.BZ hr hv hx hy (hR w hw)⟩
def A9 (P:Program) (t n:Nat):Bool:=((P.fieldsOf t).toList.all fun f=>f.name != "_" && (match P.underlying f.type with|some (.int .i64)=>true|_=>false) && Nat.blt f.offset n) && (((P.fieldsOf t).toList.map fun f=>f.offset)==List.range n)
theorem mL {P:Program} {t n:Nat} (h:A9 P t n=true):(∀f∈(P.fieldsOf t).toList,f.name≠ "_" ∧P.underlying f.type=some (.int .i64)∧f.offset<n)∧((P.fieldsOf t).toList.map fun f=>f.offset)=List.range n:=by
 unfold A9 at h
 rw[Bool.and_eq_true]at h
 refine⟨fun f hf=>?_,by simpa using h.2⟩
 have:=List.all_eq_true.1 h.1 f hf
 simp only[Bool.and_eq_true,bne_iff_ne,ne_eq]at this
 obtain⟨⟨h1,h2⟩,h3⟩:=this
 refine⟨h1,?_,by simpa using h3⟩
 split at h2
 ·assumption
 ·cases h2
abbrev wm:Nat:=60
theorem Yl.Dj {n:Nat} {E:Env} {C:World→Prop} {x y:Operand} {t2:TypeId} {a b c d e f:Int} (hx:ev E x=some (.agg #[.int .i64 a,.int .i64 b,.int .i64 c])) (hy:ev E y=some (.agg #[.int .i64 d,.int .i64 e,.int .i64 f])):Yl G n (.binOp .eql wm x y t2) E C (.bool (decide ([a,b,c]=[d,e,f]))):=
 Yl.ES [a,b,c] [d,e,f] hx hy rfl G7 G7 G7 (mL (P:=G.P) (t:=wm) (n:=3) G7).1 (mL (P:=G.P) (t:=wm) (n:=3) G7).2
theorem Yl.yO {n:Nat} {E:Env} {C:World→Prop} {x y:Operand} {t2:TypeId} {a b c d e f:Int} (hx:ev E x=some (.agg #[.int .i64 a,.int .i64 b,.int .i64 c])) (hy:ev E y=some (.agg #[.int .i64 d,.int .i64 e,.int .i64 f])):Yl G n (.binOp .neq wm x y t2) E C (.bool (decide ([a,b,c]≠[d,e,f]))):=
 Yl.DE [a,b,c] [d,e,f] hx hy rfl G7 G7 G7 (mL (P:=G.P) (t:=wm) (n:=3) G7).1 (mL (P:=G.P) (t:=wm) (n:=3) G7).2
def lM (k:Int):Bool:=decide (k=2∨k=3∨k=4∨k=7∨k=8∨k=9∨k=12∨k=16∨k=20∨k=5∨k=10∨k=11∨k=14∨k=15∨k=17)
def lN (k:Int):Bool:=decide (k=5∨k=10∨k=11∨k=14∨k=15∨k=13∨k=17)
def lO (k:Int):Bool:=decide (k=17∨k=18∨k=19)
set_option maxHeartbeats 8000000 in
theorem tM (k:Int) (w:World):Calls G.P 126 #[.int .i64 k] w fun e w'=>e=.returned (.tuple #[.bool (lM k),.bool (lN k),.bool (lO k)])∧Ext w w':=by
 refine aj (l:=[.int .i64 k]) Tryz.func126 rfl Tryz.ntmps126 rfl (Ok.start w) ?_
 repeat'(first|refine uk ?_|(refine lC ?_ ?_<;>(intro hc_;try subst hc_)))
 all_goals exact ai.BZ rfl rfl rfl rfl fun w' hw'=>⟨by simp[lM,lN,lO, *],hw'.at⟩
attribute [local irreducible] aL kC
set_option maxHeartbeats 8000000 in
theorem si (k v i:Int) (w:World):Calls G.P 129 #[.agg #[.int .i64 k,.int .i64 v,.int .i64 i]] w fun e w'=>e=.returned (.bool (jn k v i))∧Ext w w':=by
 refine aj (l:=[.agg #[.int .i64 k,.int .i64 v,.int .i64 i]]) Tryz.func129 rfl Tryz.ntmps129 rfl (Ok.start w) ?_
 repeat'(first|refine uk ?_|(refine bz fun b_=>?_)|(refine aa.an ?_;refine aa.y_ (Yl.Dj rfl rfl) rfl ?_)|(refine aa.ak (f:=130) ?_;refine aa.az rfl rfl rfl (fun w' hw'=>pf v w') ?_)|(refine aa.fh (f:=128) ?_;refine aa.dV xN rfl rfl rfl (fun w' hw'=>bE i w') ?_)|(refine lC ?_ ?_<;>(intro hc_;try subst hc_)))
 all_goals exact ai.aA rfl rfl fun w' hw'=>⟨by simp_all [jn],hw'.at⟩
end Go.Proofs.YtceedealggognaaGreatDoor
namespace Go.Proofs.YtceedealggognaaGreatDoor
open Go.RowKit
set_option maxRecDepth 100000
structure aK (l:List Oper) (Q:Exit→Act→World→Prop) (Mc:List aV) (Rc:List (World→Prop)) (n fuel:Nat) (listed:Array Bool) (E:Env) (M:List aV) (R:List (World→Prop)):Prop where
 h:∀w,Ok M R w→Ok Mc Rc w→sM .any l.toArray listed→∀a,Ag n a E→kf G.P .any l.toArray (Ok Mc Rc) l.length (Q .normal) fuel listed a w
structure aI (l:List Oper) (Q:Exit→Act→World→Prop) (Mc:List aV) (Rc:List (World→Prop)) (n fuel:Nat) (listed:Array Bool) (i:Nat) (E:Env) (M:List aV) (R:List (World→Prop)):Prop where
 h:∀w,Ok M R w→Ok Mc Rc w→sM .any l.toArray listed→i∈Region.ready .any l.toArray listed→∀a,Ag n a E→qi G.P l.toArray (Ok Mc Rc) l.length i (kf G.P .any l.toArray (Ok Mc Rc) l.length (Q .normal) fuel (listed.setIfInBounds i true)) a w
section
variable {l:List Oper} {Q:Exit→Act→World→Prop} {Mc:List aV} {Rc:List (World→Prop)} {n fuel:Nat} {listed:Array Bool} {E:Env} {M:List aV} {R:List (World→Prop)} {d:Nat} {op:Op} {ty:TypeId} {pos:String} {aft:Array Edge} {v:Value} {β:Type} {φ:β→Prop} {vf:β→Value} {Mf:β→List aV} {Rf:β→List (World→Prop)}
theorem aQ.de {id:Nat} (Mc:List aV) (Rc:List (World→Prop)) (hM:Mc.Sublist M) (hR:∀p,p∈Rc→p∈R) (h:aK l Q Mc Rc n l.length (Array.replicate l.length false) E M R):aQ Q n (.region id l.toArray true) E M R:=
 ⟨fun w hw=>⟨fun a ha=>wp_region_any G.mixed (ki (C:=Ok Mc Rc) (z:=l.length) (K:=Q .normal) (fun _ _ h=>h) _ _ _ _ (by
  have:=h.h w.drew hw.drew (hw.drew.sub hM hR) (sM.start _) a ha
  simpa using this))⟩⟩
theorem aK.q (k:Nat) (hk:l[k]?=some ⟨some d,op,ty,pos,aft,none⟩) (hc:(Region.noSelect l.toArray && (Region.ready .any l.toArray listed).contains k && Region.free .any l.toArray listed k && mn op && Nat.blt d n)=true) (hy:Yl G n op E (Ok Mc Rc) v)
  (h:aK l Q Mc Rc n fuel (listed.setIfInBounds k true) ((d,v)::E) M R):aK l Q Mc Rc n (fuel+1) listed E M R:=⟨fun w hw hC hcl a ha=>by
 simp only[Bool.and_eq_true]at hc
 obtain⟨⟨⟨⟨h1,h2⟩,h3⟩,h4⟩,h5⟩:=hc
 have hkl:k<l.length:=(List.getElem?_eq_some_iff.1 hk).1
 have ho:l.toArray[k]?=some ⟨some d,op,ty,pos,aft,none⟩:=by simpa using hk
 have hkr:k∈Region.ready .any l.toArray listed:=by simpa using h2
 exact kg ho (Region.noSelect_spec h1) (fun _ _ _ _=>DI) Hb fuel listed a w hC hcl (Region.free_spec ho h3) hkr (.inl ⟨by simp[Region.wanted],fun w hw=>hy.h w hw a ha _ _ _ _ _⟩) (h.h w hw hC (hcl.set hkr) _ (ha.put (by simpa using h5) v))⟩
theorem aK.nil (hr:Region.ready .any l.toArray listed=[]) (h:ai Q n .normal E M R):aK l Q Mc Rc n fuel listed E M R:=⟨fun w hw hC hcl a ha=>by
 cases fuel with
 |zero=>exact⟨hr,(h.h w hw).h a ha⟩
 |succ f=>exact⟨fun _=>(h.h w hw).h a ha,fun i hi=>by rw[hr]at hi;cases hi⟩⟩
theorem aI.he {i:Nat} (hi:l[i]?=some ⟨some d,op,ty,pos,aft,none⟩) (hd:Nat.blt d n=true) (he:HE n op E M R φ vf Mf Rf) (hM:∀x,Mc.Sublist (Mf x)) (hR:∀x p,p∈Rc→p∈Rf x) (h:∀x,φ x→aK l Q Mc Rc n fuel (listed.setIfInBounds i true) ((d,vf x)::E) (Mf x) (Rf x)):aI l Q Mc Rc n fuel listed i E M R:=⟨fun w hw hC hcl hr a ha=>by
 have ho:l.toArray[i]?=some ⟨some d,op,ty,pos,aft,none⟩:=by simpa using hi
 unfold qi
 simp only[ho]
 have hw':Region.wanted ⟨some d,op,ty,pos,aft,none⟩ (yielded l.toArray a.tmps)=true:=by simp[Region.wanted]
 simp only[hw',if_true]
 exact bZ ((he.h w hw).h a ha _ _ _ _ _) fun v w2 ⟨x,h1,h2,h3⟩=>by
  subst h2
  exact⟨.inr (h3.sub (hM x) (hR x)),(h x h1).h w2 h3 (h3.sub (hM x) (hR x)) (hcl.set hr) _ (ha.put (by simpa using hd) _)⟩⟩
theorem aI.m6 {i:Nat} (hi:l[i]?=some ⟨none,op,ty,pos,aft,none⟩) (he:gj n op E M R φ Mf Rf) (hM:∀x,Mc.Sublist (Mf x)) (hR:∀x p,p∈Rc→p∈Rf x) (h:∀x,φ x→aK l Q Mc Rc n fuel (listed.setIfInBounds i true) E (Mf x) (Rf x)):aI l Q Mc Rc n fuel listed i E M R:=⟨fun w hw hC hcl hr a ha=>by
 have ho:l.toArray[i]?=some ⟨none,op,ty,pos,aft,none⟩:=by simpa using hi
 unfold qi
 simp only[ho]
 have hw':Region.wanted ⟨none,op,ty,pos,aft,none⟩ (yielded l.toArray a.tmps)=true:=by simp[Region.wanted]
 simp only[hw',if_true]
 exact bZ ((he.h w hw).h a ha _ _ _ _ _) fun v w2 ⟨x,h1,h3⟩=>
  ⟨.inr (h3.sub (hM x) (hR x)),(h x h1).h w2 h3 (h3.sub (hM x) (hR x)) (hcl.set hr) _ ha⟩⟩
end
end Go.Proofs.YtceedealggognaaGreatDoor
namespace Go.Proofs.YtceedealggognaaGreatDoor
open Go.RowKit
set_option maxRecDepth 100000
section
variable {n:Nat} {E:Env} {op:Op} {v:Value} {x y:Operand} {t t2:TypeId} {C:World→Prop}
theorem Yl.an {bo:BinOp} (h:Yl G n (.binOp bo t x y t2) E C v):Yl G n (.binOp bo t x y t2) E C v:=h
theorem Yl.dK (h:Yl G n (.indexAddr t x y) E C v):Yl G n (.indexAddr t x y) E C v:=h
theorem Yl.isField {f:Nat} (h:Yl G n (.fieldAddr t x f) E C v):Yl G n (.fieldAddr t x f) E C v:=h
theorem Yl.bX (h:Yl G n (.load t x) E C v):Yl G n (.load t x) E C v:=h
end
section
variable {l:List Oper} {Q:Exit→Act→World→Prop} {Mc:List aV} {Rc:List (World→Prop)} {n fuel:Nat} {listed:Array Bool} {E:Env} {M M':List aV} {R:List (World→Prop)} {d:Nat} {op:Op} {ty:TypeId} {pos:String} {aft:Array Edge} {v:Value} {β:Type} {φ:β→Prop} {vf:β→Value} {Mf:β→List aV} {Rf:β→List (World→Prop)}
theorem aK.qa (k:Nat) (hk:l[k]?=some ⟨some d,op,ty,pos,aft,none⟩)
  (h:aK l Q Mc Rc n fuel (listed.setIfInBounds k true) ((d,v)::E) M R) (hc:(Region.noSelect l.toArray && (Region.ready .any l.toArray listed).contains k && Region.free .any l.toArray listed k && mn op && Nat.blt d n)=true:=by decide+kernel) (hy:Yl G n op E (Ok Mc Rc) v:=by(first|exact Yl.move rfl|exact Yl.assign rfl|(apply Yl.an;(first|(apply Yl.an (bo:=.lss);(first|exact Yl.iU rfl rfl Hb|exact Yl.iT rfl rfl Hb))|(apply Yl.an (bo:=.eql);(first|exact Yl.iL rfl rfl Hb|exact Yl.iK rfl rfl Hb))|(apply Yl.an (bo:=.neq);(first|exact Yl.iW rfl rfl Hb|exact Yl.iV rfl rfl Hb))|(apply Yl.an (bo:=.leq);(first|exact Yl.iS rfl rfl Hb|exact Yl.iR rfl rfl Hb))|(apply Yl.an (bo:=.gtr);(first|exact Yl.iQ rfl rfl Hb|exact Yl.iP rfl rfl Hb))|(apply Yl.an (bo:=.geq);(first|exact Yl.iO rfl rfl Hb|exact Yl.iN rfl rfl Hb))|exact Yl.add rfl rfl Hb|exact Yl.sub rfl rfl Hb|exact Yl.fF rfl rfl rfl rfl|exact Yl.jr Tryz.underlying4 rfl rfl|exact Yl.qJ rfl rfl|exact Yl.kA rfl rfl|exact Yl.ky rfl rfl Hb|fail))|(apply Yl.isField;(first|exact Yl.iw rfl rfl rfl|exact Yl.ep rfl rfl rfl|exact Yl.field rfl rfl rfl))|(apply Yl.bX;(first|exact Yl.jC rfl rfl rfl GH|exact Yl.jA rfl rfl rfl rfl GQ|exact Yl.jD rfl rfl rfl rfl GQ GN|exact Yl.jB rfl rfl rfl GL rfl))|(apply Yl.dK;(first|exact Yl.fX rfl rfl rfl rfl rfl rfl Hb|exact Yl.idx rfl rfl rfl rfl rfl rfl Hb))|exact Yl.len rfl rfl rfl|exact Yl.extract rfl rfl|exact Yl.dP rfl rfl|exact Yl.dO rfl rfl|exact Yl.nilCheck rfl|exact Yl.not rfl|exact Yl.fp rfl rfl rfl rfl rfl Hb|exact Yl.makeFunc rfl rfl|exact Yl.gw rfl rfl|exact Yl.gx rfl rfl rfl GJ Hd|exact Yl.gy rfl rfl rfl GK|exact Yl.eo rfl rfl rfl rfl|exact Yl.cX Tryz.underlying9 rfl rfl rfl Hb|exact Yl.cq Tryz.underlying9 rfl rfl rfl Hb|exact Yl.cn rfl rfl rfl rfl rfl rfl Hb|exact Yl.kz Tryz.underlying9 rfl)):aK l Q Mc Rc n (fuel+1) listed E M R:=aK.q k hk hc hy h
theorem aK.qy (k:Nat) (hk:l[k]?=some ⟨some d,op,ty,pos,aft,none⟩) (hy:Yl G n op E (Ok Mc Rc) v)
  (h:aK l Q Mc Rc n fuel (listed.setIfInBounds k true) ((d,v)::E) M R) (hc:(Region.noSelect l.toArray && (Region.ready .any l.toArray listed).contains k && Region.free .any l.toArray listed k && mn op && Nat.blt d n)=true:=by decide+kernel):aK l Q Mc Rc n (fuel+1) listed E M R:=aK.q k hk hc hy h
structure aC (l:List Oper) (Q:Exit→Act→World→Prop) (Mc:List aV) (Rc:List (World→Prop)) (n fuel:Nat) (listed:Array Bool) (k:Nat) (E:Env) (M:List aV) (R:List (World→Prop)):Prop where
 h:∀i,k≤i→i∈Region.ready .any l.toArray listed→aI l Q Mc Rc n fuel listed i E M R
theorem tO {i:Nat} (h:i∈Region.ready .any l.toArray listed):i<l.length:=by
 obtain⟨-,o,ho,-⟩:=mem_ready.1 h
 exact(Array.getElem?_eq_some_iff.1 ho).1
theorem aC.fin {k:Nat} (hk:Nat.ble l.length k=true):aC l Q Mc Rc n fuel listed k E M R:=⟨fun i hi hr=>by have:=tO hr;have:=Nat.le_of_ble_eq_true hk;omega⟩
theorem aC.skip {k:Nat} (hk:(Region.ready .any l.toArray listed).contains k=false) (h:aC l Q Mc Rc n fuel listed (k+1) E M R):aC l Q Mc Rc n fuel listed k E M R:=⟨fun i hi hr=>by
 rcases Nat.eq_or_lt_of_le hi with rfl|hlt
 ·have:(Region.ready .any l.toArray listed).contains k=true:=by simpa using hr
  rw[hk]at this;cases this
 ·exact h.h i hlt hr⟩
theorem aC.go {k:Nat} (h1:aI l Q Mc Rc n fuel listed k E M R) (h:aC l Q Mc Rc n fuel listed (k+1) E M R):aC l Q Mc Rc n fuel listed k E M R:=⟨fun i hi hr=>by
 rcases Nat.eq_or_lt_of_le hi with rfl|hlt
 ·exact h1
 ·exact h.h i hlt hr⟩
theorem aK.any (hr:(Region.ready .any l.toArray listed).isEmpty=false) (h:aC l Q Mc Rc n fuel listed 0 E M R):aK l Q Mc Rc n (fuel+1) listed E M R:=⟨fun w hw hC hcl a ha=>
 ⟨fun h0=>(by rw[h0]at hr;cases hr),fun k hk=>(h.h k (Nat.zero_le _) hk).h w hw hC hcl hk a ha⟩⟩
theorem aK.pure {φ:Prop} (hp:∀w,Ok M R w→φ) (h:φ→aK l Q Mc Rc n fuel listed E M R):aK l Q Mc Rc n fuel listed E M R:=⟨fun w hw=>(h (hp w hw)).h w hw⟩
theorem aK.A2 {α:Type} (E0:α→Env) (M0:α→List aV) (R0:α→List (World→Prop))
  (rest:∀x,ai Q n .normal (E0 x) (M0 x) (R0 x)) (h:(∀x,ai Q n .normal (E0 x) (M0 x) (R0 x))→aK l Q Mc Rc n fuel listed E M R):aK l Q Mc Rc n fuel listed E M R:=h rest
end
def CF (l:List Oper) (i t:Nat):Bool:=match l[i]? with|some ⟨some _,.alloc t',_,_,_,none⟩=>Nat.beq t' t|_=>false
def A1 (l:List Oper) (i f:Nat):Bool:=match l[i]? with|some ⟨some _,.call ⟨.value (.func f'),_,_⟩,_,_,_,none⟩=>Nat.beq f' f|_=>false
def CI (l:List Oper) (i:Nat):Bool:=match l[i]? with|some ⟨none,.store _ _ _,_,_,_,none⟩=>true|_=>false
def A0 (l:List Oper) (i:Nat):Bool:=match l[i]? with|some ⟨some _,.buildSlice _ _ _,_,_,_,none⟩=>true|_=>false
def AZ (l:List Oper) (i:Nat):Bool:=match l[i]? with|some ⟨some _,.call ⟨.builtin .append,_,_⟩,_,_,_,none⟩=>true|_=>false
section
variable {l:List Oper} {Q:Exit→Act→World→Prop} {Mc:List aV} {Rc:List (World→Prop)} {n fuel i:Nat} {listed:Array Bool} {E:Env} {M:List aV} {R:List (World→Prop)}
theorem aI.Aj (t:Nat) (h:aI l Q Mc Rc n fuel listed i E M R) (_:CF l i t=true:=by decide+kernel):aI l Q Mc Rc n fuel listed i E M R:=h
theorem aI.eU (f:Nat) (h:aI l Q Mc Rc n fuel listed i E M R) (_:A1 l i f=true:=by decide+kernel):aI l Q Mc Rc n fuel listed i E M R:=h
theorem aI.yF (h:aI l Q Mc Rc n fuel listed i E M R) (_:CI l i=true:=by decide+kernel):aI l Q Mc Rc n fuel listed i E M R:=h
theorem aI.wX (h:aI l Q Mc Rc n fuel listed i E M R) (_:A0 l i=true:=by decide+kernel):aI l Q Mc Rc n fuel listed i E M R:=h
theorem aI.wW (h:aI l Q Mc Rc n fuel listed i E M R) (_:AZ l i=true:=by decide+kernel):aI l Q Mc Rc n fuel listed i E M R:=h
end
inductive gK:List aV→List aV→Prop
 |nil {M:List aV}:gK [] M
 |cons {q:aV} {M M1 M':List aV} (h:Rm q M M1) (hs:gK M' M1):gK (q::M') M
theorem Rm.perm {q:aV} {M M':List aV} (h:Rm q M M'):M.Perm (q::M'):=by
 induction h with
 |head=>exact List.Perm.refl _
 |tail _ ih=>exact(ih.cons _).trans (List.Perm.swap _ _ _)
theorem gK.perm {M M':List aV} (h:gK M' M):∃M2,M.Perm (M'++M2):=by
 induction h with
 |nil=>exact⟨_,List.Perm.refl _⟩
 |cons hr _ ih=>
  obtain⟨M2,hp⟩:=ih
  exact⟨M2,hr.perm.trans (hp.cons _)⟩
theorem Ok.bV {M M':List aV} {R R':List (World→Prop)} {w:World} (h:Ok M R w) (hM:gK M' M) (hR:∀p,p∈R'→p∈R):Ok M' R' w:=by
 obtain⟨M2,hp⟩:=hM.perm
 exact(h.perm hp).sub (List.sublist_append_left _ _) hR
theorem cT {M M':List aV} (h:gK M' M:=by(repeat(first|exact gK.nil|refine gK.cons hU ?_))):gK M' M:=h
theorem ai.bV {Q:Exit→Act→World→Prop} {n:Nat} {e:Exit} {E E':Env} {M M':List aV} {R R':List (World→Prop)} (h:ai Q n e E' M' R') (hE:Sub E E') (hM:gK M' M) (hR:∀p,p∈R'→p∈R):ai Q n e E M R:=⟨fun w hw=>⟨fun a ha=>(h.h w (hw.bV hM hR)).h a (ha.sub hE)⟩⟩
theorem C0 {g g':Prop} (h:g') (hw:ek g'→g:=by(intro hk_;(first|refine aK.qa 0 rfl ?_|refine aK.qa 1 rfl ?_|refine aK.qa 2 rfl ?_|refine aK.qa 3 rfl ?_|refine aK.qa 4 rfl ?_|refine aK.qa 5 rfl ?_|refine aK.qa 6 rfl ?_|refine aK.qa 7 rfl ?_|refine aK.qa 8 rfl ?_|refine aK.qa 9 rfl ?_|refine aK.qa 10 rfl ?_|refine aK.qa 11 rfl ?_|refine aK.qa 12 rfl ?_|refine aK.qa 13 rfl ?_|refine aK.qa 14 rfl ?_|refine aK.qa 15 rfl ?_|refine aK.qa 16 rfl ?_|refine aK.qa 17 rfl ?_|refine aK.qa 18 rfl ?_|refine aK.qa 19 rfl ?_|refine aK.qa 20 rfl ?_|refine aK.qa 21 rfl ?_|refine aK.qa 22 rfl ?_|refine aK.qa 23 rfl ?_|refine aK.qa 24 rfl ?_|refine aK.qa 25 rfl ?_|refine aK.qa 26 rfl ?_|refine aK.qa 27 rfl ?_|refine aK.qa 28 rfl ?_|refine aK.qa 29 rfl ?_);exact hk_.out)):g:=hw ⟨h⟩
theorem uo {g g':Prop} (h:g') (hw:ek g'→g:=by(intro hk_;refine C0 ?_;(repeat refine C0 ?_);exact hk_.out)):g:=hw ⟨h⟩
end Go.Proofs.YtceedealggognaaGreatDoor
namespace Go.Proofs.YtceedealggognaaGreatDoor
open Go.RowKit
set_option maxRecDepth 100000
structure dh (z:Nat) (l:List Oper) (Q:Exit→Act→World→Prop) (Mc:List aV) (Rc:List (World→Prop)) (n fuel:Nat) (listed:Array Bool) (E:Env) (M:List aV) (R:List (World→Prop)):Prop where
 h:∀w,Ok M R w→Ok Mc Rc w→sM .any l.toArray listed→∀a,Ag n a E→kf G.P .any l.toArray (Ok Mc Rc) z (Q .normal) fuel listed a w
structure cI (z:Nat) (l:List Oper) (Q:Exit→Act→World→Prop) (Mc:List aV) (Rc:List (World→Prop)) (n fuel:Nat) (listed:Array Bool) (i:Nat) (E:Env) (M:List aV) (R:List (World→Prop)):Prop where
 h:∀w,Ok M R w→Ok Mc Rc w→sM .any l.toArray listed→i∈Region.ready .any l.toArray listed→∀a,Ag n a E→qi G.P l.toArray (Ok Mc Rc) z i (kf G.P .any l.toArray (Ok Mc Rc) z (Q .normal) fuel (listed.setIfInBounds i true)) a w
structure dU (z:Nat) (l:List Oper) (Q:Exit→Act→World→Prop) (Mc:List aV) (Rc:List (World→Prop)) (n fuel:Nat) (listed:Array Bool) (k:Nat) (E:Env) (M:List aV) (R:List (World→Prop)):Prop where
 h:∀i,k≤i→i∈Region.ready .any l.toArray listed→cI z l Q Mc Rc n fuel listed i E M R
section
variable {z:Nat} {l:List Oper} {Q:Exit→Act→World→Prop} {Mc:List aV} {Rc:List (World→Prop)} {n fuel i:Nat} {listed:Array Bool} {E:Env} {M:List aV} {R:List (World→Prop)} {d:Nat} {op:Op} {ty:TypeId} {pos:String} {aft:Array Edge} {v:Value} {β:Type} {φ:β→Prop} {vf:β→Value} {Mf:β→List aV} {Rf:β→List (World→Prop)}
theorem aQ.ox {id:Nat} (z:Nat) (Mc:List aV) (Rc:List (World→Prop)) (hM:Mc.Sublist M) (hR:∀p,p∈Rc→p∈R) (h:dh z l Q Mc Rc n l.length (Array.replicate l.length false) E M R):aQ Q n (.region id l.toArray true) E M R:=
 ⟨fun w hw=>⟨fun a ha=>wp_region_any G.mixed (ki (C:=Ok Mc Rc) (z:=z) (K:=Q .normal) (fun _ _ h=>h) _ _ _ _ (by
  have:=h.h w.drew hw.drew (hw.drew.sub hM hR) (sM.start _) a ha
  simpa using this))⟩⟩
theorem dh.q (k:Nat) (hk:l[k]?=some ⟨some d,op,ty,pos,aft,none⟩) (hc:(Region.noSelect l.toArray && (Region.ready .any l.toArray listed).contains k && Region.free .any l.toArray listed k && mn op && Nat.blt d n && sinkB .any l.toArray z && !(Nat.beq k z))=true) (hy:Yl G n op E (Ok Mc Rc) v)
  (h:dh z l Q Mc Rc n fuel (listed.setIfInBounds k true) ((d,v)::E) M R):dh z l Q Mc Rc n (fuel+1) listed E M R:=⟨fun w hw hC hcl a ha=>by
 simp only[Bool.and_eq_true,Bool.not_eq_true']at hc
 obtain⟨⟨⟨⟨⟨⟨h1,h2⟩,h3⟩,h4⟩,h5⟩,h6⟩,h7⟩:=hc
 have hne:k≠z:=fun e=>by subst e;simp at h7
 have ho:l.toArray[k]?=some ⟨some d,op,ty,pos,aft,none⟩:=by simpa using hk
 have hkl:k<l.toArray.size:=(Array.getElem?_eq_some_iff.1 ho).1
 have hkr:k∈Region.ready .any l.toArray listed:=by simpa using h2
 exact kg ho (Region.noSelect_spec h1) (fun _ hcl' hl _=>pO h6 hkl hne hcl' hl) hne fuel listed a w hC hcl (Region.free_spec ho h3) hkr (.inl ⟨by simp[Region.wanted],fun w hw=>hy.h w hw a ha _ _ _ _ _⟩) (h.h w hw hC (hcl.set hkr) _ (ha.put (by simpa using h5) v))⟩
theorem dh.qa (k:Nat) (hk:l[k]?=some ⟨some d,op,ty,pos,aft,none⟩)
  (h:dh z l Q Mc Rc n fuel (listed.setIfInBounds k true) ((d,v)::E) M R) (hc:(Region.noSelect l.toArray && (Region.ready .any l.toArray listed).contains k && Region.free .any l.toArray listed k && mn op && Nat.blt d n && sinkB .any l.toArray z && !(Nat.beq k z))=true:=by decide+kernel) (hy:Yl G n op E (Ok Mc Rc) v:=by(first|exact Yl.move rfl|exact Yl.assign rfl|(apply Yl.an;(first|(apply Yl.an (bo:=.lss);(first|exact Yl.iU rfl rfl Hb|exact Yl.iT rfl rfl Hb))|(apply Yl.an (bo:=.eql);(first|exact Yl.iL rfl rfl Hb|exact Yl.iK rfl rfl Hb))|(apply Yl.an (bo:=.neq);(first|exact Yl.iW rfl rfl Hb|exact Yl.iV rfl rfl Hb))|(apply Yl.an (bo:=.leq);(first|exact Yl.iS rfl rfl Hb|exact Yl.iR rfl rfl Hb))|(apply Yl.an (bo:=.gtr);(first|exact Yl.iQ rfl rfl Hb|exact Yl.iP rfl rfl Hb))|(apply Yl.an (bo:=.geq);(first|exact Yl.iO rfl rfl Hb|exact Yl.iN rfl rfl Hb))|exact Yl.add rfl rfl Hb|exact Yl.sub rfl rfl Hb|exact Yl.fF rfl rfl rfl rfl|exact Yl.jr Tryz.underlying4 rfl rfl|exact Yl.qJ rfl rfl|exact Yl.kA rfl rfl|exact Yl.ky rfl rfl Hb|fail))|(apply Yl.isField;(first|exact Yl.iw rfl rfl rfl|exact Yl.ep rfl rfl rfl|exact Yl.field rfl rfl rfl))|(apply Yl.bX;(first|exact Yl.jC rfl rfl rfl GH|exact Yl.jA rfl rfl rfl rfl GQ|exact Yl.jD rfl rfl rfl rfl GQ GN|exact Yl.jB rfl rfl rfl GL rfl))|(apply Yl.dK;(first|exact Yl.fX rfl rfl rfl rfl rfl rfl Hb|exact Yl.idx rfl rfl rfl rfl rfl rfl Hb))|exact Yl.len rfl rfl rfl|exact Yl.extract rfl rfl|exact Yl.dP rfl rfl|exact Yl.dO rfl rfl|exact Yl.nilCheck rfl|exact Yl.not rfl|exact Yl.fp rfl rfl rfl rfl rfl Hb|exact Yl.makeFunc rfl rfl|exact Yl.gw rfl rfl|exact Yl.gx rfl rfl rfl GJ Hd|exact Yl.gy rfl rfl rfl GK|exact Yl.eo rfl rfl rfl rfl|exact Yl.cX Tryz.underlying9 rfl rfl rfl Hb|exact Yl.cq Tryz.underlying9 rfl rfl rfl Hb|exact Yl.cn rfl rfl rfl rfl rfl rfl Hb|exact Yl.kz Tryz.underlying9 rfl)):dh z l Q Mc Rc n (fuel+1) listed E M R:=dh.q k hk hc hy h
theorem dU.fin {k:Nat} (hk:Nat.ble l.length k=true):dU z l Q Mc Rc n fuel listed k E M R:=⟨fun i hi hr=>by have:=tO hr;have:=Nat.le_of_ble_eq_true hk;omega⟩
theorem dU.skip {k:Nat} (hk:(Region.ready .any l.toArray listed).contains k=false) (h:dU z l Q Mc Rc n fuel listed (k+1) E M R):dU z l Q Mc Rc n fuel listed k E M R:=⟨fun i hi hr=>by
 rcases Nat.eq_or_lt_of_le hi with rfl|hlt
 ·have:(Region.ready .any l.toArray listed).contains k=true:=by simpa using hr
  rw[hk]at this;cases this
 ·exact h.h i hlt hr⟩
theorem dU.go {k:Nat} (h1:cI z l Q Mc Rc n fuel listed k E M R) (h:dU z l Q Mc Rc n fuel listed (k+1) E M R):dU z l Q Mc Rc n fuel listed k E M R:=⟨fun i hi hr=>by
 rcases Nat.eq_or_lt_of_le hi with rfl|hlt
 ·exact h1
 ·exact h.h i hlt hr⟩
theorem dh.any (hr:(Region.ready .any l.toArray listed).isEmpty=false) (h:dU z l Q Mc Rc n fuel listed 0 E M R):dh z l Q Mc Rc n (fuel+1) listed E M R:=⟨fun w hw hC hcl a ha=>
 ⟨fun h0=>(by rw[h0]at hr;cases hr),fun k hk=>(h.h k (Nat.zero_le _) hk).h w hw hC hcl hk a ha⟩⟩
theorem dh.pure {φ:Prop} (hp:∀w,Ok M R w→φ) (h:φ→dh z l Q Mc Rc n fuel listed E M R):dh z l Q Mc Rc n fuel listed E M R:=⟨fun w hw=>(h (hp w hw)).h w hw⟩
theorem cI.he (hi:l[i]?=some ⟨some d,op,ty,pos,aft,none⟩) (hd:Nat.blt d n=true) (he:HE n op E M R φ vf Mf Rf) (hM:∀x,Mc.Sublist (Mf x)) (hR:∀x p,p∈Rc→p∈Rf x) (h:∀x,φ x→dh z l Q Mc Rc n fuel (listed.setIfInBounds i true) ((d,vf x)::E) (Mf x) (Rf x)):cI z l Q Mc Rc n fuel listed i E M R:=⟨fun w hw hC hcl hr a ha=>by
 have ho:l.toArray[i]?=some ⟨some d,op,ty,pos,aft,none⟩:=by simpa using hi
 unfold qi
 simp only[ho]
 have hw':Region.wanted ⟨some d,op,ty,pos,aft,none⟩ (yielded l.toArray a.tmps)=true:=by simp[Region.wanted]
 simp only[hw',if_true]
 exact bZ ((he.h w hw).h a ha _ _ _ _ _) fun v w2 ⟨x,h1,h2,h3⟩=>by
  subst h2
  exact⟨.inr (h3.sub (hM x) (hR x)),(h x h1).h w2 h3 (h3.sub (hM x) (hR x)) (hcl.set hr) _ (ha.put (by simpa using hd) _)⟩⟩
theorem cI.hG (hi:l[z]?=some ⟨none,op,ty,pos,aft,none⟩) (he:gj n op E M R φ Mf Rf) (h:∀x,φ x→ai Q n .normal E (Mf x) (Rf x)) (hr:(Region.ready .any l.toArray (listed.setIfInBounds z true)).isEmpty=true:=by decide+kernel):cI z l Q Mc Rc n fuel listed z E M R:=⟨fun w hw hC hcl hrd a ha=>by
 have ho:l.toArray[z]?=some ⟨none,op,ty,pos,aft,none⟩:=by simpa using hi
 have hr':Region.ready .any l.toArray (listed.setIfInBounds z true)=[]:=by simpa using hr
 unfold qi
 simp only[ho]
 have hw':Region.wanted ⟨none,op,ty,pos,aft,none⟩ (yielded l.toArray a.tmps)=true:=by simp[Region.wanted]
 simp only[hw',if_true]
 exact bZ ((he.h w hw).h a ha _ _ _ _ _) fun v w2 ⟨x,h1,h3⟩=>
  ⟨.inl trivial,by
   cases fuel with
   |zero=>exact⟨hr',((h x h1).h w2 h3).h _ ha⟩
   |succ f=>exact⟨fun _=>((h x h1).h w2 h3).h _ ha,fun i hi=>by rw[hr']at hi;cases hi⟩⟩⟩
theorem cI.eU (f:Nat) (h:cI z l Q Mc Rc n fuel listed i E M R) (_:A1 l i f=true:=by decide+kernel):cI z l Q Mc Rc n fuel listed i E M R:=h
theorem cI.wX (h:cI z l Q Mc Rc n fuel listed i E M R) (_:A0 l i=true:=by decide+kernel):cI z l Q Mc Rc n fuel listed i E M R:=h
theorem cI.wW (h:cI z l Q Mc Rc n fuel listed i E M R) (_:AZ l i=true:=by decide+kernel):cI z l Q Mc Rc n fuel listed i E M R:=h
end
theorem C1 {g g':Prop} (h:g') (hw:ek g'→g:=by(intro hk_;(first|refine dh.qa 0 rfl ?_|refine dh.qa 1 rfl ?_|refine dh.qa 2 rfl ?_|refine dh.qa 3 rfl ?_|refine dh.qa 4 rfl ?_|refine dh.qa 5 rfl ?_|refine dh.qa 6 rfl ?_|refine dh.qa 7 rfl ?_|refine dh.qa 8 rfl ?_|refine dh.qa 9 rfl ?_|refine dh.qa 10 rfl ?_|refine dh.qa 11 rfl ?_|refine dh.qa 12 rfl ?_|refine dh.qa 13 rfl ?_|refine dh.qa 14 rfl ?_|refine dh.qa 15 rfl ?_|refine dh.qa 16 rfl ?_|refine dh.qa 17 rfl ?_|refine dh.qa 18 rfl ?_|refine dh.qa 19 rfl ?_|refine dh.qa 20 rfl ?_|refine dh.qa 21 rfl ?_|refine dh.qa 22 rfl ?_|refine dh.qa 23 rfl ?_|refine dh.qa 24 rfl ?_|refine dh.qa 25 rfl ?_|refine dh.qa 26 rfl ?_|refine dh.qa 27 rfl ?_|refine dh.qa 28 rfl ?_|refine dh.qa 29 rfl ?_);exact hk_.out)):g:=hw ⟨h⟩
theorem C8 {g g':Prop} (h:g') (hw:ek g'→g:=by(intro hk_;refine C1 ?_;(repeat refine C1 ?_);exact hk_.out)):g:=hw ⟨h⟩
end Go.Proofs.YtceedealggognaaGreatDoor
namespace Go.Proofs.YtceedealggognaaGreatDoor
open Go.RowKit
set_option maxRecDepth 100000
def zb (known:Bool) (k a b n kind val index:Int) (types labels:List Int):Bool:=
 let ab:=decide (a=0) && decide (b=0)
 if known=false∨(k≠1∧¬(kind=0∧val=0∧index=0))∨(k≠3∧0<labels.length)∨(k≠6∧0<types.length)then false else
 if k=0 then ab && decide (n=0)else
 if k=1 then ab && decide (n=0) && jn kind val index else
 if k=3 then aL a && decide (b=0) && decide (n=0) && labels.all aL else
 if k=6 then ab && decide (n=0) && decide (types.length=1) && kC (ix types 0)else
 if k=2∨k=4∨k=7∨k=8∨k=9∨k=12∨k=16 then aL a && decide (b=0) && decide (n=0)else
 if k=5∨k=10∨k=11∨k=14∨k=15 then aL a && aL b && decide (n=0)else
 if k=13 then decide (a=0) && aL b && decide (n=0)else
 if k=17 then decide (0≤a) && decide (a≤63) && aL b && decide (n<4294967296)else
 if k=18 then ab && decide (n<4294967296)else
 if k=19 then ab else(decide (a=3) || decide (a=4)) && decide (b=0) && decide (n=0)
theorem q7 (x:bP):db x=zb (gV x.op).isSome (iJ x.op) x.a x.b x.n x.kind x.val x.index x.types x.labels:=rfl
theorem ie {l:List Int} {f:Int→Bool} {j:Nat} (hj:j<l.length):(l.take (j+1)).all f=((l.take j).all f && f (ix l j)):=by rw[bu hj,List.all_append];simp
theorem jQ {l:List Int} {f:Int→Bool} {j:Nat} (h:(l.take j).all f=false):l.all f=false:=by
 cases e:l.all f with
 |false=>rfl
 |true=>
  have:(l.take j).all f=true:=by rw[List.all_eq_true]at e ⊢;exact fun x hx=>e x (List.mem_of_mem_take hx)
  rw[this]at h;cases h
attribute [local irreducible] aL kC
end Go.Proofs.YtceedealggognaaGreatDoor
namespace Go.Proofs.YtceedealggognaaGreatDoor
theorem cZ.Ct {s:cZ} {a:Int} {b:Bool} {r:List (Int×Bool)} (h:s.ps=r++[(a,b)]):s.at_=a∧s.loose=b:=by
 have e:ix s.ps (s.ps.length - 1)=(a,b):=by rw[h,List.length_append,List.length_singleton,Nat.add_sub_cancel,iz (Nat.le_refl _),Nat.sub_self];rfl
 unfold cZ.at_ cZ.loose;rw[e];exact⟨rfl,rfl⟩
theorem cZ.Ok.at_ {s:cZ} (h:s.Ok):0≤s.at_∧s.at_≤s.ts.length:=by
 have:=h.some
 exact h.le _ Hb
structure cZ.Wf (s:cZ):Prop where
 some:0<s.ps.length
 pos:∀i,i<s.ps.length→0≤(ix s.ps i).1
 mono:∀i j,i≤j→j<s.ps.length→(ix s.ps i).1≤(ix s.ps j).1
 top:s.at_≤s.ts.length
theorem cZ.Wf.ok {s:cZ} (h:s.Wf):s.Ok:=⟨h.some,fun i hi=>⟨h.pos i hi,by
 have:=h.mono i (s.ps.length - 1) Hb Hb
 have h2:(ix s.ps (s.ps.length - 1)).1≤s.ts.length:=h.top
 omega⟩⟩
theorem cZ.Wf.at_ {s:cZ} (h:s.Wf):0≤s.at_∧s.at_≤s.ts.length:=h.ok.at_
theorem mR {s:cZ} (h:s.Wf) (l:List Int):(gg s l).Wf:=⟨h.some,h.pos,h.mono,by have:=h.top;show s.at_≤((s.ts++l).length:Int);rw[List.length_append];omega⟩
theorem yX {s:cZ} (h:s.Wf):(eX s).Wf:=by
 have e:(eX s).at_=(s.ts.length:Int):=(cZ.Ct (s:=eX s) (a:=(s.ts.length:Int)) (b:=false) (r:=s.ps) rfl).1
 have e2:∀i,i<s.ps.length→ix (eX s).ps i=ix s.ps i:=fun i hi=>jy hi
 have e3:(ix (eX s).ps s.ps.length).1=(s.ts.length:Int):=by show(ix (s.ps++[((s.ts.length:Int),false)]) s.ps.length).1=_;rw[iz (Nat.le_refl _),Nat.sub_self];rfl
 have hl:(eX s).ps.length=s.ps.length+1:=by simp[eX]
 refine⟨by rw[hl];omega,fun i hi=>?_,fun i j hij hj=>?_,by rw[e];exact Int.le_refl _⟩
 ·by_cases hlt:i<s.ps.length
  ·rw[e2 i hlt];exact h.pos i hlt
  ·have:i=s.ps.length:=by omega
   subst this;rw[e3];omega
 ·by_cases hlt:j<s.ps.length
  ·rw[e2 i Hb,e2 j hlt];exact h.mono i j hij hlt
  ·have:j=s.ps.length:=by omega
   subst this
   rw[e3]
   by_cases hi:i<s.ps.length
   ·rw[e2 i hi];exact(h.ok.le i hi).2
   ·have:i=s.ps.length:=by omega
    subst this;rw[e3];exact Int.le_refl _
theorem wb {s:cZ} (h:s.Wf) {n:Nat} (hn:s.at_≤n) (hl:n≤s.ts.length):({s with ts:=s.ts.take n}:cZ).Wf:=⟨h.some,h.pos,h.mono,by show s.at_≤((s.ts.take n).length:Int);rw[List.length_take];omega⟩
theorem dx {s:cZ} (h:s.Wf) (l:List Int):(aT s l).1.Wf:=by
 unfold aT
 dsimp only
 split
 ·rename_i h0
  have:=jz l.reverse s.ts.length h.top h0
  exact wb h this.1 this.2
 ·exact h
theorem eu (s:cZ) (l:List Int):(aT s l).1.ps=s.ps:=by unfold aT;dsimp only;split<;>rfl
theorem kc {s:cZ} (h:s.Wf):(aZ s).1.Wf:=by
 unfold aZ
 split
 ·exact wb h Hb Hb
 ·split<;>exact h
theorem xi {s:cZ} (h:s.Wf):(gA s).Wf:=by
 have h0:=h.some
 have e:∀i,i<s.ps.length→(ix (s.ps.set (s.ps.length - 1) (s.at_,true)) i).1=(ix s.ps i).1:=fun i hi=>by
  rw[cw G4,List.getElem_set,cw hi]
  split
  ·rename_i e;subst e
   show s.at_=_
   unfold cZ.at_;rw[cw Hb]
  ·rfl
 have ea:(gA s).at_=s.at_:=by
  show(ix (s.ps.set (s.ps.length - 1) (s.at_,true)) ((s.ps.set (s.ps.length - 1) (s.at_,true)).length - 1)).1=_
  rw[List.length_set,e _ Hb];rfl
 have hl:(gA s).ps.length=s.ps.length:=List.length_set
 have h2:=h.at_
 refine⟨by rw[hl];exact h0,fun i hi=>?_,fun i j hij hj=>?_,?_⟩
 ·rw[hl]at hi
  show 0≤(ix (s.ps.set (s.ps.length - 1) (s.at_,true)) i).1
  rw[e i hi];exact h.pos i hi
 ·rw[hl]at hj
  show(ix (s.ps.set (s.ps.length - 1) (s.at_,true)) i).1≤(ix (s.ps.set (s.ps.length - 1) (s.at_,true)) j).1
  rw[e i Hb,e j hj];exact h.mono i j hij hj
 ·rw[ea]
  show s.at_≤((s.ts.take s.at_.toNat).length:Int)
  rw[List.length_take];omega
theorem jX {α:Type} [Inhabited α] {l:List α} {n i:Nat} (hi:i<n) (hl:n≤l.length):ix (l.take n) i=ix l i:=by
 rw[cw GW,cw Hb];simp
theorem pN {s:cZ} (h:s.Wf) (l:List Int):(dA s l).1.Wf:=by
 unfold dA
 dsimp only
 split
 ·exact h
 ·rename_i h0
  split
  ·exact h
  ·rename_i h1
   have h2:=jz l.reverse s.ts.length h.top Hb
   have h3:=h.at_
   have h4:=h.some
   by_cases h5:s.ps.length=1
   ·rw[if_pos h5]
    refine⟨by simp,fun i hi=>?_,fun i j hij hj=>?_,?_⟩
    ·have:i=0:=by simpa using hi
     subst this;exact Int.le_refl _
    ·have:j=0:=by simpa using hj
     subst this
     have:i=0:=by omega
     subst this;exact Int.le_refl _
    ·show(0:Int)≤((s.ts.take _).length:Int);omega
   ·rw[if_neg h5]
    have hl:(s.ps.take (s.ps.length - 1)).length=s.ps.length - 1:=by rw[List.length_take];omega
    refine⟨by dsimp only;rw[hl];omega,fun i hi=>?_,fun i j hij hj=>?_,?_⟩
    ·dsimp only at hi ⊢;rw[hl]at hi;rw[jX hi Hb];exact h.pos i Hb
    ·dsimp only at hj ⊢;rw[hl]at hj;rw[jX hj Hb,jX Hb Hb];exact h.mono i j hij Hb
    ·show(ix (s.ps.take (s.ps.length - 1)) ((s.ps.take (s.ps.length - 1)).length - 1)).1≤((s.ts.take (gq s l.reverse s.ts.length).1).length:Int)
     rw[hl,jX Hb Hb]
     have h6:=h.mono (s.ps.length - 1 - 1) (s.ps.length - 1) Hb Hb
     have h7:(ix s.ps (s.ps.length - 1)).1=s.at_:=rfl
     rw[List.length_take];omega
theorem pM {s:cZ} {l:List Int} (h:(dA s l).2=0):(dA s l).1.ps=if s.ps.length=1 then[(0,false)]else s.ps.take (s.ps.length - 1):=by
 unfold dA at h ⊢
 dsimp only at h ⊢
 split at h
 ·contradiction
 ·rename_i h0
  rw[if_neg h0]
  split at h
  ·cases h
  ·rename_i h1
   rw[if_neg h1]
end Go.Proofs.YtceedealggognaaGreatDoor
