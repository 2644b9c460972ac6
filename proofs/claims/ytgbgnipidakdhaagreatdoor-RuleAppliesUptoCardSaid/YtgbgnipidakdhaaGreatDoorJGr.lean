/- Rules for the layers 21 to 23: results that lie in the arguments' memory or in new memory; structs of numbers compared. -/
import Derived.Test.YtgbgnipidakdhaaGreatDoorJSf
import Derived.Test.YtgbgnipidakdhaaGreatDoorJSk
import Derived.Laws.StructEq
namespace Go.Proofs.YtgbgnipidakdhaaGreatDoor
open Go.RowKit
set_option maxRecDepth 100000
def tp {β:Type} (V:(Nat→Prop)→World→β→Prop):Prop:=∀{D S:Nat→Prop} {x:β} {w w':World},V D w x→cg S w w'→(∀k,k<w.heap.size→D k→¬S k)→V D w' x
def bg {β:Type} (V:(Nat→Prop)→World→β→Prop) (tf:β→Value) (F:Nat→Prop) (w:World) (e:Ending) (w':World):Prop:=(∃x,e=.returned (tf x)∧V (fun k=>F k∨w.heap.size≤k) w' x)∧Ext w w'
section
variable {ops:Array Oper} {Q:Exit→Act→World→Prop} {n:Nat} {E:Env} {M M':List a8} {R R':List (World→Prop)} {v:Value} {x y z:Operand} {t t2:TypeId} {C:World→Prop}
theorem aM.BI {β:Type} {w w':World} {tf:β→Value} {φ:β→Prop} {M1:β→List a8} (x:β) (hφ:φ x) (h:Ok M R w') (hM:(M1 x).Sublist M) (hR:Ext w∈R):aM [] w tf φ M1 (.returned (tf x)) w':=
 ⟨x,rfl,hφ,h.sub hM (fun p hp=>absurd hp Mk),(show Ext w w' from h.get hR).mono (fun _ _ h=>h.elim),fun k ⟨q,hq,hk⟩ hlt=>(h.origin (S:=fun _=>False) hR k ⟨q,hM.subset hq,hk⟩ hlt).elim⟩
theorem kF {P:Program} {xs ys:List Int} (d:Nat) (w:World) (hl:xs.length=ys.length):∀fs:List Field,(∀f∈fs,f.name≠ "_" ∧P.underlying f.type=some (.int .i64)∧f.offset<xs.length)→(Op.eqFields (d+1) (xs.map (Value.int .i64)).toArray (ys.map (Value.int .i64)).toArray fs).run P w=.ok (fs.all fun f=>decide (ix xs f.offset=ix ys f.offset)) w
 |[],_=>by simp[Op.eqFields]
 |f::fs,h=>by
  obtain⟨h0,h1,h2⟩:=h f Mk
  have ih:=kF d w hl fs fun g hg=>h g (by simp[hg])
  have hg:(isAgg f.type).run P w=.ok false w:=by simp[isAgg,run_underlying h1]
  have hp:∀zs:List Int,f.offset<zs.length→(part f.type (zs.map (Value.int .i64)).toArray f.offset).run P w=.ok (.int .i64 (ix zs f.offset)) w:=by
   intro zs hz
   have h2':(zs.map (Value.int .i64)).toArray[f.offset]?=some (Value.int .i64 (ix zs f.offset)):=by simp[cD hz,hz]
   simp only[part,Sem.run_bind,hg,Result.andThen_ok,Bool.false_eq_true,if_false]
   rw[h2'];simp
  have he:(Op.equalIn (d+1) f.type (.int .i64 (ix xs f.offset)) (.int .i64 (ix ys f.offset))).run P w=.ok (ix xs f.offset==ix ys f.offset) w:=by simp[Op.equalIn,run_underlying h1]
  simp only[Op.eqFields,h0,ne_eq,not_false_eq_true,if_true,Sem.run_bind,hp xs h2,hp ys (hl ▸ h2),Result.andThen_ok,he,Sem.run_ite,List.all_cons]
  by_cases e:ix xs f.offset=ix ys f.offset
  ·simp[e];simpa using ih
  ·simp[e]
theorem mO {xs ys:List Int} (w:World) (hl:xs.length=ys.length) (ht:G.P.underlying t=some (.struct (G.P.fieldsOf t))) (hp:G.P.stoodInHeld t=false)
  (hf:∀f∈(G.P.fieldsOf t).toList,f.name≠ "_" ∧G.P.underlying f.type=some (.int .i64)∧f.offset<xs.length) (ho:((G.P.fieldsOf t).toList.map fun f=>f.offset)=List.range xs.length):(Op.equal t (.agg (xs.map (Value.int .i64)).toArray) (.agg (ys.map (Value.int .i64)).toArray)).run G.P w=.ok (decide (xs=ys)) w:=by
 show(Op.equalIn (9999+1) t _ _).run G.P w=_
 rw[run_equalIn_struct w 9999 t _ _ ht hp,kF 9998 w hl _ hf]
 congr 1
 have e:((G.P.fieldsOf t).toList.all fun f=>decide (ix xs f.offset=ix ys f.offset))=(((G.P.fieldsOf t).toList.map fun f=>f.offset).all fun o=>decide (ix xs o=ix ys o)):=by rw[List.all_map];rfl
 rw[e,ho,Bool.eq_iff_iff]
 simp only[List.all_eq_true,List.mem_range,decide_eq_true_eq]
 constructor
 ·intro h
  refine List.ext_getElem hl fun i h1 h2=>?_
  have:=h i h1
  rw[cD h1,cD h2]at this;exact this
 ·rintro rfl i _;rfl
theorem Yl.H6 (xs ys:List Int) (hx:ev E x=some (.agg (xs.map (Value.int .i64)).toArray)) (hy:ev E y=some (.agg (ys.map (Value.int .i64)).toArray)) (hl:xs.length=ys.length) (ht:G.P.underlying t=some (.struct (G.P.fieldsOf t))) (hp:G.P.stoodInHeld t=false) (hg:G.P.eqGuardType G.P.depth t=false)
  (hf:∀f∈(G.P.fieldsOf t).toList,f.name≠ "_" ∧G.P.underlying f.type=some (.int .i64)∧f.offset<xs.length) (ho:((G.P.fieldsOf t).toList.map fun f=>f.offset)=List.range xs.length):Yl G n (.binOp .eql t x y t2) E C (.bool (decide (xs=ys))):=
 ⟨fun w _ a ha d ty pos aft gd=>by
  have h4:∀b c:Operand,(eqGuard .eql t b c (.agg (xs.map (Value.int .i64)).toArray) (.agg (ys.map (Value.int .i64)).toArray)).run G.P w=.ok () w:=by
   intro b c;simp[eqGuard,hg,run_program]
  simp[execOp,ha.eval hx,ha.eval hy,h4,binOp,mO w hl ht hp hf ho]⟩
theorem Yl.G8 (xs ys:List Int) (hx:ev E x=some (.agg (xs.map (Value.int .i64)).toArray)) (hy:ev E y=some (.agg (ys.map (Value.int .i64)).toArray)) (hl:xs.length=ys.length) (ht:G.P.underlying t=some (.struct (G.P.fieldsOf t))) (hp:G.P.stoodInHeld t=false) (hg:G.P.eqGuardType G.P.depth t=false)
  (hf:∀f∈(G.P.fieldsOf t).toList,f.name≠ "_" ∧G.P.underlying f.type=some (.int .i64)∧f.offset<xs.length) (ho:((G.P.fieldsOf t).toList.map fun f=>f.offset)=List.range xs.length):Yl G n (.binOp .neq t x y t2) E C (.bool (decide (xs≠ys))):=
 ⟨fun w _ a ha d ty pos aft gd=>by
  have h4:∀b c:Operand,(eqGuard .neq t b c (.agg (xs.map (Value.int .i64)).toArray) (.agg (ys.map (Value.int .i64)).toArray)).run G.P w=.ok () w:=by
   intro b c;simp[eqGuard,hg,run_program]
  simp[execOp,ha.eval hx,ha.eval hy,h4,binOp,mO w hl ht hp hf ho]⟩
end
def dr (f:aL) (D:Nat→Prop) (w:World) (x:Value×Value):Prop:=af D w x.1 f.params∧af D w x.2 f.results
theorem dr.fr (f:aL):tp (dr f):=fun h hc hd=>⟨h.1.aO hc hd,h.2.aO hc hd⟩
theorem dr.mono {f:aL} {D H:Nat→Prop} {w:World} {x:Value×Value} (h:dr f D w x) (hd:∀k,D k→H k):dr f H w x:=⟨h.1.mono fun k _=>hd k,h.2.mono fun k _=>hd k⟩
theorem dr.nil (D:Nat→Prop) (w:World):dr dy D w (.slice none 0 0,.slice none 0 0):=⟨af.bR _ _,af.bR _ _⟩
end Go.Proofs.YtgbgnipidakdhaaGreatDoor
