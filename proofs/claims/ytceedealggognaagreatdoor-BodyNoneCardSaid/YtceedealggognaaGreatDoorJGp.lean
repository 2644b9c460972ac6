/- Small functions about opcodes: what immediates an opcode uses, block types, alignments. -/
import Derived.Test.YtceedealggognaaGreatDoorJRt
namespace Go.Proofs.YtceedealggognaaGreatDoor
open Go.RowKit
set_option maxRecDepth 100000
theorem Fin.AU {fn:Func} {R:Ending→World→Prop} {w:World} {n:Nat} {E:Env} {t u s:Nat} {v x y:Value} (hr:fn.results=#[.tmp t,.tmp u,.tmp s]) (hv:lk E t=some v) (hx:lk E u=some x) (hy:lk E s=some y) (hR:R (.returned (.tuple #[v,x,y])) w):Fin (bodyPost G.P fn R) n .ret E w:=
 Fin.mY (.inl rfl) (fun ac hac=>by
  have g1:ac.tmps[t]?.getD undef=v:=by have:=(hac.eq t _ hv).2;simpa using this
  have g2:ac.tmps[u]?.getD undef=x:=by have:=(hac.eq u _ hx).2;simpa using this
  have g3:ac.tmps[s]?.getD undef=y:=by have:=(hac.eq s _ hy).2;simpa using this
  simp[results,hr,g1,g2,g3]) hR
theorem ai.AU {fn:Func} {Rp:Ending→World→Prop} {n:Nat} {E:Env} {M:List aU} {R:List (World→Prop)} {t u s:Nat} {v x y:Value} (hr:fn.results=#[.tmp t,.tmp u,.tmp s]) (hv:lk E t=some v) (hx:lk E u=some x) (hy:lk E s=some y) (hR:∀w,Ok M R w→Rp (.returned (.tuple #[v,x,y])) w):ai (bodyPost G.P fn Rp) n .ret E M R:=⟨fun w hw=>Fin.AU hr hv hx hy (hR w hw)⟩
def zZ (P:Program) (t n:Nat):Bool:=((P.fieldsOf t).toList.all fun f=>f.name != "_" && (match P.underlying f.type with|some (.int .i64)=>true|_=>false) && Nat.blt f.offset n) && (((P.fieldsOf t).toList.map fun f=>f.offset)==List.range n)
theorem lT {P:Program} {t n:Nat} (h:zZ P t n=true):(∀f∈(P.fieldsOf t).toList,f.name≠ "_" ∧P.underlying f.type=some (.int .i64)∧f.offset<n)∧((P.fieldsOf t).toList.map fun f=>f.offset)=List.range n:=by
 unfold zZ at h
 rw[Bool.and_eq_true]at h
 refine⟨fun f hf=>?_,by simpa using h.2⟩
 have:=List.all_eq_true.1 h.1 f hf
 simp only[Bool.and_eq_true,bne_iff_ne,ne_eq]at this
 obtain⟨⟨h1,h2⟩,h3⟩:=this
 refine⟨h1,?_,by simpa using h3⟩
 split at h2
 ·assumption
 ·cases h2
abbrev vo:Nat:=60
theorem Yl.Cb {n:Nat} {E:Env} {C:World→Prop} {x y:Operand} {t2:TypeId} {a b c d e f:Int} (hx:ev E x=some (.agg #[.int .i64 a,.int .i64 b,.int .i64 c])) (hy:ev E y=some (.agg #[.int .i64 d,.int .i64 e,.int .i64 f])):Yl G n (.binOp .eql vo x y t2) E C (.bool (decide ([a,b,c]=[d,e,f]))):=
 Yl.DG [a,b,c] [d,e,f] hx hy rfl FT FT FT (lT (P:=G.P) (t:=vo) (n:=3) FT).1 (lT (P:=G.P) (t:=vo) (n:=3) FT).2
theorem Yl.xM {n:Nat} {E:Env} {C:World→Prop} {x y:Operand} {t2:TypeId} {a b c d e f:Int} (hx:ev E x=some (.agg #[.int .i64 a,.int .i64 b,.int .i64 c])) (hy:ev E y=some (.agg #[.int .i64 d,.int .i64 e,.int .i64 f])):Yl G n (.binOp .neq vo x y t2) E C (.bool (decide ([a,b,c]≠[d,e,f]))):=
 Yl.Cu [a,b,c] [d,e,f] hx hy rfl FT FT FT (lT (P:=G.P) (t:=vo) (n:=3) FT).1 (lT (P:=G.P) (t:=vo) (n:=3) FT).2
def kY (k:Int):Bool:=decide (k=2∨k=3∨k=4∨k=7∨k=8∨k=9∨k=12∨k=16∨k=20∨k=5∨k=10∨k=11∨k=14∨k=15∨k=17)
def kZ (k:Int):Bool:=decide (k=5∨k=10∨k=11∨k=14∨k=15∨k=13∨k=17)
def k8 (k:Int):Bool:=decide (k=17∨k=18∨k=19)
set_option maxHeartbeats 8000000 in
theorem sH (k:Int) (w:World):Calls G.P 126 #[.int .i64 k] w fun e w'=>e=.returned (.tuple #[.bool (kY k),.bool (kZ k),.bool (k8 k)])∧Ext w w':=by
 refine aj (l:=[.int .i64 k]) Tryz.func126 rfl Tryz.ntmps126 rfl (Ok.start w) ?_
 repeat'(first|refine tk ?_|(refine kP ?_ ?_<;>(intro hc_;try subst hc_)))
 all_goals exact ai.AU rfl rfl rfl rfl fun w' hw'=>⟨by simp[kY,kZ,k8, *],hw'.at⟩
attribute [local irreducible] aI kg
set_option maxHeartbeats 8000000 in
theorem q9 (k v i:Int) (w:World):Calls G.P 129 #[.agg #[.int .i64 k,.int .i64 v,.int .i64 i]] w fun e w'=>e=.returned (.bool (iY k v i))∧Ext w w':=by
 refine aj (l:=[.agg #[.int .i64 k,.int .i64 v,.int .i64 i]]) Tryz.func129 rfl Tryz.ntmps129 rfl (Ok.start w) ?_
 repeat'(first|refine tk ?_|(refine br fun b_=>?_)|(refine aa.an ?_;refine aa.y_ (Yl.Cb rfl rfl) rfl ?_)|(refine aa.ak (f:=130) ?_;refine aa.az rfl rfl rfl (fun w' hw'=>oC v w') ?_)|(refine aa.eR (f:=128) ?_;refine aa.dV wM rfl rfl rfl (fun w' hw'=>bD i w') ?_)|(refine kP ?_ ?_<;>(intro hc_;try subst hc_)))
 all_goals exact ai.aA rfl rfl fun w' hw'=>⟨by simp_all [iY],hw'.at⟩
end Go.Proofs.YtceedealggognaaGreatDoor
namespace Go.Proofs.YtceedealggognaaGreatDoor
open Go.RowKit
set_option maxRecDepth 100000
def xX (known:Bool) (k a b n kind val index:Int) (types labels:List Int):Bool:=
 let ab:=decide (a=0) && decide (b=0)
 if known=false∨(k≠1∧¬(kind=0∧val=0∧index=0))∨(k≠3∧0<labels.length)∨(k≠6∧0<types.length)then false else
 if k=0 then ab && decide (n=0)else
 if k=1 then ab && decide (n=0) && iY kind val index else
 if k=3 then aI a && decide (b=0) && decide (n=0) && labels.all aI else
 if k=6 then ab && decide (n=0) && decide (types.length=1) && kg (ix types 0)else
 if k=2∨k=4∨k=7∨k=8∨k=9∨k=12∨k=16 then aI a && decide (b=0) && decide (n=0)else
 if k=5∨k=10∨k=11∨k=14∨k=15 then aI a && aI b && decide (n=0)else
 if k=13 then decide (a=0) && aI b && decide (n=0)else
 if k=17 then decide (0≤a) && decide (a≤63) && aI b && decide (n<4294967296)else
 if k=18 then ab && decide (n<4294967296)else
 if k=19 then ab else(decide (a=3) || decide (a=4)) && decide (b=0) && decide (n=0)
theorem qm (x:bZ):cW x=xX (gN x.op).isSome (ir x.op) x.a x.b x.n x.kind x.val x.index x.types x.labels:=rfl
theorem gZ {l:List Int} {f:Int→Bool} {j:Nat} (hj:j<l.length):(l.take (j+1)).all f=((l.take j).all f && f (ix l j)):=by rw[bu hj,List.all_append];simp
theorem jE {l:List Int} {f:Int→Bool} {j:Nat} (h:(l.take j).all f=false):l.all f=false:=by
 cases e:l.all f with
 |false=>rfl
 |true=>
  have:(l.take j).all f=true:=by rw[List.all_eq_true]at e ⊢;exact fun x hx=>e x (List.mem_of_mem_take hx)
  rw[this]at h;cases h
attribute [local irreducible] aI kg
end Go.Proofs.YtceedealggognaaGreatDoor
