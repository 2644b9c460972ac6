/- Small functions about opcodes: what immediates an opcode uses, block types, alignments. -/
import Derived.Test.YtgbgnipidakdhaaGreatDoorJGr
import Derived.Test.YtgbgnipidakdhaaGreatDoorJSg
namespace Go.Proofs.YtgbgnipidakdhaaGreatDoor
open Go.RowKit
set_option maxRecDepth 100000
theorem Fin.FA {fn:Func} {R:Ending→World→Prop} {w:World} {n:Nat} {E:Env} {t u s:Nat} {v x y:Value} (hr:fn.results=#[.tmp t,.tmp u,.tmp s]) (hv:lk E t=some v) (hx:lk E u=some x) (hy:lk E s=some y) (hR:R (.returned (.tuple #[v,x,y])) w):Fin (bodyPost G.P fn R) n .ret E w:=
 Fin.pS (.inl rfl) (fun ac hac=>by
  have g1:ac.tmps[t]?.getD undef=v:=by have:=(hac.eq t _ hv).2;simpa using this
  have g2:ac.tmps[u]?.getD undef=x:=by have:=(hac.eq u _ hx).2;simpa using this
  have g3:ac.tmps[s]?.getD undef=y:=by have:=(hac.eq s _ hy).2;simpa using this
  simp[results,hr,g1,g2,g3]) hR
theorem ah.FA {fn:Func} {Rp:Ending→World→Prop} {n:Nat} {E:Env} {M:List a8} {R:List (World→Prop)} {t u s:Nat} {v x y:Value} (hr:fn.results=#[.tmp t,.tmp u,.tmp s]) (hv:lk E t=some v) (hx:lk E u=some x) (hy:lk E s=some y) (hR:∀w,Ok M R w→Rp (.returned (.tuple #[v,x,y])) w):ah (bodyPost G.P fn Rp) n .ret E M R:=⟨fun w hw=>Fin.FA hr hv hx hy (hR w hw)⟩
def ED (P:Program) (t n:Nat):Bool:=((P.fieldsOf t).toList.all fun f=>f.name != "_" && (match P.underlying f.type with|some (.int .i64)=>true|_=>false) && Nat.blt f.offset n) && (((P.fieldsOf t).toList.map fun f=>f.offset)==List.range n)
theorem ow {P:Program} {t n:Nat} (h:ED P t n=true):(∀f∈(P.fieldsOf t).toList,f.name≠ "_" ∧P.underlying f.type=some (.int .i64)∧f.offset<n)∧((P.fieldsOf t).toList.map fun f=>f.offset)=List.range n:=by
 unfold ED at h
 rw[Bool.and_eq_true]at h
 refine⟨fun f hf=>?_,by simpa using h.2⟩
 have:=List.all_eq_true.1 h.1 f hf
 simp only[Bool.and_eq_true,bne_iff_ne,ne_eq]at this
 obtain⟨⟨h1,h2⟩,h3⟩:=this
 refine⟨h1,?_,by simpa using h3⟩
 split at h2
 ·assumption
 ·cases h2
abbrev Bi:Nat:=39
theorem Yl.Ha {n:Nat} {E:Env} {C:World→Prop} {x y:Operand} {t2:TypeId} {a b c d e f:Int} (hx:ev E x=some (.agg #[.int .i64 a,.int .i64 b,.int .i64 c])) (hy:ev E y=some (.agg #[.int .i64 d,.int .i64 e,.int .i64 f])):Yl G n (.binOp .eql Bi x y t2) E C (.bool (decide ([a,b,c]=[d,e,f]))):=
 Yl.H6 [a,b,c] [d,e,f] hx hy rfl L9 L9 L9 (ow (P:=G.P) (t:=Bi) (n:=3) L9).1 (ow (P:=G.P) (t:=Bi) (n:=3) L9).2
theorem Yl.pX {n:Nat} {E:Env} {C:World→Prop} {x y:Operand} {t2:TypeId} {a b c d e f:Int} (hx:ev E x=some (.agg #[.int .i64 a,.int .i64 b,.int .i64 c])) (hy:ev E y=some (.agg #[.int .i64 d,.int .i64 e,.int .i64 f])):Yl G n (.binOp .neq Bi x y t2) E C (.bool (decide ([a,b,c]≠[d,e,f]))):=
 Yl.G8 [a,b,c] [d,e,f] hx hy rfl L9 L9 L9 (ow (P:=G.P) (t:=Bi) (n:=3) L9).1 (ow (P:=G.P) (t:=Bi) (n:=3) L9).2
def nM (k:Int):Bool:=decide (k=2∨k=3∨k=4∨k=7∨k=8∨k=9∨k=12∨k=16∨k=20∨k=5∨k=10∨k=11∨k=14∨k=15∨k=17)
def nB (k:Int):Bool:=decide (k=5∨k=10∨k=11∨k=14∨k=15∨k=13∨k=17)
def nK (k:Int):Bool:=decide (k=17∨k=18∨k=19)
set_option maxHeartbeats 8000000 in
theorem wI (k:Int) (w:World):Calls G.P 123 #[.int .i64 k] w fun e w'=>e=.returned (.tuple #[.bool (nM k),.bool (nB k),.bool (nK k)])∧Ext w w':=by
 refine ae (l:=[.int .i64 k]) Tryz.func123 rfl Tryz.ntmps123 rfl (Ok.start w) ?_
 repeat'(first|refine kQ ?_|(refine fV ?_ ?_<;>(intro hc_;try subst hc_)))
 all_goals exact ah.FA rfl rfl rfl rfl fun w' hw'=>⟨by simp[nM,nB,nK, *],hw'.at⟩
attribute [local irreducible] aW jo
set_option maxHeartbeats 8000000 in
theorem wi (k v i:Int) (w:World):Calls G.P 126 #[.agg #[.int .i64 k,.int .i64 v,.int .i64 i]] w fun e w'=>e=.returned (.bool (iK k v i))∧Ext w w':=by
 refine ae (l:=[.agg #[.int .i64 k,.int .i64 v,.int .i64 i]]) Tryz.func126 rfl Tryz.ntmps126 rfl (Ok.start w) ?_
 repeat'(first|refine kQ ?_|(refine aC fun b_=>?_)|(refine aa.aK ?_;refine aa.y_ (Yl.Ha rfl rfl) rfl ?_)|(refine aa.ai (f:=127) ?_;refine aa.aq rfl rfl rfl (fun w' hw'=>sJ v w') ?_)|(refine aa.cm (f:=125) ?_;refine aa.bV ny rfl rfl rfl (fun w' hw'=>bW i w') ?_)|(refine fV ?_ ?_<;>(intro hc_;try subst hc_)))
 all_goals exact ah.aB rfl rfl fun w' hw'=>⟨by simp_all [iK],hw'.at⟩
end Go.Proofs.YtgbgnipidakdhaaGreatDoor
namespace Go.Proofs.YtgbgnipidakdhaaGreatDoor
open Go.RowKit
set_option maxRecDepth 100000
def Cj (known:Bool) (k a b n kind val index:Int) (types labels:List Int):Bool:=
 let ab:=decide (a=0) && decide (b=0)
 if known=false∨(k≠1∧¬(kind=0∧val=0∧index=0))∨(k≠3∧0<labels.length)∨(k≠6∧0<types.length)then false else
 if k=0 then ab && decide (n=0)else
 if k=1 then ab && decide (n=0) && iK kind val index else
 if k=3 then aW a && decide (b=0) && decide (n=0) && labels.all aW else
 if k=6 then ab && decide (n=0) && decide (types.length=1) && jo (ix types 0)else
 if k=2∨k=4∨k=7∨k=8∨k=9∨k=12∨k=16 then aW a && decide (b=0) && decide (n=0)else
 if k=5∨k=10∨k=11∨k=14∨k=15 then aW a && aW b && decide (n=0)else
 if k=13 then decide (a=0) && aW b && decide (n=0)else
 if k=17 then decide (0≤a) && decide (a≤63) && aW b && decide (n<4294967296)else
 if k=18 then ab && decide (n<4294967296)else
 if k=19 then ab else(decide (a=3) || decide (a=4)) && decide (b=0) && decide (n=0)
theorem pC (x:cJ):cq x=Cj (eO x.op).isSome (dZ x.op) x.a x.b x.n x.kind x.val x.index x.types x.labels:=rfl
theorem jz {l:List Int} {f:Int→Bool} {j:Nat} (hj:j<l.length):(l.take (j+1)).all f=((l.take j).all f && f (ix l j)):=by rw[bE hj,List.all_append];simp
theorem ks {l:List Int} {f:Int→Bool} {j:Nat} (h:(l.take j).all f=false):l.all f=false:=by
 cases e:l.all f with
 |false=>rfl
 |true=>
  have:(l.take j).all f=true:=by rw[List.all_eq_true]at e ⊢;exact fun x hx=>e x (List.mem_of_mem_take hx)
  rw[this]at h;cases h
attribute [local irreducible] aW jo
set_option maxHeartbeats 8000000 in
theorem xP (k v i:Int) (w:World):Calls G.P 88 #[.agg #[.int .i64 k,.int .i64 v,.int .i64 i]] w fun e w'=>e=.returned (.bool (iK k v i))∧Ext w w':=by
 refine ae (l:=[.agg #[.int .i64 k,.int .i64 v,.int .i64 i]]) Tryz.func88 rfl Tryz.ntmps88 rfl (Ok.start w) ?_
 repeat'(first|refine kQ ?_|(refine aC fun b_=>?_)|(refine aa.ai (f:=91) ?_;refine aa.aq rfl rfl rfl (fun w' hw'=>vj v w') ?_)|(refine aa.cm (f:=89) ?_;refine aa.bV ny rfl rfl rfl (fun w' hw'=>eK i w') ?_)|(refine fV ?_ ?_<;>(intro hc_;try subst hc_)))
 all_goals exact ah.aB rfl rfl fun w' hw'=>⟨by simp_all [iK],hw'.at⟩
set_option maxHeartbeats 8000000 in
theorem wg (F:Nat→Prop) (l:List Int) (v:Value) (w:World) (h:af F w v l):Calls G.P 90 #[v] w fun e w'=>e=.returned (.bool (l.all aW))∧Ext w w':=by
 obtain⟨p,c,rfl,hl⟩:=h.slice
 refine ae (l:=[_]) Tryz.func90 rfl Tryz.ntmps90 rfl (Ok.start w) ?_
 refine bQ ?_
 refine aZ.loop (σ:=Nat) (fun j=>[(0,.slice p l.length c),(3,.int .i64 j)]) (fun _=>[]) (fun _=>[Ext w]) (fun j=>j≤l.length∧(l.take j).all aW=true) (fun j=>l.length - j) 0 bJ bc aV ⟨by omega,by simp⟩ ?_
 rintro j ⟨hj,hall⟩
 by_cases hjl:j<l.length
 ·obtain⟨b7,o7,rfl,-,hc⟩:=h.at hjl
  have hcj:=hc j hjl
  have hst:=jz (f:=aW) hjl
  rw[hall,Bool.true_and]at hst
  cases hi:aW (ix l j)with
  |true=>
   repeat'(first|refine ar ?_|(refine aa.ai (f:=89) ?_;refine aa.aq (v:=.bool true) rfl rfl rfl (fun w' hw'=>by have:=eK (ix l j) w';rw[hi]at this;exact this) ?_)|fail)
   all_goals exact ap
  |false=>
   repeat'(first|refine ar ?_|(refine aa.ai (f:=89) ?_;refine aa.aq (v:=.bool false) rfl rfl rfl (fun w' hw'=>by have:=eK (ix l j) w';rw[hi]at this;exact this) ?_)|fail)
   all_goals exact ah.aB rfl rfl fun w' hw'=>⟨by rw[ks (j:=j+1) LZ],hw'.at⟩
 ·obtain rfl:j=l.length:=by omega
  rw[List.take_length]at hall
  refine bQ ?_
  exact ah.aB rfl rfl fun w' hw'=>⟨by rw[hall],hw'.at⟩
end Go.Proofs.YtgbgnipidakdhaaGreatDoor
