/- More rules of the walk: structs written out, texts, results that lie in memory; the walker over them. -/
import Derived.Test.YtgbgnipidakdhaaGreatDoorJBt
import Derived.Test.YtgbgnipidakdhaaGreatDoorJF2
import Derived.Scope
import Derived.Test.YtgbgnipidakdhaaGreatDoorJA
import Derived.RangeFuncNested
import Derived.RangeFuncBound
import Derived.RangeFuncCalls
import Derived.RangeFuncLeaves
import Derived.RangeFuncFrom
namespace Go.Proofs.YtgbgnipidakdhaaGreatDoor
open Go.RowKit
section
variable {n:Nat} {E:Env} {C:World→Prop} {x y z:Operand} {t t2:TypeId} {v:Value} {w:World} {ops:Array Oper} {M:Mode} {rest:List Oper} {d:Nat} {ty:TypeId} {pos:String} {aft:Array Edge}
def Bu:List Value→Nat→List Value→List Value
 |cs,_,[]=>cs
 |cs,o,c::r=>Bu (cs.set o c) (o+1) r
def mC (pl:List (Nat×Nat)):List Value→List (Nat×Value)→Option (List Value)
 |cs,[]=>some cs
 |cs,(i,v)::r=>
  match pl[i]? with
  |none=>none
  |some (off,size)=>bif (Nat.beq v.cells.toList.length size && Nat.ble (off+v.cells.toList.length) cs.length)then mC pl (Bu cs off v.cells.toList) r else none
theorem vr:∀(l:List Value) (cs:List Value) (o k:Nat),(Bu cs (o+k) l).toArray=(l.zipIdx k).foldl (fun a p=>a.setIfInBounds (o+p.2) p.1) cs.toArray
 |[],cs,o,k=>rfl
 |c::r,cs,o,k=>by
  rw[Bu,List.zipIdx_cons,List.foldl_cons,Nat.add_assoc,vr r _ o (k+1)]
  simp
theorem Aq {pl:List (Nat×Nat)}:∀{parts:List (Nat×Value)} {cs c:List Value},mC pl cs parts=some c→Instr.fill (pl.toArray[·]?) cs.toArray parts=some c.toArray
 |[],cs,c,h=>by simp only[mC,Option.some.injEq]at h;subst h;rfl
 |(i,v)::r,cs,c,h=>by
  simp only[mC]at h
  unfold Instr.fill
  have e0:pl.toArray[i]?=pl[i]?:=by simp
  rw[e0]
  cases hp:pl[i]? with
  |none=>simp[hp]at h
  |some p=>
   obtain⟨off,size⟩:=p
   rw[hp]at h
   dsimp only at h ⊢
   cases hb:(Nat.beq v.cells.toList.length size && Nat.ble (off+v.cells.toList.length) cs.length)with
   |false=>rw[hb]at h;cases h
   |true=>
    rw[hb]at h
    simp only[Bool.and_eq_true]at hb
    have h1:=Nat.eq_of_beq_eq_true hb.1
    have h2:=Nat.le_of_ble_eq_true hb.2
    have e1:v.cells.size=size:=by simpa using h1
    have e2:¬off+v.cells.size>cs.toArray.size:=by simpa using h2
    rw[if_neg (by simp[e1];rw[e1]at e2;simpa using e2)]
    have h3:=Aq h
    rw[←h3]
    congr 1
    have:=vr v.cells.toList cs off 0
    rw[Nat.add_zero]at this
    rw[this,←Array.foldl_toList,Array.toList_zipIdx]
theorem Yl.fM {s bt:Nat} {el:Option Nat} {os:List Nat} {zs:List Value} {ik:Option IntKind} {parts:List (Nat×Operand)} {vs:List Value} (ht:G.ty t=some ⟨s,bt,true,el,os,.agg zs.toArray,ik⟩) (ho:os.isEmpty=false) (hv:jQ E (parts.map (·.2))=some vs) (hf:(mC (oN os s) zs ((parts.map (·.1)).zip vs)).isSome=true):
  Yl G n (.build t parts.toArray) E C (.agg ((mC (oN os s) zs ((parts.map (·.1)).zip vs)).getD []).toArray):=by
 refine Yl.build hv (fun w=>?_)
 rw[HD t _ ht rfl (by simpa using ho)]
 refine Hu ?_ _ _
 obtain⟨c,hc⟩:=Option.isSome_iff_exists.1 hf
 rw[hc]
 have:=Aq hc
 simpa[Value.cells]using this
theorem Yl.yC {bo:BinOp} {a b:ByteArray} (hx:ev E x=some (.string a)) (hy:ev E y=some (.string b)) (hr:∀w,(Op.stringOp bo a b).run G.P w=.ok v w):Yl G n (.binOp bo t x y t2) E C v:=
 ⟨fun w _ ac ha d ty pos aft gd=>by
  have hg:∀p q:Operand,(eqGuard bo t p q (.string a) (.string b)).run G.P w=.ok () w:=by
   intro p q;unfold eqGuard;split<;>simp
  simp[execOp,ha.eval hx,ha.eval hy,hg,binOp,hr]⟩
theorem Yl.tH {a b:ByteArray} (hx:ev E x=some (.string a)) (hy:ev E y=some (.string b)):Yl G n (.binOp .eql t x y t2) E C (.bool (a.data.toList==b.data.toList)):=Yl.yC hx hy (fun w=>by simp[Op.stringOp,ByteArray.toList_eq])
theorem Yl.ml {a b:ByteArray} (hx:ev E x=some (.string a)) (hy:ev E y=some (.string b)):Yl G n (.binOp .neq t x y t2) E C (.bool (!(a.data.toList==b.data.toList))):=Yl.yC hx hy (fun w=>by simp[Op.stringOp,ByteArray.toList_eq])
theorem Yl.mn {a b:ByteArray} (hx:ev E x=some (.string a)) (hy:ev E y=some (.string b)) (h:a.size+b.size≤9223372036854775807):Yl G n (.binOp .add t x y t2) E C (.string (a++b)):=Yl.yC hx hy (fun w=>run_string_add_sum w a b h)
theorem Yl.lT {a:ByteArray} (ht:G.P.underlying t=some .string) (hx:ev E x=some (.string a)):Yl G n (.call ⟨.builtin .len,#[x],#[t]⟩) E C (.int .i64 a.size):=
 ⟨fun w _ ac ha d ty pos aft gd=>by simp[execOp,resolve,invoke,builtin,Builtin.len_,ha.eval hx,run_underlying ht,goInt]⟩
theorem Yl.dw {k:IntKind} {p:Int} {a:ByteArray} {i:Nat} (ht:G.P.underlying t=some .string) (hx:ev E x=some (.string a)) (hi:ev E y=some (.int k p)) (hp:p=(i:Int)) (hc:i≤a.size):Yl G n (.slice t x none (some y) none) E C (.string (a.extract 0 i)):=
 ⟨fun w _ ac ha d ty pos aft gd=>by subst hp;simp[execOp,ha.eval hx,ha.eval hi,Instr.sliceAt,Instr.slice,Instr.sliceBounds,Instr.sliceBound,asIntOf,run_underlying ht,hc]⟩
theorem Yl.de {k:IntKind} {p:Int} {a:ByteArray} {i:Nat} (ht:G.P.underlying t=some .string) (hx:ev E x=some (.string a)) (hi:ev E y=some (.int k p)) (hp:p=(i:Int)) (hc:i≤a.size):Yl G n (.slice t x (some y) none none) E C (.string (a.extract i a.size)):=
 ⟨fun w _ ac ha d ty pos aft gd=>by subst hp;simp[execOp,ha.eval hx,ha.eval hi,Instr.sliceAt,Instr.slice,Instr.sliceBounds,Instr.sliceBound,asIntOf,run_underlying ht,hc]⟩
theorem Yl.dR {k k':IntKind} {p q:Int} {a:ByteArray} {i j:Nat} (ht:G.P.underlying t=some .string) (hx:ev E x=some (.string a)) (hi:ev E y=some (.int k p)) (hj:ev E z=some (.int k' q)) (hp:p=(i:Int)) (hq:q=(j:Int)) (hc:i≤j) (hc2:j≤a.size):Yl G n (.slice t x (some y) (some z) none) E C (.string (a.extract i j)):=
 ⟨fun w _ ac ha d ty pos aft gd=>by subst hp;subst hq;simp[execOp,ha.eval hx,ha.eval hi,ha.eval hj,Instr.sliceAt,Instr.slice,Instr.sliceBounds,Instr.sliceBound,asIntOf,run_underlying ht,hc,hc2]⟩
theorem Yl.quo {p q r:Int} (hx:ev E x=some (.int .i64 p)) (hy:ev E y=some (.int .i64 q)) (hr:∀w,(binOp .quo t (.int .i64 p) (.int .i64 q)).run G.P w=.ok (.int .i64 r) w):Yl G n (.binOp .quo t x y t2) E C (.int .i64 r):=Yl.bin hx hy hr
end
theorem bT {g g':Prop} (h:g') (hw:dS g'→g:=by(intro hk_;(repeat(first|(first|refine aw.y (Yl.move rfl) rfl ?_|refine aw.y (Yl.assign rfl) rfl ?_|(refine aw.is ?_;(first|(refine aw.As ?_;(first|refine aw.gs rfl rfl rfl ?_|refine aw.gu rfl rfl ?_|refine aw.yg rfl (Yl.move rfl) rfl ?_|refine aw.yg rfl (Yl.assign rfl) rfl ?_|(refine aw.aK ?_;(first|(refine aw.aK (bo:=.lss) ?_;(first|refine aw.yg rfl (Yl.mj rfl rfl Mj) rfl ?_|refine aw.yg rfl (Yl.lQ rfl rfl Mj) rfl ?_))|(refine aw.aK (bo:=.eql) ?_;(first|refine aw.yg rfl (Yl.lH rfl rfl Mj) rfl ?_|refine aw.yg rfl (Yl.lY rfl rfl Mj) rfl ?_))|(refine aw.aK (bo:=.neq) ?_;(first|refine aw.yg rfl (Yl.lN rfl rfl Mj) rfl ?_|refine aw.yg rfl (Yl.lJ rfl rfl Mj) rfl ?_))|(refine aw.aK (bo:=.leq) ?_;(first|refine aw.yg rfl (Yl.me rfl rfl Mj) rfl ?_|refine aw.yg rfl (Yl.lV rfl rfl Mj) rfl ?_))|(refine aw.aK (bo:=.gtr) ?_;(first|refine aw.yg rfl (Yl.lR rfl rfl Mj) rfl ?_|refine aw.yg rfl (Yl.mc rfl rfl Mj) rfl ?_))|(refine aw.aK (bo:=.geq) ?_;(first|refine aw.yg rfl (Yl.mq rfl rfl Mj) rfl ?_|refine aw.yg rfl (Yl.lO rfl rfl Mj) rfl ?_))|refine aw.yg rfl (Yl.add rfl rfl Mj) rfl ?_|refine aw.yg rfl (Yl.sub rfl rfl Mj) rfl ?_|refine aw.yg rfl (Yl.jg rfl rfl rfl rfl) rfl ?_|fail))|(refine aw.isField ?_;(first|refine aw.yg rfl (Yl.gP rfl rfl rfl) rfl ?_|refine aw.yg rfl (Yl.field rfl rfl rfl) rfl ?_))|(refine aw.dk ?_;(first|refine aw.yg rfl (Yl.load rfl rfl rfl LG) rfl ?_|refine aw.yg rfl (Yl.load rfl rfl rfl eZ) rfl ?_))|(refine aw.ek ?_;(first|refine aw.yg rfl (Yl.gh rfl rfl rfl rfl rfl rfl Mj) rfl ?_|refine aw.yg rfl (Yl.idx rfl rfl rfl rfl rfl rfl Mj) rfl ?_))|refine aw.yg rfl (Yl.len rfl rfl rfl) rfl ?_|refine aw.yg rfl (Yl.extract rfl rfl) rfl ?_|refine aw.yg rfl (Yl.fZ rfl rfl) rfl ?_|refine aw.yg rfl (Yl.fW rfl rfl) rfl ?_|refine aw.yg rfl (Yl.nilCheck rfl) rfl ?_|refine aw.yg rfl (Yl.not rfl) rfl ?_|refine aw.yg rfl (Yl.makeFunc rfl rfl) rfl ?_))|refine aw.nil ?_|refine aw.DE ?_|(refine aw.aK ?_;(first|(refine aw.aK (bo:=.lss) ?_;(first|refine aw.y (Yl.mj rfl rfl Mj) rfl ?_|refine aw.y (Yl.lQ rfl rfl Mj) rfl ?_))|(refine aw.aK (bo:=.eql) ?_;(first|refine aw.y (Yl.lH rfl rfl Mj) rfl ?_|refine aw.y (Yl.lY rfl rfl Mj) rfl ?_))|(refine aw.aK (bo:=.neq) ?_;(first|refine aw.y (Yl.lN rfl rfl Mj) rfl ?_|refine aw.y (Yl.lJ rfl rfl Mj) rfl ?_))|(refine aw.aK (bo:=.leq) ?_;(first|refine aw.y (Yl.me rfl rfl Mj) rfl ?_|refine aw.y (Yl.lV rfl rfl Mj) rfl ?_))|(refine aw.aK (bo:=.gtr) ?_;(first|refine aw.y (Yl.lR rfl rfl Mj) rfl ?_|refine aw.y (Yl.mc rfl rfl Mj) rfl ?_))|(refine aw.aK (bo:=.geq) ?_;(first|refine aw.y (Yl.mq rfl rfl Mj) rfl ?_|refine aw.y (Yl.lO rfl rfl Mj) rfl ?_))|refine aw.y (Yl.add rfl rfl Mj) rfl ?_|refine aw.y (Yl.sub rfl rfl Mj) rfl ?_|refine aw.y (Yl.jg rfl rfl rfl rfl) rfl ?_|fail))|(refine aw.isField ?_;(first|refine aw.y (Yl.gP rfl rfl rfl) rfl ?_|refine aw.y (Yl.field rfl rfl rfl) rfl ?_))|(refine aw.dk ?_;(first|refine aw.y (Yl.load rfl rfl rfl LG) rfl ?_|refine aw.y (Yl.load rfl rfl rfl eZ) rfl ?_))|(refine aw.ek ?_;(first|refine aw.y (Yl.gh rfl rfl rfl rfl rfl rfl Mj) rfl ?_|refine aw.y (Yl.idx rfl rfl rfl rfl rfl rfl Mj) rfl ?_))|refine aw.y (Yl.len rfl rfl rfl) rfl ?_|refine aw.y (Yl.extract rfl rfl) rfl ?_|refine aw.y (Yl.fZ rfl rfl) rfl ?_|refine aw.y (Yl.fW rfl rfl) rfl ?_|refine aw.y (Yl.nilCheck rfl) rfl ?_|refine aw.y (Yl.not rfl) rfl ?_|refine aw.y (Yl.makeFunc rfl rfl) rfl ?_))|(refine Cd.is ?_;(first|refine Cd.seq ?_|refine Cd.region ?_|refine Cd.block ?_|refine Cd.iU rfl ?_|refine Cd.iW rfl ?_|refine Cd.skip ?_|refine Cd.ret ?_|refine Cd.exit ?_|fail))|(refine Fin.is ?_;(first|refine Fin.kY ?_|refine Fin.pf ?_|refine Fin.lB ?_|refine Fin.oZ ?_|refine Fin.lj ?_|refine Fin.py ?_|refine Fin.zp rfl ?_)))|(refine aw.is ?_;(first|(refine aw.As ?_;(first|(refine aw.aK ?_;(first|refine aw.yg rfl (Yl.tH rfl rfl) rfl ?_|refine aw.yg rfl (Yl.ml rfl rfl) rfl ?_|refine aw.yg rfl (Yl.mn rfl rfl Mj) rfl ?_))|refine aw.yg rfl (Yl.fM rfl rfl rfl rfl) rfl ?_|refine aw.yg rfl (Yl.dw Tryz.underlying9 rfl rfl rfl Mj) rfl ?_|refine aw.yg rfl (Yl.de Tryz.underlying9 rfl rfl rfl Mj) rfl ?_|refine aw.yg rfl (Yl.dR Tryz.underlying9 rfl rfl rfl rfl rfl Mj Mj) rfl ?_|refine aw.yg rfl (Yl.cO rfl rfl rfl rfl rfl rfl Mj) rfl ?_|refine aw.yg rfl (Yl.lT Tryz.underlying9 rfl) rfl ?_))|(refine aw.aK ?_;(first|refine aw.y (Yl.tH rfl rfl) rfl ?_|refine aw.y (Yl.ml rfl rfl) rfl ?_|refine aw.y (Yl.mn rfl rfl Mj) rfl ?_))|refine aw.y (Yl.fM rfl rfl rfl rfl) rfl ?_|refine aw.y (Yl.dw Tryz.underlying9 rfl rfl rfl Mj) rfl ?_|refine aw.y (Yl.de Tryz.underlying9 rfl rfl rfl Mj) rfl ?_|refine aw.y (Yl.dR Tryz.underlying9 rfl rfl rfl rfl rfl Mj Mj) rfl ?_|refine aw.y (Yl.cO rfl rfl rfl rfl rfl rfl Mj) rfl ?_|refine aw.y (Yl.lT Tryz.underlying9 rfl) rfl ?_))));exact hk_.out)):g:=hw ⟨h⟩
section
variable {fn:Func} {R:Ending→World→Prop} {n:Nat} {E:Env} {w:World} {a T t b Tb s:Nat} {ti:TI} {v:Value} {cs:List Value}
theorem pw (hT:G.ty T=some ti) (hag:ti.agg=true) (hsz:ti.size=s) (hb:gO w b cs Tb) (hl:cs.length=s):(loadVar T ⟨b,0,none⟩).run G.P w=.ok (.agg cs.toArray) w:=by
 have h1:=(G.iw T ti hT).agg w
 have h2:=(G.iw T ti hT).size w
 rw[hag]at h1
 subst hl
 have h3:=run_loadCells (P:=G.P) (w:=w) (bk:=b) cs 0 0 #[] (fun j hj=>by
  have:=hb.cell (j:=j) (List.getElem?_eq_getElem hj)
  rw[List.getElem?_eq_getElem hj,←this];simp)
 simp[loadVar,h1,h2,hsz,loadCells,h3]
theorem Fin.a6 {e:Exit} (he:e=.ret∨e=.normal) (hr:fn.results=#[.cell a T]) (ha:lk E a=some (.pointer (some ⟨b,0,none⟩))) (hT:G.ty T=some ti) (hag:ti.agg=true) (hsz:ti.size=s) (hb:gO w b cs Tb) (hl:cs.length=s) (hR:R (.returned (.agg cs.toArray)) w):Fin (bodyPost G.P fn R) n e E w:=
 Fin.pS he (fun ac hac=>by
  have h3:=pw hT hag hsz hb hl
  have g1:ac.tmps[a]?.getD undef=.pointer (some ⟨b,0,none⟩):=by have:=(hac.eq a _ ha).2;simpa using this
  simp[results,hr,g1,asAddr,h3]) hR
theorem Fin.aF {e:Exit} (he:e=.ret∨e=.normal) (hr:fn.results=#[.cell a T,.tmp t]) (ha:lk E a=some (.pointer (some ⟨b,0,none⟩))) (hT:G.ty T=some ti) (hag:ti.agg=true) (hsz:ti.size=s) (hb:gO w b cs Tb) (hl:cs.length=s) (hv:lk E t=some v) (hR:R (.returned (.tuple #[.agg cs.toArray,v])) w):Fin (bodyPost G.P fn R) n e E w:=
 Fin.pS he (fun ac hac=>by
  have h3:=pw hT hag hsz hb hl
  have g1:ac.tmps[a]?.getD undef=.pointer (some ⟨b,0,none⟩):=by have:=(hac.eq a _ ha).2;simpa using this
  have g2:ac.tmps[t]?.getD undef=v:=by have:=(hac.eq t _ hv).2;simpa using this
  simp[results,hr,g1,g2,asAddr,h3]) hR
end
structure a8 where
 F:Nat→Prop
 P:World→Prop
 st:∀{S:Nat→Prop} {w w':World},P w→cg S w w'→(∀k,k<w.heap.size→F k→¬S k)→P w'
def Mb (M:List a8) (k:Nat):Prop:=∃q,q∈M∧q.F k
structure Ok (M:List a8) (R:List (World→Prop)) (w:World):Prop where
 m:∀q,q∈M→q.P w∧∀k,q.F k→k<w.heap.size
 d:M.Pairwise fun a b=>∀k,a.F k→¬b.F k
 r:∀p,p∈R→∀w',cg (Mb M) w w'→p w'
section
variable {M M':List a8} {R R':List (World→Prop)} {w w':World} {q q':a8} {p:World→Prop}
theorem Ok.step (h:Ok M R w) (hc:cg (Mb M) w w') (hm:∀q,q∈M'→q.P w'∧∀k,q.F k→k<w'.heap.size) (hd:M'.Pairwise fun a b=>∀k,a.F k→¬b.F k) (hs:∀k,Mb M' k→k<w.heap.size→Mb M k):Ok M' R w':=
 ⟨hm,hd,fun p hp w2 h2=>h.r p hp w2 (hc.trans' h2 fun i hi hm=>hs i hm hi)⟩
theorem Ok.ext (h:Ok M R w) (hx:Ext w w'):Ok M R w':=
 h.step hx.any (fun q hq=>⟨q.st (h.m q hq).1 hx (fun _ _ _ e=>e),fun k hk=>Nat.lt_of_lt_of_le ((h.m q hq).2 k hk) hx.size⟩) h.d (fun _ hk _=>hk)
theorem Ok.drew (h:Ok M R w):Ok M R w.drew:=h.ext ((cg.refl _ w).drew)
theorem Ok.get (h:Ok M R w) (hp:p∈R):p w:=h.r p hp w (cg.refl _ _)
theorem Ok.add (h:Ok M R w) (hp:∀w',cg (Mb M) w w'→p w'):Ok M (p::R) w:=
 ⟨h.m,h.d,fun x hx=>by exact(List.mem_cons.1 hx).elim (fun e=>e ▸ hp) (h.r x)⟩
theorem Ok.lL (h:Ok M R w) (hp:∀w',(∀r,r∈R→r w')→p w'):Ok M (p::R) w:=h.add fun w' hc=>hp w' fun r hr=>h.r r hr w' hc
theorem Ok.push (h:Ok M R w) (hx:Ext w w') (hq:q.P w') (hl:∀k,q.F k→w.heap.size≤k∧k<w'.heap.size):Ok (q::M) R w':=by
 refine h.step hx.any (fun x hx'=>?_) (List.pairwise_cons.2 ⟨fun x hx' k hk hk'=>?_,h.d⟩) (fun k hk hlt=>?_)
 ·rcases List.mem_cons.1 hx' with rfl|hx'
  ·exact⟨hq,fun k hk=>(hl k hk).2⟩
  ·exact⟨x.st (h.m x hx').1 hx (fun _ _ _ e=>e),fun k hk=>Nat.lt_of_lt_of_le ((h.m x hx').2 k hk) hx.size⟩
 ·have:=(h.m x hx').2 k hk';have:=(hl k hk).1;omega
 ·obtain⟨x,hx',hk⟩:=hk
  rcases List.mem_cons.1 hx' with rfl|hx'
  ·have:=(hl k hk).1;omega
  ·exact⟨x,hx',hk⟩
theorem Ok.sub (h:Ok M R w) (hM:M'.Sublist M) (hR:∀p,p∈R'→p∈R):Ok M' R' w:=by
 have h1:Ok M' R w:=h.step (cg.refl _ w) (fun q hq=>h.m q (hM.subset hq)) (h.d.sublist hM) (fun k ⟨q,hq,hk⟩ _=>⟨q,hM.subset hq,hk⟩)
 exact⟨h1.m,h1.d,fun p hp=>h1.r p (hR p hp)⟩
end
inductive Up (q q':a8):List a8→List a8→Prop
 |head {l:List a8}:Up q q' (q::l) (q'::l)
 |tail {a:a8} {l l':List a8}:Up q q' l l'→Up q q' (a::l) (a::l')
inductive Rm (q:a8):List a8→List a8→Prop
 |head {l:List a8}:Rm q (q::l) l
 |tail {a:a8} {l l':List a8}:Rm q l l'→Rm q (a::l) (a::l')
section
variable {M M':List a8} {R R':List (World→Prop)} {w w':World} {q q':a8} {p:World→Prop}
theorem Up.mem (h:Up q q' M M'):q∈M:=by induction h with|head=>simp|tail _ ih=>simp[ih]
theorem Ok.yu (h:Ok M R w) (hu:Up q q' M M') (hc:cg q.F w w') (hq:q'.P w') (hl:∀k,q'.F k→k<w'.heap.size∧(k<w.heap.size→q.F k)):Ok M' R w':=by
  have hqm:=h.m q hu.mem
 -- footprint kept within the old one or new
  have key:∀x:a8,(∀k,x.F k→k<w.heap.size)→(∀k,q.F k→¬x.F k)→∀k,q'.F k→¬x.F k:=fun x hx hd k hk hk'=>hd k ((hl k hk).2 (hx k hk')) hk'
  have hd2:M.Pairwise fun a b=>((∀k,a.F k→k<w.heap.size)∨a=q')∧True:=by
    exact List.pairwise_of_forall_mem_list (fun a ha b hb=>⟨.inl (h.m a ha).2,trivial⟩)
  have hpw:M'.Pairwise (fun a b=>∀k,a.F k→¬b.F k)∧∀x,x∈M'→x=q'∨(x∈M∧∀k,q.F k→¬x.F k):=by
    have:=hu
    clear hd2
    have hm:=h.m
    have hd:=h.d
    clear h hqm
    induction hu with
    |head=>
      rw[List.pairwise_cons]at hd ⊢
      refine⟨⟨fun x hx=>key x (hm x (by simp[hx])).2 (hd.1 x hx),hd.2⟩,fun x hx=>?_⟩
      rcases List.mem_cons.1 hx with rfl|hx
      · exact .inl rfl
      · exact .inr ⟨by simp[hx],hd.1 x hx⟩
    |@tail a l l' hu ih=>
      rw[List.pairwise_cons]at hd ⊢
      obtain⟨h1,h2⟩:=ih hu (fun q hq=>hm q (by simp[hq])) hd.2
      have haq:∀k,q.F k→¬a.F k:=fun k h1 h2=>hd.1 q hu.mem k h2 h1
      refine⟨⟨fun x hx=>?_,h1⟩,fun x hx=>?_⟩
      · rcases h2 x hx with rfl|⟨hx,_⟩
        · exact fun k h1 h2=>key a (hm a Mk).2 haq k h2 h1
        · exact hd.1 x hx
      · rcases List.mem_cons.1 hx with rfl|hx
        · exact .inr ⟨by simp,haq⟩
        · rcases h2 x hx with rfl|⟨hx,hr⟩
          · exact .inl rfl
          · exact .inr ⟨by simp[hx],hr⟩
  refine h.step (hc.mono fun k _ hk=>⟨q,hu.mem,hk⟩) (fun x hx=>?_) hpw.1 (fun k ⟨x,hx,hk⟩ hlt=>?_)
  · rcases hpw.2 x hx with rfl|⟨hx,hd⟩
    · exact⟨hq,fun k hk=>(hl k hk).1⟩
    · exact⟨x.st (h.m x hx).1 hc (fun k _ h1 h2=>hd k h2 h1),fun k hk=>Nat.lt_of_lt_of_le ((h.m x hx).2 k hk) hc.size⟩
  · rcases hpw.2 x hx with rfl|⟨hx,_⟩
    · exact⟨q,hu.mem,(hl k hk).2 hlt⟩
    · exact⟨x,hx,hk⟩
theorem Rm.sub (h:Rm q M M'):M'.Sublist M:=by
 induction h with
 |head=>exact List.sublist_cons_self _ _
 |tail _ ih=>exact ih.cons_cons _
theorem Rm.mem (h:Rm q M M'):q∈M:=by induction h with|head=>simp|tail _ ih=>simp[ih]
theorem Rm.HW (h:Rm q M M') (hd:M.Pairwise fun a b=>∀k,a.F k→¬b.F k):∀x,x∈M'→∀k,q.F k→¬x.F k:=by
 induction h with
 |head=>exact(List.pairwise_cons.1 hd).1
 |tail hr ih=>
  rw[List.pairwise_cons]at hd
  intro x hx k h1 h2
  rcases List.mem_cons.1 hx with rfl|hx
  ·exact hd.1 q hr.mem k h2 h1
  ·exact ih hd.2 x hx k h1 h2
theorem Ok.freeze (h:Ok M R w) (hr:Rm q M M') (hp:∀w',q.P w'→p w'):Ok M' (p::R) w:=by
 have h1:=h.sub hr.sub (fun p hp=>hp)
 refine h1.add fun w' hc=>hp w' (q.st (h.m q hr.mem).1 hc fun k _ hk ⟨x,hx,hk'⟩=>hr.HW h.d x hx k hk hk')
theorem Ok.kB (h:Ok M R w) (hr:Rm q M M') (hp:∀w',q.P w'→(∀r,r∈R→r w')→p w'):Ok M' (p::R) w:=by
 have h1:=h.freeze hr (p:=q.P) (fun _ h=>h)
 have h2:=h1.lL (p:=p) (fun w' hw=>hp w' (hw _ Mk) (fun r hr=>hw r (by simp[hr])))
 exact h2.sub (List.Sublist.refl _) (fun x hx=>by rcases List.mem_cons.1 hx with rfl|hx<;>simp[*])
end
def a8.aT (b:Nat) (cs:List Value) (T:TypeId):a8:=⟨fun k=>k=b,fun w=>gO w b cs T,fun h hc hd=>h.aO hc (hd b h.lt rfl)⟩
def a8.own (B T s:Nat) (v:Value) (n:Nat) (cs:List Value):a8:=⟨fun k=>v.ownBlock=some k,fun w=>w.ownsRow B T s v n cs,fun h hc hd=>lI h hc (fun k hk=>hd k (h.lt k hk).2 hk)⟩
def cl (b o:Nat) (v:Value):World→Prop:=fun w=>w.cell? ⟨b,o,none⟩=some v
def Cs (b o:Nat) (cs:List Value):World→Prop:=fun w=>∀j,j<cs.length→w.cell? ⟨b,o+j,none⟩=cs[j]?
inductive Ld (w:World) (b o:Nat) (v:Value):List a8→List (World→Prop)→Prop
 |aT {cs:List Value} {T:TypeId} {M:List a8} {R:List (World→Prop)} (h:cs[o]?=some v):Ld w b o v (.aT b cs T::M) R
 |ka {a:a8} {M:List a8} {R:List (World→Prop)}:Ld w b o v M R→Ld w b o v (a::M) R
 |cl {R:List (World→Prop)}:Ld w b o v [] (cl b o v::R)
 |cs {o':Nat} {cs:List Value} {R:List (World→Prop)} (j:Nat) (e:o'+j=o) (h:cs[j]?=some v):Ld w b o v [] (Cs b o' cs::R)
 |zN {w0:World} {R:List (World→Prop)} (h:w0.cell? ⟨b,o,none⟩=some v):Ld w b o v [] (Ext w0::R)
 |kc {p:World→Prop} {R:List (World→Prop)}:Ld w b o v [] R→Ld w b o v [] (p::R)
theorem Ld.ok {w:World} {b o:Nat} {v:Value} {M:List a8} {R:List (World→Prop)} (h:Ld w b o v M R) (hM:∀q,q∈M→q.P w) (hR:∀p,p∈R→p w):w.cell? ⟨b,o,none⟩=some v:=by
 induction h with
 |@aT cs T M R h=>exact gO.cell (hM (.aT b cs T) Mk) h
 |ka _ ih=>exact ih (fun q hq=>hM q (by simp[hq])) hR
 |cl=>exact hR (Go.Proofs.YtgbgnipidakdhaaGreatDoor.cl b o v) Mk
 |@cs o' cs R j e h=>
  have:=hR (Cs b o' cs) Mk
  rw[←e,←h];exact this j (List.getElem?_eq_some_iff.1 h).1
 |@zN w0 _ h=>exact(show Ext w0 w from hR (Ext w0) Mk).cell h
 |kc _ ih=>exact ih hM (fun q hq=>hR q (by simp[hq]))
inductive fw (v:Value):List Value→Nat→List Value→Prop
 |zero {a:Value} {l:List Value}:fw v (a::l) 0 (v::l)
 |succ {a:Value} {l l':List Value} {j:Nat}:fw v l j l'→fw v (a::l) (j+1) (a::l')
theorem fw.eq {v:Value} {l l':List Value} {j:Nat} (h:fw v l j l'):l.set j v=l'∧j<l.length:=by
 induction h with
 |zero=>simp
 |succ _ ih=>simp[ih.1,ih.2]
structure aa (ops:Array Oper) (Q:Exit→Act→World→Prop) (n:Nat) (l:List Oper) (E:Env) (M:List a8) (R:List (World→Prop)):Prop where
 h:∀w,Ok M R w→aw G ops (.list Q w) n l E
structure aZ (Q:Exit→Act→World→Prop) (n:Nat) (c:Code) (E:Env) (M:List a8) (R:List (World→Prop)):Prop where
 h:∀w,Ok M R w→Cd G Q n c E w
structure ah (Q:Exit→Act→World→Prop) (n:Nat) (e:Exit) (E:Env) (M:List a8) (R:List (World→Prop)):Prop where
 h:∀w,Ok M R w→Fin Q n e E w
theorem Yl.mono {n:Nat} {op:Op} {E:Env} {C C':World→Prop} {v:Value} (h:Yl G n op E C v) (hc:∀w,C' w→C w):Yl G n op E C' v:=⟨fun w hw=>h.h w (hc w hw)⟩
section
variable {ops:Array Oper} {Q:Exit→Act→World→Prop} {n:Nat} {E:Env} {M M':List a8} {R R':List (World→Prop)} {rest l:List Oper} {op:Op} {d:Nat} {ty:TypeId} {pos:String} {aft:Array Edge} {v:Value} {x y z:Operand} {t:TypeId}
theorem aZ.seq {x y:Code} (h:aZ (Exit.then (y.wp G.P Q) Q) n x E M R):aZ Q n (.seq x y) E M R:=⟨fun w hw=>Cd.seq (h.h w hw)⟩
theorem aZ.block {id:Nat} {c:Code} (h:aZ (Exit.inBlock id Q) n c E M R):aZ Q n (.block id c) E M R:=⟨fun w hw=>Cd.block (h.h w hw)⟩
theorem aZ.skip (h:ah Q n .normal E M R):aZ Q n .skip E M R:=⟨fun w hw=>Cd.skip (h.h w hw)⟩
theorem aZ.exit {id:Nat} (h:ah Q n (.exit id) E M R):aZ Q n (.exit id) E M R:=⟨fun w hw=>Cd.exit (h.h w hw)⟩
theorem aZ.ret (h:ah Q n .ret E M R):aZ Q n .ret E M R:=⟨fun w hw=>Cd.ret (h.h w hw)⟩
theorem aZ.region {id:Nat} {l:List Oper} (h:aa l.toArray Q n l E M R):aZ Q n (.region id l.toArray false) E M R:=⟨fun w hw=>Cd.region (h.h w hw)⟩
theorem aZ.iU {c:Operand} {x y:Code} (hc:ev E c=some (.bool true)) (h:aZ Q n x E M R):aZ Q n (.cond c x y) E M R:=⟨fun w hw=>Cd.iU hc (h.h w hw)⟩
theorem aZ.iW {c:Operand} {x y:Code} (hc:ev E c=some (.bool false)) (h:aZ Q n y E M R):aZ Q n (.cond c x y) E M R:=⟨fun w hw=>Cd.iW hc (h.h w hw)⟩
theorem aZ.Au {b:Bool} {c:Operand} {x y:Code} (hc:ev E c=some (.bool b)) (hx:b=true→aZ Q n x E M R) (hy:b=false→aZ Q n y E M R):aZ Q n (.cond c x y) E M R:=by
 cases b with
 |true=>exact aZ.iU hc (hx rfl)
 |false=>exact aZ.iW hc (hy rfl)
theorem ah.kY {y:Code} (h:aZ Q n y E M R):ah (Exit.then (y.wp G.P Q) Q) n .normal E M R:=⟨fun w hw=>Fin.kY (h.h w hw)⟩
theorem ah.lB {K:Act→World→Prop} (h:ah Q n .ret E M R):ah (Exit.then K Q) n .ret E M R:=⟨fun w hw=>Fin.lB (h.h w hw)⟩
theorem ah.lj {K:Act→World→Prop} {id:Nat} (h:ah Q n (.exit id) E M R):ah (Exit.then K Q) n (.exit id) E M R:=⟨fun w hw=>Fin.lj (h.h w hw)⟩
theorem ah.pf {id:Nat} (h:ah Q n .normal E M R):ah (Exit.inBlock id Q) n .normal E M R:=⟨fun w hw=>Fin.pf (h.h w hw)⟩
theorem ah.oZ {id:Nat} (h:ah Q n .ret E M R):ah (Exit.inBlock id Q) n .ret E M R:=⟨fun w hw=>Fin.oZ (h.h w hw)⟩
theorem ah.py {id:Nat} (h:ah Q n .normal E M R):ah (Exit.inBlock id Q) n (.exit id) E M R:=⟨fun w hw=>Fin.py (h.h w hw)⟩
theorem ah.zp {id id':Nat} (hne:Nat.beq id' id=false) (h:ah Q n (.exit id') E M R):ah (Exit.inBlock id Q) n (.exit id') E M R:=⟨fun w hw=>Fin.zp hne (h.h w hw)⟩
theorem aa.nil (h:ah Q n .normal E M R):aa ops Q n [] E M R:=⟨fun w hw=>aw.nil (h.h w hw)⟩
theorem aa.y_ (hy:Yl G n op E (Ok M R) v) (hd:(nL op && Nat.blt d n)=true) (h:aa ops Q n rest ((d,v)::E) M R):aa ops Q n (⟨some d,op,ty,pos,aft,none⟩::rest) E M R:=
 ⟨fun w hw=>aw.y (M:=.list Q w) (hy.mono (by rintro _ rfl;exact hw)) hd (h.h w hw)⟩
theorem aa.yg {j:Nat} {b:Bool} (hg:nH ops E j=some b) (hy:Yl G n op E (Ok M R) v) (hd:(nL op && Nat.blt d n)=true) (h:aa ops Q n rest ((d,v)::E) M R):aa ops Q n (⟨some d,op,ty,pos,aft,some (j,b)⟩::rest) E M R:=
 ⟨fun w hw=>aw.yg (M:=.list Q w) hg (hy.mono (by rintro _ rfl;exact hw)) hd (h.h w hw)⟩
theorem aa.gs {j:Nat} {b b':Bool} (hg:nH ops E j=some b') (hb:b'=!b) (hd:Nat.blt d n=true) (h:aa ops Q n rest ((d,undef)::E) M R):aa ops Q n (⟨some d,op,ty,pos,aft,some (j,b)⟩::rest) E M R:=⟨fun w hw=>aw.gs hg hb hd (h.h w hw)⟩
theorem aa.gu {j:Nat} {b:Bool} (hg:GS ops E j=true) (hd:Nat.blt d n=true) (h:aa ops Q n rest ((d,undef)::E) M R):aa ops Q n (⟨some d,op,ty,pos,aft,some (j,b)⟩::rest) E M R:=⟨fun w hw=>aw.gu hg hd (h.h w hw)⟩
theorem aa.e {K:World→Value→World→Prop} (he:∀w,Ok M R w→ck G n op E w (K w)) (hd:Nat.blt d n=true) (h:∀w v w',Ok M R w→K w v w'→aw G ops (.list Q w') n rest ((d,v)::E)):aa ops Q n (⟨some d,op,ty,pos,aft,none⟩::rest) E M R:=⟨fun w hw=>aw.e (he w hw) hd fun v w' hk=>h w v w' hw hk⟩
theorem aa.e0 {K:World→Value→World→Prop} (he:∀w,Ok M R w→ck G n op E w (K w)) (h:∀w v w',Ok M R w→K w v w'→aw G ops (.list Q w') n rest E):aa ops Q n (⟨none,op,ty,pos,aft,none⟩::rest) E M R:=⟨fun w hw=>aw.e0 (he w hw) fun v w' hk=>h w v w' hw hk⟩
theorem aa.lL (p:World→Prop) (hp:∀w',(∀r,r∈R→r w')→p w') (h:aa ops Q n l E M (p::R)):aa ops Q n l E M R:=⟨fun w hw=>h.h w (hw.lL hp)⟩
theorem aZ.lL {c:Code} (p:World→Prop) (hp:∀w',(∀r,r∈R→r w')→p w') (h:aZ Q n c E M (p::R)):aZ Q n c E M R:=⟨fun w hw=>h.h w (hw.lL hp)⟩
theorem aa.sub {E':Env} (hE:Sub E E') (hM:M'.Sublist M) (hR:∀p,p∈R'→p∈R) (h:aa ops Q n l E' M' R'):aa ops Q n l E M R:=⟨fun w hw=>aw.sub hE (h.h w (hw.sub hM hR))⟩
structure HE {β:Type} (n:Nat) (op:Op) (E:Env) (M:List a8) (R:List (World→Prop)) (φ:β→Prop) (vf:β→Value) (Mf:β→List a8) (Rf:β→List (World→Prop)):Prop where
 h:∀w,Ok M R w→ck G n op E w (fun v w'=>∃x,φ x∧v=vf x∧Ok (Mf x) (Rf x) w')
structure fQ {β:Type} (n:Nat) (op:Op) (E:Env) (M:List a8) (R:List (World→Prop)) (φ:β→Prop) (Mf:β→List a8) (Rf:β→List (World→Prop)):Prop where
 h:∀w,Ok M R w→ck G n op E w (fun _ w'=>∃x,φ x∧Ok (Mf x) (Rf x) w')
section
variable {β:Type} {φ:β→Prop} {vf:β→Value} {Mf:β→List a8} {Rf:β→List (World→Prop)}
theorem aa.he (he:HE n op E M R φ vf Mf Rf) (hd:Nat.blt d n=true) (h:∀x,φ x→aa ops Q n rest ((d,vf x)::E) (Mf x) (Rf x)):aa ops Q n (⟨some d,op,ty,pos,aft,none⟩::rest) E M R:=
 aa.e (fun w hw=>he.h w hw) hd fun w v w' hw ⟨x,h1,h2,h3⟩=>by subst h2;exact(h x h1).h w' h3
theorem aa.jf (he:fQ n op E M R φ Mf Rf) (h:∀x,φ x→aa ops Q n rest E (Mf x) (Rf x)):aa ops Q n (⟨none,op,ty,pos,aft,none⟩::rest) E M R:=
 aa.e0 (fun w hw=>he.h w hw) fun _w _v w' _hw ⟨x,h1,h3⟩=>(h x h1).h w' h3
end
theorem td {w w':World} {cs:List Value} {T:TypeId} (hn:Aw w w' cs T):∀k,(a8.aT w.heap.size cs T).F k→w.heap.size≤k∧k<w'.heap.size:=fun k hk=>by
 have:k=w.heap.size:=hk
 have:=hn.size;omega
theorem HE.alloc {ti:TI} (cs:List Value) (ht:G.ty t=some ti) (hz:ti.zero.cells.toList=cs):HE n (.alloc t) E M R (fun _:Nat=>True) (fun b=>.pointer (some ⟨b,0,none⟩)) (fun b=>.aT b cs t::M) (fun _=>R):=
 ⟨fun w hw=>(ck.alloc ht).mono fun v w' ⟨e,hn⟩=>by rw[hz]at hn;exact⟨w.heap.size,trivial,e,hw.push hn.ext hn.aT (td hn)⟩⟩
theorem HE.box (cs:List Value) (hx:ev E x=some v) (hcs:v.cells=cs.toArray):HE n (.box t x) E M R (fun _:Nat=>True) (fun b=>.pointer (some ⟨b,0,none⟩)) (fun b=>.aT b cs t::M) (fun _=>R):=
 ⟨fun w hw=>(ck.box hx hcs).mono fun _v _w' ⟨e,hn⟩=>⟨w.heap.size,trivial,e,hw.push hn.ext hn.aT (td hn)⟩⟩
theorem HE.Fe {e len:Nat} {parts:List (Nat×Operand)} {vs:List Value} (cs:List Value) (hv:jQ E (parts.map (·.2))=some vs)
  (hr:∀w,(Instr.buildSlice t len ((parts.map (·.1)).zip vs).toArray).run G.P w=.ok (.slice (some ⟨w.heap.size,0,none⟩) len len) (w.alloc (.cells cs.toArray e))):
  HE n (.buildSlice t len parts.toArray) E M R (fun _:Nat=>True) (fun b=>.slice (some ⟨b,0,none⟩) len len) (fun b=>.aT b cs e::M) (fun _=>R):=
 ⟨fun w hw=>(ck.buildSlice hv (hr w)).mono fun _v _w' ⟨e1,hn⟩=>⟨w.heap.size,trivial,e1,hw.push hn.ext hn.aT (td hn)⟩⟩
theorem aa.alloc {ti:TI} (cs:List Value) (ht:G.ty t=some ti) (hz:ti.zero.cells.toList=cs) (hd:Nat.blt d n=true) (h:∀b,aa ops Q n rest ((d,.pointer (some ⟨b,0,none⟩))::E) (.aT b cs t::M) R):aa ops Q n (⟨some d,.alloc t,ty,pos,aft,none⟩::rest) E M R:=
 aa.he (HE.alloc cs ht hz) hd fun b _=>h b
theorem aa.box (cs:List Value) (hx:ev E x=some v) (hcs:v.cells=cs.toArray) (hd:Nat.blt d n=true) (h:∀b,aa ops Q n rest ((d,.pointer (some ⟨b,0,none⟩))::E) (.aT b cs t::M) R):aa ops Q n (⟨some d,.box t x,ty,pos,aft,none⟩::rest) E M R:=
 aa.he (HE.box cs hx hcs) hd fun b _=>h b
theorem vB {w w':World} {b T:Nat} {old cs:List Value} (hw:Ok M R w) (hM:Up (.aT b old T) (.aT b cs T) M M') (hb:gO w' b cs T) (hc:cg (fun k=>k=b) w w'):Ok M' R w':=
 hw.yu hM hc hb (fun k hk=>by
  have:k=b:=hk
  have:=(hw.m _ hM.mem).2 b rfl
  have:=hc.size
  exact⟨by omega,fun _=>hk⟩)
theorem fQ.bn {ti:TI} {b T:Nat} {old:List Value} (cs:List Value) (ht:G.ty t=some ti) (hx:ev E x=some (.pointer (some ⟨b,0,none⟩))) (hy:ev E y=some v) (hcs:v.cells=cs.toArray) (hs:ti.size=cs.length) (hv:(cs.all fun u=>u.oneCell')=true)
  (hM:Up (.aT b old T) (.aT b cs T) M M') (hl:Nat.beq old.length cs.length=true):fQ n (.store t x y) E M R (fun _:Unit=>True) (fun _=>M') (fun _=>R):=
 ⟨fun _w hw=>(ck.bn ht hx hy hcs hs (fun u hu=>List.all_eq_true.1 hv u hu) (hw.m _ hM.mem).1 (Nat.eq_of_beq_eq_true hl)).mono fun _ _w' ⟨hb,hc,_⟩=>⟨(),trivial,vB hw hM hb hc⟩⟩
theorem aa.bn {ti:TI} {b T:Nat} {old:List Value} (cs:List Value) (ht:G.ty t=some ti) (hx:ev E x=some (.pointer (some ⟨b,0,none⟩))) (hy:ev E y=some v) (hcs:v.cells=cs.toArray) (hs:ti.size=cs.length) (hv:(cs.all fun u=>u.oneCell')=true)
  (hM:Up (.aT b old T) (.aT b cs T) M M') (hl:Nat.beq old.length cs.length=true) (h:aa ops Q n rest E M' R):aa ops Q n (⟨none,.store t x y,ty,pos,aft,none⟩::rest) E M R:=
 aa.jf (fQ.bn cs ht hx hy hcs hs hv hM hl) fun _ _=>h
theorem fQ.gg {ti:TI} {b j T:Nat} {old cs:List Value} (ht:G.ty t=some ti) (hs:ti.size=1) (hx:ev E x=some (.pointer (some ⟨b,j,none⟩))) (hy:ev E y=some v) (hv:v.oneCell'=true)
  (hM:Up (.aT b old T) (.aT b cs T) M M') (hcs:fw v old j cs):fQ n (.store t x y) E M R (fun _:Unit=>True) (fun _=>M') (fun _=>R):=
 ⟨fun w hw=>(ck.yG ht hs hx hy hv (hw.m _ hM.mem).1 hcs.eq.2).mono fun _ w' ⟨hb,hc,_⟩=>by
  rw[hcs.eq.1]at hb;exact⟨(),trivial,vB hw hM hb hc⟩⟩
theorem aa.gg {ti:TI} {b j T:Nat} {old cs:List Value} (ht:G.ty t=some ti) (hs:ti.size=1) (hx:ev E x=some (.pointer (some ⟨b,j,none⟩))) (hy:ev E y=some v) (hv:v.oneCell'=true)
  (hM:Up (.aT b old T) (.aT b cs T) M M') (hcs:fw v old j cs) (h:aa ops Q n rest E M' R):aa ops Q n (⟨none,.store t x y,ty,pos,aft,none⟩::rest) E M R:=
 aa.jf (fQ.gg ht hs hx hy hv hM hcs) fun _ _=>h
theorem HE.app {Mf:Value→List a8} {ti te:TI} {B T s m bk Tb:Nat} {xs cs:List Value} (hx:ev E x=some v) (hy:ev E y=some (.slice (some ⟨bk,0,none⟩) 1 1)) (hM:∀v',Up (.own B T s v m xs) (.own B T s v' (m+1) (xs++cs)) M (Mf v')) (hb:Up (.aT bk cs Tb) (.aT bk cs Tb) M M')
  (ht:G.ty t=some ti) (he:ti.elem=some T) (hte:G.ty T=some te) (hs:te.size=s) (hzs:Nat.beq te.zero.cells.size te.size=true) (hsz:Nat.blt 0 te.size=true) (hbt:Nat.ble te.bytes 1000=true) (hcl:Nat.beq cs.length s=true) (h1:(cs.all fun u=>u.oneCell')=true) (hlen:m≤100000000000) (hB:∀w,Ok M R w→B≤w.heap.size):
  HE n (.call ⟨.builtin .append,#[x,y],#[t,t]⟩) E M R (fun _:Value=>True) (fun v'=>v') Mf (fun _=>R):=
 ⟨fun w hw=>by
  subst hs
  have hm:=(hw.m _ (hM undef).mem)
  have hbk:gO w bk cs Tb:=(hw.m _ hb.mem).1
  have hcl':=Nat.eq_of_beq_eq_true hcl
  have hbt':=Nat.le_of_ble_eq_true hbt
  refine(ck.qE (G:=G) (news:=cs) ht he hte (Nat.eq_of_beq_eq_true hzs) (by simpa using hsz) hx hm.1 hy (by rw[hcl'];omega) (fun j u hj=>by rw[Nat.zero_add];exact hbk.cell hj) (fun u hu=>List.all_eq_true.1 h1 u hu) LR (by have:=Nat.mul_le_mul (show m+1≤100000000001 by omega) hbt';omega) (hB w hw)).mono
   fun v' w' ⟨ho,hc,hob⟩=>⟨v',trivial,rfl,hw.yu (hM v') hc ho fun k hk=>⟨(ho.lt k hk).2,fun hlt=>?_⟩⟩
  rcases hob with e|e
  ·show v.ownBlock=some k
   rw[←e];exact hk
  ·have hk':v'.ownBlock=some k:=hk
   rw[e]at hk';cases hk';omega⟩
theorem Yl.kI {ti:TI} {b o:Nat} (ht:G.ty t=some ti) (ha:ti.agg=false) (hx:ev E x=some (.pointer (some ⟨b,o,none⟩))) (h:∀w,Ld w b o v M R):Yl G n (.load t x) E (Ok M R) v:=
 Yl.load ht ha hx fun w hw=>(h w).ok (fun q hq=>(hw.m q hq).1) (fun _p hp=>hw.get hp)
theorem Yl.ko {ti:TI} {b T:Nat} {cs:List Value} (ht:G.ty t=some ti) (ha:ti.agg=true) (hx:ev E x=some (.pointer (some ⟨b,0,none⟩))) (hs:Nat.beq cs.length ti.size=true) (hM:Up (.aT b cs T) (.aT b cs T) M M'):Yl G n (.load t x) E (Ok M R) (.agg cs.toArray):=
 Yl.uY ht ha rfl hx (Nat.eq_of_beq_eq_true hs) fun w hw j hj=>by
  have hb:gO w b cs T:=(hw.m _ hM.mem).1
  have hl:j<cs.length:=by rw[Nat.eq_of_beq_eq_true hs];exact hj
  rw[Nat.zero_add,List.getElem?_eq_getElem hl]
  exact hb.cell (List.getElem?_eq_getElem hl)
theorem Yl.ku {ti:TI} {b o:Nat} {cs:List Value} (ht:G.ty t=some ti) (ha:ti.agg=true) (hx:ev E x=some (.pointer (some ⟨b,o,none⟩))) (hR:Cs b o cs∈R) (hs:Nat.beq cs.length ti.size=true):Yl G n (.load t x) E (Ok M R) (.agg cs.toArray):=
 Yl.uY ht ha rfl hx (Nat.eq_of_beq_eq_true hs) fun w hw j hj=>hw.get hR j (by rw[Nat.eq_of_beq_eq_true hs];exact hj)
theorem Yl.nO {ti:TI} {b o s:Nat} {cs:List Value} {w0:World} (ht:G.ty t=some ti) (ha:ti.agg=true) (hx:ev E x=some (.pointer (some ⟨b,o,none⟩))) (hR:Ext w0∈R) (hs:ti.size=s) (hl:cs.length=s) (hc:∀j,j<s→w0.cell? ⟨b,o+j,none⟩=cs[j]?):Yl G n (.load t x) E (Ok M R) (.agg cs.toArray):=
 Yl.uY ht ha hs hx hl fun w hw j hj=>by
  have h1:=hc j hj
  rw[List.getElem?_eq_getElem Mj]at h1 ⊢
  exact(show Ext w0 w from hw.get hR).cell h1
theorem aa.aq {f:Nat} {args:List Operand} {tys:Array TypeId} {vs:List Value} (hf:G.fb[f]?=some true) (ha:jQ E args=some vs) (hd:Nat.blt d n=true)
  (hc:∀w,Ok M R w→Calls G.P f vs.toArray w (fun e w'=>e=.returned v∧Ext w w'))
  (h:aa ops Q n rest ((d,v)::E) M R):aa ops Q n (⟨some d,.call ⟨.value (.func f),args.toArray,tys⟩,ty,pos,aft,none⟩::rest) E M R:=
 ⟨fun w hw=>aw.call hf ha hd (hc w hw) fun _e w' ⟨e1,hx⟩=>⟨v,e1,h.h w' (hw.ext hx)⟩⟩
theorem aa.bV {f j:Nat} {b:Bool} {args:List Operand} {tys:Array TypeId} {vs:List Value} (hg:nH ops E j=some b) (hf:G.fb[f]?=some true) (ha:jQ E args=some vs) (hd:Nat.blt d n=true)
  (hc:∀w,Ok M R w→Calls G.P f vs.toArray w (fun e w'=>e=.returned v∧Ext w w'))
  (h:aa ops Q n rest ((d,v)::E) M R):aa ops Q n (⟨some d,.call ⟨.value (.func f),args.toArray,tys⟩,ty,pos,aft,some (j,b)⟩::rest) E M R:=
 ⟨fun w hw=>aw.xV hg hf ha hd (hc w hw) fun _e w' ⟨e1,hx⟩=>⟨v,e1,h.h w' (hw.ext hx)⟩⟩
def EL {β:Type} (V:Nat→World→β→Prop):Prop:=∀{lo:Nat} {x:β} {S:Nat→Prop} {w w':World},V lo w x→cg S w w'→(∀k,k<w.heap.size→lo≤k→¬S k)→V lo w' x
theorem HE.FZ {β:Type} {V:Nat→World→β→Prop} (tf:β→Value) {f:Nat} {args:List Operand} {tys:Array TypeId} {vs:List Value} (hV:EL V) (hf:G.fb[f]?=some true) (ha:jQ E args=some vs)
  (hc:∀w,Ok M R w→Calls G.P f vs.toArray w (fun e w'=>(∃x,e=.returned (tf x)∧V w.heap.size w' x)∧Ext w w')):
  HE n (.call ⟨.value (.func f),args.toArray,tys⟩) E M R (fun x:Nat×β=>∃w,Ok M R w∧x.1=w.heap.size) (fun x=>tf x.2) (fun _=>M) (fun x=>(fun w=>V x.1 w x.2)::R):=
 ⟨fun w hw=>(ck.call hf ha (hc w hw) (fun e w' h=>by obtain⟨⟨x,e1,_⟩,_⟩:=h;exact⟨_,e1⟩)).mono fun v w' ⟨⟨x,e1,hv⟩,hx⟩=>by
  cases e1
  refine⟨(w.heap.size,x),⟨w,hw,rfl⟩,rfl,(hw.ext hx).add fun w2 h2=>hV hv h2 fun k _ hk ⟨q,hq,hk'⟩=>?_⟩
  have:=(hw.m q hq).2 k hk';omega⟩
theorem HE.call {β:Type} {φ:β→Prop} {Mf:β→List a8} {Rf:β→List (World→Prop)} (tf:β→Value) {f:Nat} {args:List Operand} {tys:Array TypeId} {vs:List Value} (hf:G.fb[f]?=some true) (ha:jQ E args=some vs)
  (hc:∀w,Ok M R w→Calls G.P f vs.toArray w (fun e w'=>∃x,e=.returned (tf x)∧φ x∧Ok (Mf x) (Rf x) w')):HE n (.call ⟨.value (.func f),args.toArray,tys⟩) E M R φ tf Mf Rf:=
 ⟨fun w hw=>(ck.call hf ha (hc w hw) (fun e w' h=>by obtain⟨x,e1,_⟩:=h;exact⟨_,e1⟩)).mono fun v w' ⟨x,e1,h1,h2⟩=>by cases e1;exact⟨x,h1,rfl,h2⟩⟩
theorem aa.pure {φ:Prop} (hp:∀w,Ok M R w→φ) (h:φ→aa ops Q n l E M R):aa ops Q n l E M R:=⟨fun w hw=>(h (hp w hw)).h w hw⟩
theorem aZ.pure {φ:Prop} {c:Code} (hp:∀w,Ok M R w→φ) (h:φ→aZ Q n c E M R):aZ Q n c E M R:=⟨fun w hw=>(h (hp w hw)).h w hw⟩
theorem aa.freeze {q:a8} (p:World→Prop) (hr:Rm q M M') (hp:∀w',q.P w'→(∀r,r∈R→r w')→p w') (h:aa ops Q n l E M' (p::R)):aa ops Q n l E M R:=⟨fun w hw=>h.h w (hw.kB hr hp)⟩
theorem aZ.freeze {q:a8} {c:Code} (p:World→Prop) (hr:Rm q M M') (hp:∀w',q.P w'→(∀r,r∈R→r w')→p w') (h:aZ Q n c E M' (p::R)):aZ Q n c E M R:=⟨fun w hw=>h.h w (hw.kB hr hp)⟩
/-! a region that draws its order and holds effects, the last one of which waits for all others -/
structure bq (ops:Array Oper) (Q:Exit→Act→World→Prop) (Mc:List a8) (Rc:List (World→Prop)) (n:Nat) (l:List Oper) (E:Env) (M:List a8) (R:List (World→Prop)):Prop where
 h:∀w,Ok M R w→aw G ops (.mix true Q (Ok Mc Rc) w) n l E
theorem aZ.dB {id:Nat} {l:List Oper} (ord:List Nat) (z:Nat) (Mc:List a8) (Rc:List (World→Prop)) (hB:zX l ord z=true) (hM:Mc.Sublist M) (hR:∀p,p∈Rc→p∈R) (h:bq l.toArray Q Mc Rc n (pick l (ord++[z])) E M R):aZ Q n (.region id l.toArray true) E M R:=
 ⟨fun w hw=>Cd.dB ord z (Ok Mc Rc) hB (hw.drew.sub hM hR) (h.h w.drew hw.drew)⟩
section
variable {Mc:List a8} {Rc:List (World→Prop)} {β:Type} {φ:β→Prop} {vf:β→Value} {Mf:β→List a8} {Rf:β→List (World→Prop)}
theorem bq.y_ (hy:Yl G n op E (Ok Mc Rc) v) (hd:(nL op && Nat.blt d n)=true) (h:bq ops Q Mc Rc n rest ((d,v)::E) M R):bq ops Q Mc Rc n (⟨some d,op,ty,pos,aft,none⟩::rest) E M R:=
 ⟨fun w hw=>aw.y (M:=.mix true Q (Ok Mc Rc) w) hy hd (h.h w hw)⟩
theorem bq.he (he:HE n op E M R φ vf Mf Rf) (hd:(!nL op && Nat.blt d n)=true) (hM:∀x,Mc.Sublist (Mf x)) (hR:∀x p,p∈Rc→p∈Rf x) (h:∀x,φ x→bq ops Q Mc Rc n rest ((d,vf x)::E) (Mf x) (Rf x)):bq ops Q Mc Rc n (⟨some d,op,ty,pos,aft,none⟩::rest) E M R:=
 ⟨fun w hw=>aw.m (he.h w hw) hd fun v w' ⟨x,h1,h2,h3⟩=>by subst h2;exact⟨h3.sub (hM x) (hR x),(h x h1).h w' h3⟩⟩
theorem bq.GQ (he:HE n op E M R φ vf Mf Rf) (hd:(!nL op && Nat.blt d n)=true) (h:∀x,φ x→ah Q n .normal ((d,vf x)::E) (Mf x) (Rf x)):bq ops Q Mc Rc n [⟨some d,op,ty,pos,aft,none⟩] E M R:=
 ⟨fun w hw=>aw.mz (he.h w hw) hd fun v w' ⟨x,h1,h2,h3⟩=>by subst h2;exact aw.DE ((h x h1).h w' h3)⟩
theorem bq.iq (he:fQ n op E M R φ Mf Rf) (hd:nL op=false) (h:∀x,φ x→ah Q n .normal E (Mf x) (Rf x)):bq ops Q Mc Rc n [⟨none,op,ty,pos,aft,none⟩] E M R:=
 ⟨fun w hw=>aw.Iv (he.h w hw) hd fun _v w' ⟨x,h1,h3⟩=>aw.DE ((h x h1).h w' h3)⟩
variable {gd:Option (Nat×Bool)} {dd:Option Nat} {t2:TypeId}
theorem bq.aK {bo:BinOp} (h:bq ops Q Mc Rc n (⟨dd,.binOp bo t x y t2,ty,pos,aft,gd⟩::rest) E M R):bq ops Q Mc Rc n (⟨dd,.binOp bo t x y t2,ty,pos,aft,gd⟩::rest) E M R:=h
theorem bq.isField {f:Nat} (h:bq ops Q Mc Rc n (⟨dd,.fieldAddr t x f,ty,pos,aft,gd⟩::rest) E M R):bq ops Q Mc Rc n (⟨dd,.fieldAddr t x f,ty,pos,aft,gd⟩::rest) E M R:=h
theorem bq.dk (h:bq ops Q Mc Rc n (⟨dd,.load t x,ty,pos,aft,gd⟩::rest) E M R):bq ops Q Mc Rc n (⟨dd,.load t x,ty,pos,aft,gd⟩::rest) E M R:=h
end
theorem aZ.cM {id:Nat} {l:List Oper} (hB:Region.lexB .any l.toArray=true) (h:aw G l.toArray (.quiet (fun a'=>∀w',Ok M R w'→Q .normal a' w') (Ok M R)) n l E):aZ Q n (.region id l.toArray true) E M R:=
 ⟨fun _w hw=>Cd.Dy (Ok M R) hB hw.drew h⟩
theorem aZ.mY {id:Nat} {l:List Oper} (_:(l.all fun o=>nL o.op)=true) (hB:Region.lexB .any l.toArray=true) (h:aw G l.toArray (.quiet (fun a'=>∀w',Ok M R w'→Q .normal a' w') (Ok M R)) n l E):aZ Q n (.region id l.toArray true) E M R:=aZ.cM hB h
theorem aw.G7 (h:ah Q n .normal E M R):aw G ops (.quiet (fun a'=>∀w',Ok M R w'→Q .normal a' w') (Ok M R)) n [] E:=⟨fun a ha w' hw=>(h.h w' hw).h a ha⟩
theorem aw.mT {K:Act→Prop} {f:Nat} {args:List Operand} {tys:Array TypeId} {vs:List Value} (hf:G.fb[f]?=some true) (ha:jQ E args=some vs) (hd:Nat.blt d n=true) (hc:∀w,Ok M R w→Calls G.P f vs.toArray w (fun e w'=>e=.returned v∧Ext w w'))
  (h:aw G ops (.quiet K (Ok M R)) n rest ((d,v)::E)):aw G ops (.quiet K (Ok M R)) n (⟨some d,.call ⟨.value (.func f),args.toArray,tys⟩,ty,pos,aft,none⟩::rest) E:=
 aw.GB hf ha hd (fun w hw=>(hc w hw).mono fun _e _w' ⟨e1,hx⟩=>⟨e1,hw.ext hx⟩) h
theorem aw.kN {K:Act→Prop} {f j:Nat} {b:Bool} {args:List Operand} {tys:Array TypeId} {vs:List Value} (hg:nH ops E j=some b) (hf:G.fb[f]?=some true) (ha:jQ E args=some vs) (hd:Nat.blt d n=true) (hc:∀w,Ok M R w→Calls G.P f vs.toArray w (fun e w'=>e=.returned v∧Ext w w'))
  (h:aw G ops (.quiet K (Ok M R)) n rest ((d,v)::E)):aw G ops (.quiet K (Ok M R)) n (⟨some d,.call ⟨.value (.func f),args.toArray,tys⟩,ty,pos,aft,some (j,b)⟩::rest) E:=
 aw.Fy hg hf ha hd (fun w hw=>(hc w hw).mono fun _e _w' ⟨e1,hx⟩=>⟨e1,hw.ext hx⟩) h
def Af {σ:Type} (n:Nat) (Ei:σ→Env) (Mi:σ→List a8) (Ri:σ→List (World→Prop)) (I:σ→Prop) (μ:σ→Nat) (s:σ):Act→World→Prop:=
 rL n Ei (fun s w=>I s∧Ok (Mi s) (Ri s) w) μ s
theorem aZ.loop {σ:Type} {c:Code} (Ei:σ→Env) (Mi:σ→List a8) (Ri:σ→List (World→Prop)) (I:σ→Prop) (μ:σ→Nat) (s0:σ) (hE:Sub E (Ei s0)) (hM:(Mi s0).Sublist M) (hR:∀p,p∈Ri s0→p∈R) (hI:I s0)
  (round:∀s,I s→aZ (Exit.then (Af n Ei Mi Ri I μ s) Q) n c (Ei s) (Mi s) (Ri s)):aZ Q n (.loop c) E M R:=
 ⟨fun _w hw=>Cd.loop Ei (fun s w=>I s∧Ok (Mi s) (Ri s) w) μ s0 hE ⟨hI,hw.sub hM hR⟩ fun s w ⟨h1,h2⟩=>(round s h1).h w h2⟩
theorem ah.next {σ:Type} {Ei:σ→Env} {Mi:σ→List a8} {Ri:σ→List (World→Prop)} {I:σ→Prop} {μ:σ→Nat} {s:σ} (s':σ) (hE:Sub E (Ei s')) (hM:(Mi s').Sublist M) (hR:∀p,p∈Ri s'→p∈R) (hI:I s') (hμ:μ s'<μ s):
  ah (Exit.then (Af n Ei Mi Ri I μ s) Q) n .normal E M R:=⟨fun _w hw=>Fin.next s' hE ⟨hI,hw.sub hM hR⟩ hμ⟩
end
section
variable {fn:Func} {Rp:Ending→World→Prop} {n:Nat} {E:Env} {M M':List a8} {R:List (World→Prop)} {v x:Value} {t u:Nat}
theorem ah.Ck (hr:fn.results=#[]) (hR:∀w,Ok M R w→Rp (.returned (.tuple #[])) w):ah (bodyPost G.P fn Rp) n .ret E M R:=⟨fun w hw=>Fin.Ck hr (hR w hw)⟩
theorem ah.n8 (hr:fn.results=#[]) (hR:∀w,Ok M R w→Rp (.returned (.tuple #[])) w):ah (bodyPost G.P fn Rp) n .normal E M R:=⟨fun w hw=>Fin.n8 hr (hR w hw)⟩
theorem ah.aB (hr:fn.results=#[.tmp t]) (hv:lk E t=some v) (hR:∀w,Ok M R w→Rp (.returned v) w):ah (bodyPost G.P fn Rp) n .ret E M R:=⟨fun w hw=>Fin.aB hr hv (hR w hw)⟩
theorem ah.nz (hr:fn.results=#[.tmp t,.tmp u]) (hv:lk E t=some v) (hx:lk E u=some x) (hR:∀w,Ok M R w→Rp (.returned (.tuple #[v,x])) w):ah (bodyPost G.P fn Rp) n .ret E M R:=⟨fun w hw=>Fin.nz hr hv hx (hR w hw)⟩
theorem ah.a6 {e:Exit} {a T Tb b s:Nat} {ti:TI} {cs:List Value} (he:e=.ret∨e=.normal) (hr:fn.results=#[.cell a T]) (ha:lk E a=some (.pointer (some ⟨b,0,none⟩))) (hT:G.ty T=some ti) (hag:ti.agg=true) (hsz:ti.size=s) (hM:Up (.aT b cs Tb) (.aT b cs Tb) M M') (hl:cs.length=s) (hR:∀w,Ok M R w→Rp (.returned (.agg cs.toArray)) w):ah (bodyPost G.P fn Rp) n e E M R:=
 ⟨fun w hw=>Fin.a6 he hr ha hT hag hsz (hw.m _ hM.mem).1 hl (hR w hw)⟩
theorem ah.aF {e:Exit} {a T Tb b s:Nat} {ti:TI} {cs:List Value} (he:e=.ret∨e=.normal) (hr:fn.results=#[.cell a T,.tmp t]) (ha:lk E a=some (.pointer (some ⟨b,0,none⟩))) (hT:G.ty T=some ti) (hag:ti.agg=true) (hsz:ti.size=s) (hM:Up (.aT b cs Tb) (.aT b cs Tb) M M') (hl:cs.length=s) (hv:lk E t=some v) (hR:∀w,Ok M R w→Rp (.returned (.tuple #[.agg cs.toArray,v])) w):ah (bodyPost G.P fn Rp) n e E M R:=
 ⟨fun w hw=>Fin.aF he hr ha hT hag hsz (hw.m _ hM.mem).1 hl hv (hR w hw)⟩
end
theorem ae {f:FuncId} {fn:Func} {c:Code} {n:Nat} {l:List Value} {w:World} {Rp:Ending→World→Prop} {M:List a8} {R:List (World→Prop)} (hf:G.P.funcs[f]?=some fn) (hb:fn.body=some c) (hn:fn.ntmps=n) (hl:Nat.ble l.length n=true) (hw:Ok M R w)
  (h:aZ (bodyPost G.P fn Rp) n c (yX 0 l) M R):Calls G.P f l.toArray w Rp:=enter (G:=G) hf hb hn hl (h.h w hw)
theorem rj {R:List (World→Prop)}:∀p,p∈([]:List (World→Prop))→p∈R:=fun _ h=>by cases h
theorem pg {p:World→Prop} {R R':List (World→Prop)} (h:p∈R) (hr:∀x,x∈R'→x∈R):∀x,x∈p::R'→x∈R:=fun x hx=>(List.mem_cons.1 hx).elim (fun e=>e ▸ h) (hr x)
section
variable {ops:Array Oper} {Q:Exit→Act→World→Prop} {n:Nat} {E:Env} {M M':List a8} {R:List (World→Prop)} {rest l:List Oper} {op:Op} {d:Option Nat} {ty:TypeId} {pos:String} {aft:Array Edge} {gd:Option (Nat×Bool)} {v:Value} {x y z:Operand} {t t2:TypeId} {C:World→Prop}
theorem Yl.jF {ti:TI} {f o bk:Nat} (ht:G.ty t=some ti) (ho:ti.nA[f]?=some o) (hx:ev E x=some (.pointer (some ⟨bk,0,none⟩))):Yl G n (.fieldAddr t x f) E C (.pointer (some ⟨bk,o,none⟩)):=by
 have:=Yl.field (G:=G) (n:=n) (E:=E) (C:=C) ht ho hx
 rwa[Nat.zero_add]at this
theorem aa.is (h:aa ops Q n l E M R):aa ops Q n l E M R:=h
theorem aZ.is {c:Code} (h:aZ Q n c E M R):aZ Q n c E M R:=h
theorem ah.is {e:Exit} (h:ah Q n e E M R):ah Q n e E M R:=h
theorem aa.As {jb:Nat×Bool} (h:aa ops Q n (⟨d,op,ty,pos,aft,some jb⟩::rest) E M R):aa ops Q n (⟨d,op,ty,pos,aft,some jb⟩::rest) E M R:=h
theorem aa.aK {bo:BinOp} (h:aa ops Q n (⟨d,.binOp bo t x y t2,ty,pos,aft,gd⟩::rest) E M R):aa ops Q n (⟨d,.binOp bo t x y t2,ty,pos,aft,gd⟩::rest) E M R:=h
theorem aa.ek (h:aa ops Q n (⟨d,.indexAddr t x y,ty,pos,aft,gd⟩::rest) E M R):aa ops Q n (⟨d,.indexAddr t x y,ty,pos,aft,gd⟩::rest) E M R:=h
theorem aa.isField {f:Nat} (h:aa ops Q n (⟨d,.fieldAddr t x f,ty,pos,aft,gd⟩::rest) E M R):aa ops Q n (⟨d,.fieldAddr t x f,ty,pos,aft,gd⟩::rest) E M R:=h
theorem aa.dk (h:aa ops Q n (⟨d,.load t x,ty,pos,aft,gd⟩::rest) E M R):aa ops Q n (⟨d,.load t x,ty,pos,aft,gd⟩::rest) E M R:=h
theorem aa.wv (h:aa ops Q n (⟨none,.store t x y,ty,pos,aft,gd⟩::rest) E M R):aa ops Q n (⟨none,.store t x y,ty,pos,aft,gd⟩::rest) E M R:=h
end
theorem Ok.start (w:World):Ok [] [Ext w] w:=
 ⟨fun q h=>absurd h Mk,List.Pairwise.nil,fun p hp w' hc=>by
  rw[List.mem_singleton]at hp;subst hp;exact hc.mono (fun k _ ⟨q,hq,_⟩=>absurd hq Mk)⟩
inductive App:List Value→List Value→List Value→Prop
 |nil {b:List Value}:App [] b b
 |cons {x:Value} {a b c:List Value}:App a b c→App (x::a) b (x::c)
inductive Cells:List Value→List Value→Prop
 |nil:Cells [] []
 |agg {l vs cs out:List Value}:Cells vs cs→App l cs out→Cells (.agg l.toArray::vs) out
 |one {v:Value} {vs cs:List Value}:Cells vs cs→Cells (v::vs) (v::cs)
def ru (s:Nat):List Value→List (Nat×Value)→Option (List Value)
 |cs,[]=>some cs
 |cs,(i,v)::r=>bif (Nat.beq v.cells.toList.length s && Nat.ble (i*s+v.cells.toList.length) cs.length)then ru s (Bu cs (i*s) v.cells.toList) r else none
theorem xo {s:Nat}:∀{parts:List (Nat×Value)} {cs c:List Value},ru s cs parts=some c→Instr.fill (fun i=>some (i*s,s)) cs.toArray parts=some c.toArray
 |[],cs,c,h=>by simp only[ru,Option.some.injEq]at h;subst h;rfl
 |(i,v)::r,cs,c,h=>by
  simp only[ru]at h
  unfold Instr.fill
  dsimp only at h ⊢
  cases hb:(Nat.beq v.cells.toList.length s && Nat.ble (i*s+v.cells.toList.length) cs.length)with
  |false=>rw[hb]at h;cases h
  |true=>
   rw[hb]at h
   simp only[Bool.and_eq_true]at hb
   have h1:=Nat.eq_of_beq_eq_true hb.1
   have h2:=Nat.le_of_ble_eq_true hb.2
   have e1:v.cells.size=s:=by simpa using h1
   have e2:¬i*s+v.cells.size>cs.toArray.size:=by simpa using h2
   rw[if_neg (by simp[e1];rw[e1]at e2;simpa using e2)]
   have h3:=xo h
   rw[←h3]
   congr 1
   have:=vr v.cells.toList cs (i*s) 0
   rw[Nat.add_zero]at this
   rw[this,←Array.foldl_toList,Array.toList_zipIdx]
def zg (len s:Nat) (zs:List Value):List Value:=(List.range (len*s)).map fun i=>zs.getD (i % zs.length) default
theorem sw {t e len s:Nat} {ti te:TI} {parts:List (Nat×Value)} {cs:List Value} (w:World) (ht:G.ty t=some ti) (he:ti.elem=some e) (hte:G.ty e=some te) (hs:te.size=s) (hlen:Nat.ble (len*s) 16777216=true) (hf:ru s (zg len s te.zero.cells.toList) parts=some cs):
  (Instr.buildSlice t len parts.toArray).run G.P w=.ok (.slice (some ⟨w.heap.size,0,none⟩) len len) (w.alloc (.cells cs.toArray e)):=by
 have h1:=(G.iw t ti ht).elem e he
 have h2:=(G.iw e te hte).size w
 have h3:=(G.iw e te hte).zeroV w
 rw[hs]at h2
 have h4:=xo hf
 have h5:¬len*s>2 ^ 24:=by have:=Nat.le_of_ble_eq_true hlen;omega
 by_cases h0:len*s=0
 ·have e0:(zg len s te.zero.cells.toList).toArray=(Array.range (len*s)).map ((#[]:Array Value)[·% (#[]:Array Value).size]!):=by simp[zg,h0]
  rw[e0]at h4
  simp[Instr.buildSlice,run_underlying h1,h2,h0,newRow]at h4 ⊢
  simp[h4]
 ·have e0:(zg len s te.zero.cells.toList).toArray=(Array.range (len*s)).map (te.zero.cells[·% te.zero.cells.size]!):=by
   apply Array.ext'
   simp[zg,List.getD_eq_getElem?_getD,Array.getElem!_eq_getD]
   skip
  rw[e0]at h4
  simp[Instr.buildSlice,run_underlying h1,h2,h0,h3,newRow,Nat.not_lt.2 (Nat.le_of_ble_eq_true hlen)]at h4 ⊢
  rw[h4];simp
section
variable {ops:Array Oper} {Q:Exit→Act→World→Prop} {n:Nat} {E:Env} {M M':List a8} {R:List (World→Prop)} {rest l:List Oper} {op:Op} {d:Nat} {ty:TypeId} {pos:String} {aft:Array Edge} {v:Value} {x y z:Operand} {t:TypeId} {C:World→Prop}
theorem Yl.jc {s bt:Nat} {el:Option Nat} {os:List Nat} {zs cs:List Value} {ik:Option IntKind} {parts:List (Nat×Operand)} {vs:List Value} (ht:G.ty t=some ⟨s,bt,true,el,os,.agg zs.toArray,ik⟩) (ho:os.isEmpty=false) (hv:jQ E (parts.map (·.2))=some vs) (_hc:Cells vs cs) (hf:mC (oN os s) zs ((parts.map (·.1)).zip vs)=some cs):
  Yl G n (.build t parts.toArray) E C (.agg cs.toArray):=by
 have:=Yl.fM (n:=n) (E:=E) (C:=C) (parts:=parts) ht ho hv (by rw[hf];rfl)
 rw[hf]at this;exact this
theorem Yl.iV {s bt:Nat} {el:Option Nat} {os:List Nat} {zs:List Value} {ik:Option IntKind} (ht:G.ty t=some ⟨s,bt,true,el,os,.agg zs.toArray,ik⟩) (ho:os.isEmpty=false):Yl G n (.build t #[]) E C (.agg zs.toArray):=
 Yl.fM (n:=n) (E:=E) (C:=C) (parts:=[]) (vs:=[]) ht ho rfl rfl
theorem Yl.DS {k:IntKind} {p q:Int} {t2:TypeId} (hx:ev E x=some (.int k p)) (hy:ev E y=some (.int k q)):Yl G n (.binOp .gtr t x y t2) E C (.bool (decide (q<p))):=Yl.bin hx hy (fun w=>by simp[binOp,Op.intCmp])
theorem Yl.DY {k:IntKind} {p q:Int} {t2:TypeId} (hx:ev E x=some (.int k p)) (hy:ev E y=some (.int k q)):Yl G n (.binOp .lss t x y t2) E C (.bool (decide (p<q))):=Yl.bin hx hy (fun w=>by simp[binOp,Op.intCmp])
theorem Yl.Eg {k:IntKind} {p q:Int} {t2:TypeId} (hx:ev E x=some (.int k p)) (hy:ev E y=some (.int k q)):Yl G n (.binOp .leq t x y t2) E C (.bool (decide (p≤q))):=Yl.bin hx hy (fun w=>by simp[binOp,Op.intCmp])
theorem Yl.DX {k:IntKind} {p q:Int} {t2:TypeId} (hx:ev E x=some (.int k p)) (hy:ev E y=some (.int k q)):Yl G n (.binOp .geq t x y t2) E C (.bool (decide (q≤p))):=Yl.bin hx hy (fun w=>by simp[binOp,Op.intCmp])
inductive hG:List Value→Nat→List Value→Prop
 |zero {l:List Value}:hG l 0 []
 |succ {a:Value} {l out:List Value} {s:Nat}:hG l s out→hG (a::l) (s+1) (a::out)
inductive gX:List Value→Nat→Nat→List Value→Prop
 |here {l out:List Value} {s:Nat}:hG l s out→gX l 0 s out
 |drop {a:Value} {l out:List Value} {o s:Nat}:gX l o s out→gX (a::l) (o+1) s out
theorem hG.get {l out:List Value} {s:Nat} (h:hG l s out):out.length=s∧∀j,j<s→out[j]?=l[j]?∧j<l.length:=by
 induction h with
 |zero=>exact⟨rfl,fun j hj=>by omega⟩
 |succ _ ih=>
  refine⟨by simp[ih.1],fun j hj=>?_⟩
  cases j with
  |zero=>simp
  |succ j=>have:=ih.2 j Mj;simpa using this
theorem gX.get {l out:List Value} {o s:Nat} (h:gX l o s out):out.length=s∧∀j,j<s→out[j]?=l[o+j]?∧o+j<l.length:=by
 induction h with
 |here h=>simpa using h.get
 |drop _ ih=>
  refine⟨ih.1,fun j hj=>?_⟩
  have:=ih.2 j hj
  rw[show∀o:Nat,o+1+j=o+j+1 from fun o=>by omega]
  simpa using this
theorem Yl.kv {ti:TI} {b o T s:Nat} {cs out:List Value} (ht:G.ty t=some ti) (ha:ti.agg=true) (hx:ev E x=some (.pointer (some ⟨b,o,none⟩))) (hs:ti.size=s) (hM:Up (.aT b cs T) (.aT b cs T) M M') (hc:gX cs o s out):Yl G n (.load t x) E (Ok M R) (.agg out.toArray):=
 Yl.uY ht ha hs hx hc.get.1 fun w hw j hj=>by
  have hb:gO w b cs T:=(hw.m _ hM.mem).1
  obtain⟨h1,h2⟩:=hc.get.2 j hj
  rw[h1,List.getElem?_eq_getElem h2]
  exact hb.cell (List.getElem?_eq_getElem h2)
theorem kk {pl:List (Nat×Nat)} {cs:List Value}:mC pl cs []=some cs:=rfl
theorem GH {cs:List Value} {o:Nat} {v:Value}:Bu cs o [v]=cs.set o v:=rfl
theorem kj {os:List Nat} {s i o:Nat} {zs cs' out:List Value} {v:Value} {r:List (Nat×Value)} (_h:os[i]?=some o) (hp:(oN os s)[i]?=some (o,1)) (hv:v.cells=#[v]) (hs:fw v zs o cs') (hr:mC (oN os s) cs' r=some out):mC (oN os s) zs ((i,v)::r)=some out:=by
 have:=hs.eq
 rw[mC,hp]
 simp only[hv]
 have hb:Nat.ble (o+1) zs.length=true:=Nat.ble_eq_true_of_le this.2
 simp[GH,this.1,hb,hr]
theorem Yl.iQ {s bt:Nat} {el:Option Nat} {os:List Nat} {zs cs:List Value} {ik:Option IntKind} {parts:List (Nat×Operand)} {vs:List Value} (ht:G.ty t=some ⟨s,bt,true,el,os,.agg zs.toArray,ik⟩) (ho:os.isEmpty=false) (hv:jQ E (parts.map (·.2))=some vs) (hf:mC (oN os s) zs ((parts.map (·.1)).zip vs)=some cs):
  Yl G n (.build t parts.toArray) E C (.agg cs.toArray):=by
 have:=Yl.fM (n:=n) (E:=E) (C:=C) (parts:=parts) ht ho hv (by rw[hf];rfl)
 rw[hf]at this;exact this
theorem HE.jJ {e len s:Nat} {ti te:TI} {parts:List (Nat×Operand)} {vs cs:List Value} (ht:G.ty t=some ti) (he:ti.elem=some e) (hte:G.ty e=some te) (hs:te.size=s) (hv:jQ E (parts.map (·.2))=some vs) (_hc:Cells vs cs) (hlen:Nat.ble (len*s) 16777216=true) (hf:ru s (zg len s te.zero.cells.toList) ((parts.map (·.1)).zip vs)=some cs):
  HE n (.buildSlice t len parts.toArray) E M R (fun _:Nat=>True) (fun b=>.slice (some ⟨b,0,none⟩) len len) (fun b=>.aT b cs e::M) (fun _=>R):=
 HE.Fe cs hv fun w=>sw w ht he hte hs hlen hf
theorem HE.dX {f:Nat} {args:List Operand} {tys:Array TypeId} {vs:List Value} (hf:G.fb[f]?=some true) (ha:jQ E args=some vs)
  (hc:∀w,Ok M R w→Calls G.P f vs.toArray w (fun e w'=>e=.returned v∧Ext w w')):HE n (.call ⟨.value (.func f),args.toArray,tys⟩) E M R (fun _:Unit=>True) (fun _=>v) (fun _=>M) (fun _=>R):=
 HE.call (fun _=>v) hf ha fun w hw=>(hc w hw).mono fun _e _w' ⟨e1,hx⟩=>⟨(),e1,trivial,hw.ext hx⟩
theorem Ok.ji {w:World} (h:Ok M R w) (B T s:Nat):Ok (.own B T s (.slice none 0 0) 0 []::M) R w:=
 h.push (cg.refl _ w) (World.ownsRow_nil w B T s) (fun k hk=>by cases(show(none:Option Nat)=some k from hk))
theorem aa.ji (B T s:Nat) (h:aa ops Q n l E (.own B T s (.slice none 0 0) 0 []::M) R):aa ops Q n l E M R:=⟨fun w hw=>h.h w (hw.ji B T s)⟩
theorem aZ.ji {c:Code} (B T s:Nat) (h:aZ Q n c E (.own B T s (.slice none 0 0) 0 []::M) R):aZ Q n c E M R:=⟨fun w hw=>h.h w (hw.ji B T s)⟩
theorem HE.kG {B T s m f:Nat} {xs:List Value} {args:List Operand} {tys:Array TypeId} {vs:List Value} (hf:G.fb[f]?=some true) (ha:jQ E args=some vs) (hB:∀w,Ok M R w→B≤w.heap.size)
  (hc:∀w,Ok M R w→Calls G.P f vs.toArray w (fun e w'=>(∃v,e=.returned v∧w'.ownsRow w.heap.size T s v m xs)∧Ext w w')):
  HE n (.call ⟨.value (.func f),args.toArray,tys⟩) E M R (fun _:Value=>True) (fun u=>u) (fun u=>.own B T s u m xs::M) (fun _=>R):=
 ⟨fun w hw=>(ck.call hf ha (hc w hw) (fun e w' h=>by obtain⟨⟨x,e1,_⟩,_⟩:=h;exact⟨_,e1⟩)).mono fun v w' ⟨⟨x,e1,hv⟩,hx⟩=>by
  cases e1
  exact⟨_,trivial,rfl,hw.push hx (BT hv fun k hk=>Nat.le_trans (hB w hw) (hv.lt k hk).1) (fun k hk=>hv.lt k hk)⟩⟩
theorem dP {w:World} {B T s m g cap:Nat} {xs:List Value} (h:w.ownsRow B T s (.slice (some ⟨g,0,none⟩) m cap) m xs) {j:Nat} {u:Value} (hj:xs[j]?=some u):w.cell? ⟨g,j,none⟩=some u:=by
 have:=World.ownsRow.cells h (g:=g) rfl j u hj
 have e:(⟨g,0,none⟩:Addr).add j=⟨g,j,none⟩:=by
  unfold Addr.add;split
  ·rename_i h0;rw[h0]
  ·simp
 rwa[e]at this
theorem HE.mu {Mf:Value→List a8} {ti te:TI} {B B2 T s m k:Nat} {xs ys:List Value} {u:Value} (hx:ev E x=some v) (hy:ev E y=some u) (hM:∀v',Up (.own B T s v m xs) (.own B T s v' (m+k) (xs++ys)) M (Mf v')) (hb:Up (.own B2 T s u k ys) (.own B2 T s u k ys) M M')
  (ht:G.ty t=some ti) (he:ti.elem=some T) (hte:G.ty T=some te) (hs:te.size=s) (hzs:Nat.beq te.zero.cells.size te.size=true) (hsz:Nat.blt 0 te.size=true) (hbt:Nat.ble te.bytes 1000=true) (h1:∀u∈ys,u.oneCell'=true) (hlen:m+k≤100000000000) (hB:∀w,Ok M R w→B≤w.heap.size):
  HE n (.call ⟨.builtin .append,#[x,y],#[t,t]⟩) E M R (fun _:Value=>True) (fun v'=>v') Mf (fun _=>R):=
 ⟨fun w hw=>by
  subst hs
  have hm:=(hw.m _ (hM undef).mem)
  have hu:w.ownsRow B2 T te.size u k ys:=(hw.m _ hb.mem).1
  have ho:w.ownsRow B T te.size v m xs:=hm.1
  have hbt':=Nat.le_of_ble_eq_true hbt
  have hsz':0<te.size:=by simpa using hsz
  obtain⟨p2,c2,rfl,_,_,hg⟩:=ax hu
  have key:∀v' w',w'.ownsRow B T te.size v' (m+k) (xs++ys)→cg (fun k=>v.ownBlock=some k) w w'→(v'.ownBlock=v.ownBlock∨v'.ownBlock=some w.heap.size)→∃x:Value,True∧v'=x∧Ok (Mf x) R w':=fun v' w' ho' hc hob=>
   ⟨v',trivial,rfl,hw.yu (hM v') hc ho' fun i hi=>⟨(ho'.lt i hi).2,fun hlt=>by
    rcases hob with e|e
    ·show v.ownBlock=some i
     rw[←e];exact hi
    ·have hk':v'.ownBlock=some i:=hi
     rw[e]at hk';cases hk';omega⟩⟩
  by_cases h0:k=0
  ·subst h0
   obtain⟨po,c,rfl,hc,_⟩:=ax ho
   have hy0:ys=[]:=List.eq_nil_of_length_eq_zero (by have:=hu.1;simpa using this)
   subst hy0
   refine(ck.vH (G:=G) ht he hte hx hc hy).mono ?_
   rintro _ _ ⟨rfl,rfl⟩
   exact jp
  ·obtain⟨g,rfl,_,_⟩:=hg (Nat.pos_of_ne_zero h0)
   have hfull:w.ownsRow B2 T te.size (.slice (some ⟨g,0,none⟩) k c2) k ys:=hu
   refine(ck.qE (G:=G) (news:=ys) ht he hte (Nat.eq_of_beq_eq_true hzs) hsz' hx ho hy hu.1 (fun j u hj=>by rw[Nat.zero_add];exact dP hfull hj) h1 LR (by have:=Nat.mul_le_mul hlen hbt';omega) (hB w hw)).mono fun v' w' ⟨a,b,c⟩=>key v' w' a b c⟩
theorem HE.Gk {Mf:Value→List a8} {ti te:TI} {B T s m k c:Nat} {po:Option Addr} {xs:List Value} (ys:List Value) (hx:ev E x=some v) (hy:ev E y=some (.slice po k c)) (hM:∀v',Up (.own B T s v m xs) (.own B T s v' (m+k) (xs++ys)) M (Mf v'))
  (hrd:k=0∨∃bk o,po=some ⟨bk,o,none⟩∧∀w,Ok M R w→∀j u,ys[j]?=some u→w.cell? ⟨bk,o+j,none⟩=some u) (hys:ys.length=k*s)
  (ht:G.ty t=some ti) (he:ti.elem=some T) (hte:G.ty T=some te) (hs:te.size=s) (hzs:Nat.beq te.zero.cells.size te.size=true) (hsz:Nat.blt 0 te.size=true) (hbt:Nat.ble te.bytes 1000=true) (h1:∀u∈ys,u.oneCell'=true) (hlen:m+k≤100000000000) (hB:∀w,Ok M R w→B≤w.heap.size):
  HE n (.call ⟨.builtin .append,#[x,y],#[t,t]⟩) E M R (fun _:Value=>True) (fun v'=>v') Mf (fun _=>R):=
 ⟨fun w hw=>by
  subst hs
  have hm:=(hw.m _ (hM undef).mem)
  have ho:w.ownsRow B T te.size v m xs:=hm.1
  have hbt':=Nat.le_of_ble_eq_true hbt
  have hsz':0<te.size:=by simpa using hsz
  have key:∀v' w',w'.ownsRow B T te.size v' (m+k) (xs++ys)→cg (fun k=>v.ownBlock=some k) w w'→(v'.ownBlock=v.ownBlock∨v'.ownBlock=some w.heap.size)→∃x:Value,True∧v'=x∧Ok (Mf x) R w':=fun v' w' ho' hc hob=>
   ⟨v',trivial,rfl,hw.yu (hM v') hc ho' fun i hi=>⟨(ho'.lt i hi).2,fun hlt=>by
    rcases hob with e|e
    ·show v.ownBlock=some i
     rw[←e];exact hi
    ·have hk':v'.ownBlock=some i:=hi
     rw[e]at hk';cases hk';omega⟩⟩
  by_cases h0:k=0
  ·subst h0
   obtain⟨po,c,rfl,hc,_⟩:=ax ho
   have hy0:ys=[]:=List.eq_nil_of_length_eq_zero (by simpa using hys)
   subst hy0
   refine(ck.vH (G:=G) ht he hte hx hc hy).mono ?_
   rintro _ _ ⟨rfl,rfl⟩
   exact jp
  ·obtain⟨bk,o,rfl,hr⟩:=hrd.resolve_left h0
   refine(ck.qE (G:=G) (news:=ys) ht he hte (Nat.eq_of_beq_eq_true hzs) hsz' hx ho hy hys (fun j u hj=>hr w hw j u hj) h1 LR (by have:=Nat.mul_le_mul hlen hbt';omega) (hB w hw)).mono fun v' w' ⟨a,b,c⟩=>key v' w' a b c⟩
theorem zf {w:World} {b _e s len:Nat} {cs:List Value} {T:TypeId} (h:gO w b cs T) (hs:cs.length=len*s) (hl:len≤maxLen) (B:Nat) (hB:B≤b):w.ownsRow B T s (.slice (some ⟨b,0,none⟩) len len) len cs:=
 ⟨hs,.inr ⟨b,len,cs.toArray,rfl,hB,h,Nat.le_refl _,hl,by simpa using hs,by simp[←hs]⟩⟩
theorem Ok.iS {w:World} {b s len:Nat} {cs:List Value} {T:TypeId} (h:Ok M R w) (hM:Up (.aT b cs T) (.own 0 T s (.slice (some ⟨b,0,none⟩) len len) len cs) M M') (hs:cs.length=len*s) (hl:len≤maxLen):Ok M' R w:=
 h.yu hM (cg.refl _ w) (zf (_e:=0) (h.m _ hM.mem).1 hs hl 0 (Nat.zero_le _)) (fun k hk=>by
  have hk':some b=some k:=hk
  cases hk'
  exact⟨(h.m _ hM.mem).2 b rfl,fun _=>rfl⟩)
theorem aa.iS {b len:Nat} {cs:List Value} {T:TypeId} (s:Nat) (hM:Up (.aT b cs T) (.own 0 T s (.slice (some ⟨b,0,none⟩) len len) len cs) M M') (hs:cs.length=len*s) (hl:len≤maxLen) (h:aa ops Q n l E M' R):aa ops Q n l E M R:=⟨fun w hw=>h.h w (hw.iS hM hs hl)⟩
theorem vI {B T s n n':Nat} {v v':Value} {xs xs':List Value} (h1:v'=v) (h2:n'=n) (h3:xs'=xs) (h:M'.Sublist M):(a8.own B T s v' n' xs'::M').Sublist (a8.own B T s v n xs::M):=by subst h1;subst h2;subst h3;exact h.cons_cons _
end
def FW (ro:Option Nat):Fence:={Fence.wide with round:=ro}
theorem oU {ro:Option Nat} {m:Nat} {f:FuncId} {args:Array Value} {w:World} {R:Ending→World→Prop} (h:Calls G.P f args w R):CallsIn (FW ro) m G.P f args w R:=by
 have h1:CallsIn Fence.wide m G.P f args w R:=callsIn_wide.2 h
 cases ro with
 |none=>exact h1
 |some l=>exact h1.inRound l
structure s7 (n:Nat) (D:List Deferred) (a:Act) (E:Env):Prop where
 ag:Ag n {a with defers:=[]} E
 df:a.defers=D
theorem s7.of {n:Nat} {a:Act} {E:Env} (h:Ag n a E):s7 n [] a E:=⟨⟨h.sz,rfl,h.eq⟩,h.df⟩
theorem s7.Em {n:Nat} {a:Act} {E:Env} (h:s7 n [] a E):Ag n a E:=⟨h.ag.sz,h.df,h.ag.eq⟩
theorem wX (a:Act):({a with defers:=[]}:Act).eval=a.eval:=by funext x;cases x<;>rfl
theorem s7.eval {n:Nat} {D:List Deferred} {a:Act} {E:Env} (h:s7 n D a E) {x:Operand} {v:Value} (hx:ev E x=some v):a.eval x=v:=by rw[←wX];exact h.ag.eval hx
theorem s7.put {n:Nat} {D:List Deferred} {a:Act} {E:Env} (h:s7 n D a E) {d:Nat} (hd:d<n) (v:Value):s7 n D (a.put (some d) v) ((d,v)::E):=⟨h.ag.put hd v,by simp[Act.put,h.df]⟩
theorem s7.sub {n:Nat} {D:List Deferred} {a:Act} {E E':Env} (h:s7 n D a E) (hs:Sub E E'):s7 n D a E':=⟨h.ag.sub hs,h.df⟩
structure dW (ro:Option Nat) (m:Nat) (D:List Deferred) (ops:Array Oper) (Q:Exit→Act→World→Prop) (n:Nat) (l:List Oper) (E:Env) (w:World):Prop where
 h:∀a,s7 n D a E→wpListIn (FW ro) m G.P ops Q l a w
structure jE (ro:Option Nat) (m:Nat) (D:List Deferred) (Q:Exit→Act→World→Prop) (n:Nat) (c:Code) (E:Env) (w:World):Prop where
 h:∀a,s7 n D a E→c.wpIn (FW ro) m G.P Q a w
structure eJ (D:List Deferred) (Q:Exit→Act→World→Prop) (n:Nat) (e:Exit) (E:Env) (w:World):Prop where
 h:∀a,s7 n D a E→Q e a w
section
variable {ro:Option Nat} {m:Nat} {D:List Deferred} {Q:Exit→Act→World→Prop} {n:Nat} {E:Env} {w:World} {ops:Array Oper} {rest:List Oper} {op:Op} {d:Nat} {ty:TypeId} {pos:String} {aft:Array Edge} {v:Value} {K:Value→World→Prop}
theorem jE.seq {x y:Code} (h:jE ro m D (Exit.then (y.wpIn (FW ro) m G.P Q) Q) n x E w):jE ro m D Q n (.seq x y) E w:=⟨fun a ha=>wpIn_seq (h.h a ha)⟩
theorem jE.block {id:Nat} {c:Code} (h:jE ro m D (Exit.inBlock id Q) n c E w):jE ro m D Q n (.block id c) E w:=⟨fun a ha=>wpIn_block (h.h a ha)⟩
theorem jE.skip (h:eJ D Q n .normal E w):jE ro m D Q n .skip E w:=⟨fun a ha=>wpIn_skip (h.h a ha)⟩
theorem jE.exit {id:Nat} (h:eJ D Q n (.exit id) E w):jE ro m D Q n (.exit id) E w:=⟨fun a ha=>wpIn_exit (h.h a ha)⟩
theorem jE.ret (h:eJ D Q n .ret E w):jE ro m D Q n .ret E w:=⟨fun a ha=>wpIn_ret (h.h a ha)⟩
theorem jE.region {id:Nat} {l:List Oper} (h:dW ro m D l.toArray Q n l E w):jE ro m D Q n (.region id l.toArray false) E w:=⟨fun a ha=>wpIn_region_lit (h.h a ha)⟩
theorem jE.iU {c:Operand} {x y:Code} (hc:ev E c=some (.bool true)) (h:jE ro m D Q n x E w):jE ro m D Q n (.cond c x y) E w:=⟨fun a ha=>wpIn_cond_true (ha.eval hc) (h.h a ha)⟩
theorem jE.iW {c:Operand} {x y:Code} (hc:ev E c=some (.bool false)) (h:jE ro m D Q n y E w):jE ro m D Q n (.cond c x y) E w:=⟨fun a ha=>wpIn_cond_false (ha.eval hc) (h.h a ha)⟩
theorem eJ.kY {y:Code} (h:jE ro m D Q n y E w):eJ D (Exit.then (y.wpIn (FW ro) m G.P Q) Q) n .normal E w:=⟨fun a ha=>h.h a ha⟩
theorem eJ.Ey {K:Act→World→Prop} (h:∀a,s7 n D a E→K a w):eJ D (Exit.then K Q) n .normal E w:=⟨fun a ha=>h a ha⟩
theorem eJ.lB {K:Act→World→Prop} (h:eJ D Q n .ret E w):eJ D (Exit.then K Q) n .ret E w:=⟨fun a ha=>h.h a ha⟩
theorem eJ.lj {K:Act→World→Prop} {id:Nat} (h:eJ D Q n (.exit id) E w):eJ D (Exit.then K Q) n (.exit id) E w:=⟨fun a ha=>h.h a ha⟩
theorem eJ.pf {id:Nat} (h:eJ D Q n .normal E w):eJ D (Exit.inBlock id Q) n .normal E w:=⟨fun a ha=>h.h a ha⟩
theorem eJ.oZ {id:Nat} (h:eJ D Q n .ret E w):eJ D (Exit.inBlock id Q) n .ret E w:=⟨fun a ha=>h.h a ha⟩
theorem eJ.py {id:Nat} (h:eJ D Q n .normal E w):eJ D (Exit.inBlock id Q) n (.exit id) E w:=⟨fun a ha=>by simp only[Exit.inBlock,if_true];exact h.h a ha⟩
theorem dW.nil (h:eJ D Q n .normal E w):dW ro m D ops Q n [] E w:=⟨fun a ha=>h.h a ha⟩
theorem oJ {a:Act} {o:Oper} (hg:o.guard=none) (h:o.wpIn (FW ro) m G.P a w (wpListIn (FW ro) m G.P ops Q rest) Q):wpListIn (FW ro) m G.P ops Q (o::rest) a w:=by
 have hw:Region.wanted o (yielded ops a.tmps)=true:=by simp[Region.wanted,hg]
 show(if Region.wanted o (yielded ops a.tmps)then _ else _)
 rw[if_pos hw];exact h
def jI:Op→Bool
 |.defer _=>false
 |_=>true
theorem xU {op:Op} (h:nL op=true):∀c,op≠.defer c:=by rintro c rfl;simp[nL]at h
theorem dW.y (hy:Yl G n op E (fun w'=>w'=w) v) (hd:(nL op && Nat.blt d n)=true) (h:dW ro m D ops Q n rest ((d,v)::E) w):dW ro m D ops Q n (⟨some d,op,ty,pos,aft,none⟩::rest) E w:=⟨fun a ha=>by
 rw[Bool.and_eq_true]at hd
 have hr:=hy.h w rfl _ ha.ag (some d) ty pos aft none
 rw[wX]at hr
 have hs:Oper.semAt (FW ro).round a.eval ⟨some d,op,ty,pos,aft,none⟩=execOp a.eval ⟨some d,op,ty,pos,aft,none⟩:=Oper.semAt_eq _ _ _ (xU hd.1)
 refine oJ rfl ⟨fun _ _=>trivial,?_⟩
 rw[hs,hr]
 exact h.h _ (ha.put (by simpa using hd.2) v)⟩
theorem wT {a:Act} {o:Oper} {next:Act→World→Prop} {r:Result Next} (h:kq G.P (fun v w'=>next (a.put o.dst v) w') r):o.uponIn (FW ro) m G.P a next Q r:=by
 cases r with
 |ok x w'=>
  cases x<;>simp only[kq]at h
  case value v=>exact h
  case skip=>exact h
  case enter f args=>
   refine⟨fun e=>?_,(oU h).mono ?_⟩
   ·cases e
   ·rintro e w'' ⟨v,rfl,hv⟩;exact hv
 |halt x w'=>exact h.elim
theorem dW.e (he:ck G n op E w K) (hn:jI op=true) (hd:Nat.blt d n=true) (h:∀v w',K v w'→dW ro m D ops Q n rest ((d,v)::E) w'):dW ro m D ops Q n (⟨some d,op,ty,pos,aft,none⟩::rest) E w:=⟨fun a ha=>by
 have hr:=he.h _ ha.ag (some d) ty pos aft none
 rw[wX]at hr
 have hs:Oper.semAt (FW ro).round a.eval ⟨some d,op,ty,pos,aft,none⟩=execOp a.eval ⟨some d,op,ty,pos,aft,none⟩:=Oper.semAt_eq _ _ _ (by rintro c rfl;simp[jI]at hn)
 refine oJ rfl ⟨fun _ _=>trivial,?_⟩
 rw[hs]
 exact wT (cQ hr (fun v w' hk=>(h v w' hk).h _ (ha.put LW v)))⟩
theorem dW.e0 (he:ck G n op E w K) (hn:jI op=true) (h:∀v w',K v w'→dW ro m D ops Q n rest E w'):dW ro m D ops Q n (⟨none,op,ty,pos,aft,none⟩::rest) E w:=⟨fun a ha=>by
 have hr:=he.h _ ha.ag none ty pos aft none
 rw[wX]at hr
 have hs:Oper.semAt (FW ro).round a.eval ⟨none,op,ty,pos,aft,none⟩=execOp a.eval ⟨none,op,ty,pos,aft,none⟩:=Oper.semAt_eq _ _ _ (by rintro c rfl;simp[jI]at hn)
 refine oJ rfl ⟨fun _ _=>trivial,?_⟩
 rw[hs]
 exact wT (cQ hr (fun v w' hk=>(h v w' hk).h a ha))⟩
theorem dW.round {l:Nat} {y:Operand} {args:List Operand} {tys:Array TypeId} {vs:List Value} {R:Ending→World→Prop} (hf:ev E y=some (.func (.yield l) #[] #[])) (ha:jQ E args=some vs) (hd:Nat.blt d n=true)
  (hY:YieldAt (FW ro) (m - 1) G.P l vs.toArray w R) (h:∀e w',R e w'→∃v,e=.returned v∧dW ro m D ops Q n rest ((d,v)::E) w'):
  dW ro m D ops Q n (⟨some d,.call ⟨.value y,args.toArray,tys⟩,ty,pos,aft,none⟩::rest) E w:=⟨fun a hag=>by
 obtain⟨fn,tmps,assign,body,hrun,hR⟩:=hY
 have e1:args.map a.eval=vs:=by rw[←wX];exact hag.ag.nN ha
 have hs:Oper.semAt (FW ro).round a.eval ⟨some d,.call ⟨.value y,args.toArray,tys⟩,ty,pos,aft,none⟩=execOp a.eval ⟨some d,.call ⟨.value y,args.toArray,tys⟩,ty,pos,aft,none⟩:=Oper.semAt_eq _ _ _ (by rintro c e;cases e)
 refine oJ rfl ⟨fun _ _=>trivial,?_⟩
 have hx:(execOp a.eval ⟨some d,.call ⟨.value y,args.toArray,tys⟩,ty,pos,aft,none⟩).run G.P w=.ok (.round l fn tmps assign body) w:=by
  simp[execOp,resolve,invoke,Deferred.ofValue,hag.eval hf,e1,hrun]
 rw[hs,hx]
 refine⟨fun e=>(by cases e),hR.mono ?_⟩
 rintro e w' hRe
 obtain⟨v,rfl,hv⟩:=h e w' hRe
 exact hv.h _ (hag.put LW v)⟩
theorem Cd.Am {id:Nat} {l:List Oper} (m:Nat) (h:dW none m [] l.toArray Q n l E w):Cd G Q n (.region id l.toArray false) E w:=⟨fun a ha=>wpIn_wide.1 (wpIn_region_lit (h.h a (s7.of ha)))⟩
def C9 (l:List (Nat×Value)) (E:Env):Env:=l.foldl (fun E pv=>pv::E) E
theorem Et:∀(l:List (Nat×Value)) {t:Array Value} {E:Env},Ag n ⟨t,[]⟩ E→(∀pv∈l,pv.1<n)→Ag n ⟨l.foldl (fun t pv=>t.setIfInBounds pv.1 pv.2) t,[]⟩ (C9 l E)
 |[],_,_,h,_=>h
 |(p,v)::r,t,E,h,hl=>Et r (t:=t.setIfInBounds p v) (E:=(p,v)::E) (h.put (hl (p,v) Mk) v) (fun pv hp=>hl pv (by simp[hp]))
theorem jE.rangeFunc {α:Type} {g:Operand} {ps:List Nat} {assign body:Code} {gf:Nat} {lb:List Value} (hg:ev E g=some (.func (.func gf) #[] lb.toArray)) (hf:G.fb[gf]?=some true) (hm:1≤m)
  {encs:α→List Value} {Kp:World→World→Prop} {S Sp:List α→Prop} {N:Nat} (hseq:SeqStopsK (FW none) (m - 1) G.P gf lb.toArray (fun x=>(encs x).toArray) Kp S Sp N w)
  (hKt:∀{A B C:World},Kp A B→Kp B C→Kp A C) (hKb:∀(W:World) (l:Nat) (o o':Obj),w.heap.size≤l→W.heap[l]?=some o→o.isCells=false→o.isWalk=false→Kp W (W.putObj l o')) (hKr:∀W,Kp W W) (hps:∀x,(encs x).length=ps.length) (hpn:(ps.all fun p=>Nat.blt p n)=true)
  (I:List α→World→Prop) (Ix:Code→List α→World→Prop) (hI:OwnFrom w.heap.size I) (hIx:∀c,OwnFrom w.heap.size (Ix c)) (h0:I [] w) (E1:α→Env)
  (hassign:∀(l:Nat) (x:α) (W:World) (K:Act→World→Prop),(∀a,s7 n [] a (E1 x)→K a W)→jE (some l) (m - 1 - 1) [] (Exit.then K (fun _ _ _=>False)) n assign (C9 (ps.zip (encs x)) E) W)
  (hbody:∀(l:Nat) (pre:List α) (x:α) (W:World),I pre W→pre.length<N→jE (some l) (m - 1 - 1) [] (ownPostG w.heap.size Kp I Ix (pre++[x]) W) n body (E1 x) W)
  (hdone:∀(Dn:Nat) (xs:List α) (W:World),w.heap.size≤Dn→S xs→I xs W→W.heap[Dn]?=some (.deferred (some []))→eJ ({target:=.collected Dn,args:=#[]}::D) Q n .normal E W)
  (hstop:∀(Dn:Nat) (c:Code) (pre:List α) (W:World),w.heap.size≤Dn→Sp pre→Ix c pre W→W.heap[Dn]?=some (.deferred (some []))→jE none m ({target:=.collected Dn,args:=#[]}::D) Q n c E W):
  jE none m D Q n (.rangeFunc g ps.toArray assign body) E w:=⟨fun a ha=>by
 refine wpIn_rangeFunc_ownH (F:=FW none) rfl hm (ha.eval hg) trivial (G.Bf gf hf) hseq hKt hKb (Below.refl _ _) (fun x=>by simpa using hps x) I Ix hI hIx h0 (fun x a' _=>s7 n [] a' (E1 x)) (fun x a' _ W W' row h _ _=>h) ?_ ?_ ?_ ?_
 ·intro l pre x W K hi hK
  refine(hassign l x W K (fun a' h'=>hK a' W (KeepsFrom.refl _ _) (hKr W) hi h')).h _ ⟨?_,rfl⟩
  have e:(ps.toArray.zip (encs x).toArray).foldl (fun t (p,v)=>t.setIfInBounds p v) a.tmps=(ps.zip (encs x)).foldl (fun t pv=>t.setIfInBounds pv.1 pv.2) a.tmps:=by
   rw[←Array.foldl_toList];simp
  rw[e]
  refine Et _ ⟨ha.ag.sz,rfl,ha.ag.eq⟩ (fun pv hp=>?_)
  have:=List.all_eq_true.1 hpn pv.1 (List.of_mem_zip (show(pv.1,pv.2)∈_ from hp)).1
  simpa using this
 ·intro l pre x a' W _ _ hi hax hN
  exact(hbody l pre x W hi hN).h a' hax
 ·intro Dn xs W h1 h2 h3 h4
  exact(hdone Dn xs W h1 h2 h3 h4).h _ ⟨⟨ha.ag.sz,rfl,ha.ag.eq⟩,by simp[ha.df]⟩
 ·intro Dn c pre W h1 h2 h3 h4
  exact(hstop Dn c pre W h1 h2 h3 h4).h _ ⟨⟨ha.ag.sz,rfl,ha.ag.eq⟩,by simp[ha.df]⟩⟩
theorem eJ.Ee {fn:Func} {R:Ending→World→Prop} {e:Exit} {Dn:Nat} (he:e=.ret∨e=.normal) (hK:w.heap[Dn]?=some (.deferred (some [])))
  (hr:∀a,Ag n a E→(results fn a.tmps).run G.P (w.putObj Dn (.deferred none))=.ok v (w.putObj Dn (.deferred none))) (hR:R (.returned v) (w.putObj Dn (.deferred none))):eJ [{target:=.collected Dn,args:=#[]}] (bodyPostM (FW none) m G.P fn R) n e E w:=⟨fun a ha=>by
 have h1:=hr _ ha.ag
 have key:LeavesInM (FW none) m G.P fn a.tmps R a.defers .returning w:=by
  rw[ha.df]
  exact⟨by simp,.inl ⟨_,_,rfl,run_takeDeferred hK,⟨v,h1,hR⟩⟩⟩
 rcases he with rfl|rfl<;>exact key⟩
theorem CB {f:FuncId} {fn:Func} {c:Code} {l:List Value} {R:Ending→World→Prop} (m:Nat) (hf:G.P.funcs[f]?=some fn) (hb:fn.body=some c) (hn:fn.ntmps=n) (hl:Nat.ble l.length n=true)
  (h:jE none m [] (bodyPostM (FW none) m G.P fn R) n c (yX 0 l) w):Calls G.P f l.toArray w R:=by
 refine callsIn_wide.1 (callsIn_of_wp_marks (F:=Fence.wide) (n:=m) hf hb trivial (h.h _ (s7.of ?_)))
 have hl':l.length≤n:=Nat.le_of_ble_eq_true hl
 refine⟨by simp[hn];omega,rfl,fun t v ht=>?_⟩
 obtain⟨_,h2⟩:=wm l 0 t v ht
 rw[Nat.sub_zero]at h2
 obtain⟨h3,h4⟩:=List.getElem?_eq_some_iff.1 h2
 refine⟨by omega,?_⟩
 have:t<(l.toArray++Array.replicate (fn.ntmps - l.toArray.size) undef).size:=by simp;omega
 simp only[Array.getD,this,dite_true]
 rw[Array.getInternal_eq_getElem,Array.getElem_append_left (by simpa using h3)]
 simpa using h4
end
theorem eJ.ofFin {Q:Exit→Act→World→Prop} {n:Nat} {e:Exit} {E:Env} {w:World} (h:Fin Q n e E w):eJ [] Q n e E w:=⟨fun a ha=>h.h a ha.Em⟩
def ER:List Oper→Bool
 |[]=>true
 |⟨_,.call ⟨.value (.tmp _),_,_⟩,_,_,_,_⟩::_=>false
 |_::r=>ER r
theorem Cd.Er {Q:Exit→Act→World→Prop} {n:Nat} {E:Env} {w:World} {id:Nat} {l:List Oper} (_:ER l=true) (h:aw G l.toArray (.list Q w) n l E):Cd G Q n (.region id l.toArray false) E w:=Cd.region h
theorem Gs {g g':Prop} (h:g') (hw:dS g'→g:=by(intro hk_;(repeat(first|(first|refine aw.y (Yl.move rfl) rfl ?_|refine aw.y (Yl.assign rfl) rfl ?_|(refine aw.is ?_;(first|(refine aw.As ?_;(first|refine aw.gs rfl rfl rfl ?_|refine aw.gu rfl rfl ?_|refine aw.yg rfl (Yl.move rfl) rfl ?_|refine aw.yg rfl (Yl.assign rfl) rfl ?_|(refine aw.aK ?_;(first|(refine aw.aK (bo:=.lss) ?_;(first|refine aw.yg rfl (Yl.mj rfl rfl Mj) rfl ?_|refine aw.yg rfl (Yl.lQ rfl rfl Mj) rfl ?_))|(refine aw.aK (bo:=.eql) ?_;(first|refine aw.yg rfl (Yl.lH rfl rfl Mj) rfl ?_|refine aw.yg rfl (Yl.lY rfl rfl Mj) rfl ?_))|(refine aw.aK (bo:=.neq) ?_;(first|refine aw.yg rfl (Yl.lN rfl rfl Mj) rfl ?_|refine aw.yg rfl (Yl.lJ rfl rfl Mj) rfl ?_))|(refine aw.aK (bo:=.leq) ?_;(first|refine aw.yg rfl (Yl.me rfl rfl Mj) rfl ?_|refine aw.yg rfl (Yl.lV rfl rfl Mj) rfl ?_))|(refine aw.aK (bo:=.gtr) ?_;(first|refine aw.yg rfl (Yl.lR rfl rfl Mj) rfl ?_|refine aw.yg rfl (Yl.mc rfl rfl Mj) rfl ?_))|(refine aw.aK (bo:=.geq) ?_;(first|refine aw.yg rfl (Yl.mq rfl rfl Mj) rfl ?_|refine aw.yg rfl (Yl.lO rfl rfl Mj) rfl ?_))|refine aw.yg rfl (Yl.add rfl rfl Mj) rfl ?_|refine aw.yg rfl (Yl.sub rfl rfl Mj) rfl ?_|refine aw.yg rfl (Yl.jg rfl rfl rfl rfl) rfl ?_|fail))|(refine aw.isField ?_;(first|refine aw.yg rfl (Yl.gP rfl rfl rfl) rfl ?_|refine aw.yg rfl (Yl.field rfl rfl rfl) rfl ?_))|(refine aw.dk ?_;(first|refine aw.yg rfl (Yl.load rfl rfl rfl LG) rfl ?_|refine aw.yg rfl (Yl.load rfl rfl rfl eZ) rfl ?_))|(refine aw.ek ?_;(first|refine aw.yg rfl (Yl.gh rfl rfl rfl rfl rfl rfl Mj) rfl ?_|refine aw.yg rfl (Yl.idx rfl rfl rfl rfl rfl rfl Mj) rfl ?_))|refine aw.yg rfl (Yl.len rfl rfl rfl) rfl ?_|refine aw.yg rfl (Yl.extract rfl rfl) rfl ?_|refine aw.yg rfl (Yl.fZ rfl rfl) rfl ?_|refine aw.yg rfl (Yl.fW rfl rfl) rfl ?_|refine aw.yg rfl (Yl.nilCheck rfl) rfl ?_|refine aw.yg rfl (Yl.not rfl) rfl ?_|refine aw.yg rfl (Yl.makeFunc rfl rfl) rfl ?_))|refine aw.nil ?_|refine aw.DE ?_|(refine aw.aK ?_;(first|(refine aw.aK (bo:=.lss) ?_;(first|refine aw.y (Yl.mj rfl rfl Mj) rfl ?_|refine aw.y (Yl.lQ rfl rfl Mj) rfl ?_))|(refine aw.aK (bo:=.eql) ?_;(first|refine aw.y (Yl.lH rfl rfl Mj) rfl ?_|refine aw.y (Yl.lY rfl rfl Mj) rfl ?_))|(refine aw.aK (bo:=.neq) ?_;(first|refine aw.y (Yl.lN rfl rfl Mj) rfl ?_|refine aw.y (Yl.lJ rfl rfl Mj) rfl ?_))|(refine aw.aK (bo:=.leq) ?_;(first|refine aw.y (Yl.me rfl rfl Mj) rfl ?_|refine aw.y (Yl.lV rfl rfl Mj) rfl ?_))|(refine aw.aK (bo:=.gtr) ?_;(first|refine aw.y (Yl.lR rfl rfl Mj) rfl ?_|refine aw.y (Yl.mc rfl rfl Mj) rfl ?_))|(refine aw.aK (bo:=.geq) ?_;(first|refine aw.y (Yl.mq rfl rfl Mj) rfl ?_|refine aw.y (Yl.lO rfl rfl Mj) rfl ?_))|refine aw.y (Yl.add rfl rfl Mj) rfl ?_|refine aw.y (Yl.sub rfl rfl Mj) rfl ?_|refine aw.y (Yl.jg rfl rfl rfl rfl) rfl ?_|fail))|(refine aw.isField ?_;(first|refine aw.y (Yl.gP rfl rfl rfl) rfl ?_|refine aw.y (Yl.field rfl rfl rfl) rfl ?_))|(refine aw.dk ?_;(first|refine aw.y (Yl.load rfl rfl rfl LG) rfl ?_|refine aw.y (Yl.load rfl rfl rfl eZ) rfl ?_))|(refine aw.ek ?_;(first|refine aw.y (Yl.gh rfl rfl rfl rfl rfl rfl Mj) rfl ?_|refine aw.y (Yl.idx rfl rfl rfl rfl rfl rfl Mj) rfl ?_))|refine aw.y (Yl.len rfl rfl rfl) rfl ?_|refine aw.y (Yl.extract rfl rfl) rfl ?_|refine aw.y (Yl.fZ rfl rfl) rfl ?_|refine aw.y (Yl.fW rfl rfl) rfl ?_|refine aw.y (Yl.nilCheck rfl) rfl ?_|refine aw.y (Yl.not rfl) rfl ?_|refine aw.y (Yl.makeFunc rfl rfl) rfl ?_))|(refine Cd.is ?_;(first|refine Cd.seq ?_|refine Cd.Er rfl ?_|refine Cd.block ?_|refine Cd.iU rfl ?_|refine Cd.iW rfl ?_|refine Cd.skip ?_|refine Cd.ret ?_|refine Cd.exit ?_|fail))|(refine Fin.is ?_;(first|refine Fin.kY ?_|refine Fin.pf ?_|refine Fin.lB ?_|refine Fin.oZ ?_|refine Fin.lj ?_|refine Fin.py ?_|refine Fin.zp rfl ?_)))|(refine aw.is ?_;(first|(refine aw.As ?_;(first|(refine aw.aK ?_;(first|refine aw.yg rfl (Yl.tH rfl rfl) rfl ?_|refine aw.yg rfl (Yl.ml rfl rfl) rfl ?_|refine aw.yg rfl (Yl.mn rfl rfl Mj) rfl ?_))|refine aw.yg rfl (Yl.fM rfl rfl rfl rfl) rfl ?_|refine aw.yg rfl (Yl.dw Tryz.underlying9 rfl rfl rfl Mj) rfl ?_|refine aw.yg rfl (Yl.de Tryz.underlying9 rfl rfl rfl Mj) rfl ?_|refine aw.yg rfl (Yl.dR Tryz.underlying9 rfl rfl rfl rfl rfl Mj Mj) rfl ?_|refine aw.yg rfl (Yl.cO rfl rfl rfl rfl rfl rfl Mj) rfl ?_|refine aw.yg rfl (Yl.lT Tryz.underlying9 rfl) rfl ?_))|(refine aw.aK ?_;(first|refine aw.y (Yl.tH rfl rfl) rfl ?_|refine aw.y (Yl.ml rfl rfl) rfl ?_|refine aw.y (Yl.mn rfl rfl Mj) rfl ?_))|refine aw.y (Yl.fM rfl rfl rfl rfl) rfl ?_|refine aw.y (Yl.dw Tryz.underlying9 rfl rfl rfl Mj) rfl ?_|refine aw.y (Yl.de Tryz.underlying9 rfl rfl rfl Mj) rfl ?_|refine aw.y (Yl.dR Tryz.underlying9 rfl rfl rfl rfl rfl Mj Mj) rfl ?_|refine aw.y (Yl.cO rfl rfl rfl rfl rfl rfl Mj) rfl ?_|refine aw.y (Yl.lT Tryz.underlying9 rfl) rfl ?_))));exact hk_.out)):g:=hw ⟨h⟩
theorem Gf {g g':Prop} (h:g') (hw:dS g'→g:=by(intro hk_;(repeat(first|refine dW.nil ?_|refine dW.y (Yl.move rfl) rfl ?_|refine dW.y (Yl.assign rfl) rfl ?_|refine dW.y (Yl.mj rfl rfl Mj) rfl ?_|refine dW.y (Yl.lQ rfl rfl Mj) rfl ?_|refine dW.y (Yl.lH rfl rfl Mj) rfl ?_|refine dW.y (Yl.lY rfl rfl Mj) rfl ?_|refine dW.y (Yl.lN rfl rfl Mj) rfl ?_|refine dW.y (Yl.lJ rfl rfl Mj) rfl ?_|refine dW.y (Yl.me rfl rfl Mj) rfl ?_|refine dW.y (Yl.lV rfl rfl Mj) rfl ?_|refine dW.y (Yl.lR rfl rfl Mj) rfl ?_|refine dW.y (Yl.mc rfl rfl Mj) rfl ?_|refine dW.y (Yl.mq rfl rfl Mj) rfl ?_|refine dW.y (Yl.lO rfl rfl Mj) rfl ?_|refine dW.y (Yl.add rfl rfl Mj) rfl ?_|refine dW.y (Yl.sub rfl rfl Mj) rfl ?_|refine dW.y (Yl.tH rfl rfl) rfl ?_|refine dW.y (Yl.ml rfl rfl) rfl ?_|refine dW.y (Yl.mn rfl rfl Mj) rfl ?_|refine dW.y (Yl.gP rfl rfl rfl) rfl ?_|refine dW.y (Yl.field rfl rfl rfl) rfl ?_|refine dW.y (Yl.load rfl rfl rfl LG) rfl ?_|refine dW.y (Yl.gh rfl rfl rfl rfl rfl rfl Mj) rfl ?_|refine dW.y (Yl.idx rfl rfl rfl rfl rfl rfl Mj) rfl ?_|refine dW.y (Yl.len rfl rfl rfl) rfl ?_|refine dW.y (Yl.lT Tryz.underlying9 rfl) rfl ?_|refine dW.y (Yl.extract rfl rfl) rfl ?_|refine dW.y (Yl.fZ rfl rfl) rfl ?_|refine dW.y (Yl.fW rfl rfl) rfl ?_|refine dW.y (Yl.not rfl) rfl ?_|refine jE.seq ?_|refine jE.region ?_|refine jE.block ?_|refine jE.skip ?_|refine jE.ret ?_|refine jE.exit ?_|refine jE.iU rfl ?_|refine jE.iW rfl ?_|refine eJ.kY ?_|refine eJ.pf ?_|refine eJ.lB ?_|refine eJ.oZ ?_|refine eJ.lj ?_|refine eJ.py ?_|fail));exact hk_.out)):g:=hw ⟨h⟩
def QN (Q:Exit→Act→World→Prop):Exit→Act→World→Prop:=fun e a w=>e=.normal∧Q e a w
structure dJ (ops:Array Oper) (Q:Exit→Act→World→Prop) (n f:Nat) (listed:Array Bool) (E:Env) (w:World):Prop where
 h:∀a,Ag n a E→wpAny G.P .any ops (QN Q) f listed a w
section
variable {ops:Array Oper} {Q:Exit→Act→World→Prop} {n f:Nat} {listed:Array Bool} {E:Env} {w:World} {d:Nat} {op:Op} {ty:TypeId} {pos:String} {aft:Array Edge} {v:Value} {K:Value→World→Prop}
theorem Cd.oT {id:Nat} {l:List Oper} (h:dJ l.toArray Q n l.length (Array.replicate l.length false) E w.drew):Cd G Q n (.region id l.toArray true) E w:=⟨fun a ha=>by
 refine Code.wp_mono ?_ (wp_region_any (Q:=QN Q) G.mixed (by simpa using h.h a ha))
 rintro e a' w' ⟨rfl,hq⟩;exact hq⟩
theorem dJ.done (hr:Region.ready .any ops listed=[]) (h:Fin Q n .normal E w):dJ ops Q n f listed E w:=⟨fun a ha=>wpAny_done hr ⟨rfl,h.h a ha⟩ f⟩
theorem dJ.take (i:Nat) (hi:ops[i]?=some ⟨some d,op,ty,pos,aft,none⟩) (hc:(Region.noSelect ops && Region.free .any ops listed i && (Region.ready .any ops listed).contains i && nL op && Nat.blt d n)=true) (hy:Yl G n op E (fun _=>True) v) (h:dJ ops Q n f (listed.setIfInBounds i true) ((d,v)::E) w):dJ ops Q n (f+1) listed E w:=⟨fun a ha=>by
 simp only[Bool.and_eq_true]at hc
 obtain⟨⟨⟨⟨h1,h2⟩,h3⟩,h4⟩,h5⟩:=hc
 refine wpAny_take (v:=v) hi h1 h2 h3 (fun c a w hq=>by cases hq.1) ?_ (h.h _ (ha.put (by simpa using h5) v))
 exact .inl ⟨by simp[Region.wanted],fun w'=>hy.h w' trivial a ha _ _ _ _ _⟩⟩
theorem zV {a:Act} {o:Oper} {next:Act→World→Prop} {r:Result Next} (h:kq G.P (fun v w'=>next (a.put o.dst v) w') r):o.upon G.P a next Q r:=by
 cases r with
 |ok x w'=>
  cases x<;>simp only[kq]at h
  case value v=>exact h
  case skip=>exact h
  case enter f args=>exact h.mono (by rintro e w'' ⟨v,rfl,hv⟩;exact hv)
 |halt x w'=>exact h.elim
theorem dJ.one (i:Nat) (hr:Region.ready .any ops listed=[i]) (hi:ops[i]?=some ⟨some d,op,ty,pos,aft,none⟩) (hd:Nat.blt d n=true) (he:ck G n op E w K) (h:∀v w',K v w'→dJ ops Q n f (listed.setIfInBounds i true) ((d,v)::E) w'):dJ ops Q n (f+1) listed E w:=⟨fun a ha=>by
 refine wpAny_all hr Mk (fun j hj=>?_)
 rw[List.mem_singleton]at hj;subst hj
 unfold wpOp
 rw[hi]
 have hw:Region.wanted ⟨some d,op,ty,pos,aft,none⟩ (yielded ops a.tmps)=true:=by simp[Region.wanted]
 show(if Region.wanted _ _ then _ else _)
 rw[if_pos hw]
 exact .inl (zV (cQ (he.h a ha _ _ _ _ _) (fun v w' hk=>(h v w' hk).h _ (ha.put LW v))))⟩
theorem dJ.Ga (i:Nat) (hr:Region.ready .any ops listed=[i]) (hi:ops[i]?=some ⟨none,op,ty,pos,aft,none⟩) (he:ck G n op E w K) (h:∀v w',K v w'→dJ ops Q n f (listed.setIfInBounds i true) E w'):dJ ops Q n (f+1) listed E w:=⟨fun a ha=>by
 refine wpAny_all hr Mk (fun j hj=>?_)
 rw[List.mem_singleton]at hj;subst hj
 unfold wpOp
 rw[hi]
 have hw:Region.wanted ⟨none,op,ty,pos,aft,none⟩ (yielded ops a.tmps)=true:=by simp[Region.wanted]
 show(if Region.wanted _ _ then _ else _)
 rw[if_pos hw]
 exact .inl (zV (cQ (he.h a ha _ _ _ _ _) (fun v w' hk=>(h v w' hk).h a ha)))⟩
theorem dJ.Dd (i:Nat) (hr:Region.ready .any ops listed=[i]) (hi:ops[i]?=some ⟨some d,op,ty,pos,aft,none⟩) (hd:Nat.blt d n=true) (hy:Yl G n op E (fun w'=>w'=w) v) (h:dJ ops Q n f (listed.setIfInBounds i true) ((d,v)::E) w):dJ ops Q n (f+1) listed E w:=
 dJ.one (K:=fun v' w'=>v'=v∧w'=w) i hr hi hd ⟨fun a ha d ty pos aft gd=>by rw[hy.h w rfl a ha d ty pos aft gd];exact⟨rfl,rfl⟩⟩ (by rintro _ _ ⟨rfl,rfl⟩;exact h)
end
def GI {α:Type} (g:Nat) (lb:List Value) (encs:α→List Value) (Kp:World→World→Prop) (full:List α) (w:World):Prop:=
 ∀(l:Nat) (J Jx:List α→World→Prop) (W:World),Below w.heap.size w W→OwnFrom W.heap.size J→OwnFrom W.heap.size Jx→
  (∀pre x W1,J pre W1→pre++[x]<+:full→YieldAt (FW none) 0 G.P l (encs x).toArray W1 fun e W'=>
   (e=.returned (.bool true)∧J (pre++[x]) W'∧Kp W1 W')∨(e=.returned (.bool false)∧Jx (pre++[x]) W'∧Kp W1 W'))→
  J [] W→Calls G.P g (Value.func (.yield l) #[] #[]::lb).toArray W fun e W'=>(∃v,e=.returned v)∧(J full W'∨(∃pre,pre<+:full∧Jx pre W'))
structure yc (ps:Array Tmp) (B:Nat) (W W':World):Prop where
 size:W.heap.size≤W'.heap.size
 same:∀(k:Nat) (o:Obj),B≤k→W.heap[k]?=some o→((∃d,o=.deferred d)∨∃r,o=.loop r∧r.params=ps)→W'.heap[k]?=some o
def Gb {α:Type} (ps:Array Tmp) (B:Nat) (Kp:World→World→Prop) (I:List α→World→Prop) (Ix:Code→List α→World→Prop) (xs:List α) (W:World):Exit→Act→World→Prop
 |.normal,_,W'=>yc ps B W W'∧Kp W W'∧I xs W'
 |.ret,_,W'=>yc ps B W W'∧Kp W W'∧Ix .ret xs W'
 |.exit id,_,W'=>yc ps B W W'∧Kp W W'∧Ix (.exit id) xs W'
 |_,_,_=>False
section
variable {m:Nat} {D:List Deferred} {Q:Exit→Act→World→Prop} {n:Nat} {E:Env} {w:World}
theorem jE.EY {α:Type} {g:Operand} {ps:List Nat} {assign body:Code} {gf:Nat} {lb:List Value} (hg:ev E g=some (.func (.func gf) #[] lb.toArray)) (hf:G.fb[gf]?=some true)
  {encs:α→List Value} {Kp:World→World→Prop} {full:List α} (hseq:GI gf lb encs Kp full w)
  (hKt:∀{A B C:World},Kp A B→Kp B C→Kp A C) (hKb:∀(W:World) (l:Nat) (r r':Loop),w.heap.size≤l→W.heap[l]?=some (.loop r)→r.params=ps.toArray→Kp W (W.putObj l (.loop r'))) (hps:∀x,(encs x).length=ps.length) (hpn:(ps.all fun p=>Nat.blt p n)=true)
  (I:List α→World→Prop) (Ix:Code→List α→World→Prop) (hI:OwnFrom w.heap.size I) (hIx:∀c,OwnFrom w.heap.size (Ix c)) (h0:I [] w) (E1:α→Env)
  (hassign:∀(l:Nat) (x:α) (W:World) (K:Act→World→Prop),(∀a,s7 n [] a (E1 x)→K a W)→jE (some l) 0 [] (Exit.then K (fun _ _ _=>False)) n assign (C9 (ps.zip (encs x)) E) W)
  (hbody:∀(l:Nat) (pre:List α) (x:α) (W:World),I pre W→pre++[x]<+:full→jE (some l) 0 [] (Gb ps.toArray w.heap.size Kp I Ix (pre++[x]) W) n body (E1 x) W)
  (hdone:∀(Dn:Nat) (W:World),w.heap.size≤Dn→I full W→W.heap[Dn]?=some (.deferred (some []))→eJ ({target:=.collected Dn,args:=#[]}::D) Q n .normal E W)
  (hstop:∀(Dn:Nat) (c:Code) (pre:List α) (W:World),w.heap.size≤Dn→pre<+:full→Ix c pre W→W.heap[Dn]?=some (.deferred (some []))→jE none m ({target:=.collected Dn,args:=#[]}::D) Q n c E W):
  jE none m D Q n (.rangeFunc g ps.toArray assign body) E w:=⟨fun a ha=>by
 refine wpIn_rangeFunc ?_
 intro fn _
 rw[show(FW none).round=none from rfl]
 obtain⟨lr,hlr⟩:∃lr:LoopState→Option Code→Loop,lr=fun st pe=>{state:=st,pending:=pe,fn,tmps:=a.tmps,params:=ps.toArray,assign,body,defers:=w.heap.size}:=⟨_,rfl⟩
 have hp:∀st pe,(lr st pe).params=ps.toArray:=fun st pe=>by rw[hlr]
 obtain⟨W1,hW1⟩:∃W1,(w.alloc (.deferred (some []))).alloc (.loop (lr .ready none))=W1:=⟨_,rfl⟩
 have hs1:W1.heap.size=w.heap.size+2:=by rw[←hW1];simp
 have hL1:W1.heap[w.heap.size+1]?=some (.loop (lr .ready none)):=by
  rw[←hW1];have:=heap_alloc_new (w.alloc (.deferred (some []))) (.loop (lr .ready none));simpa using this
 have hK1:W1.heap[w.heap.size]?=some (.deferred (some [])):=by
  rw[←hW1];exact(Below.heap_alloc _ _ _ Mk).trans (heap_alloc_new w _)
 have hI1:I [] W1:=by rw[←hW1];exact hI.alloc _ (hI.alloc _ h0)
 have hb1:Below w.heap.size w W1:=by
  rw[←hW1];exact((Below.refl _ w).alloc (Nat.le_refl _) _).alloc Mk _
 refine⟨w.heap.size+1,[{target:=.collected w.heap.size,args:=#[]}],W1,{target:=.fn (.func gf) lb.toArray,args:=#[.func (.yield (w.heap.size+1)) #[] #[]]},W1,gf,
  (Value.func (.yield (w.heap.size+1)) #[] #[]::lb).toArray,W1,?_,?_,fun _ _=>trivial,?_,fun e=>(by cases e),?_⟩
 ·rw[←hW1,hlr];exact run_enterLoop_outer _ _ _ _ _
 ·simp only[resolve,ha.eval hg]
  simp[go_sem]
 ·simp[invoke,go_sem,G.Bf gf hf]
 refine callsIn_wide.2 ((hseq (w.heap.size+1)
   (fun pre W=>I pre W∧W.heap[w.heap.size+1]?=some (.loop (lr .ready none))∧W.heap[w.heap.size]?=some (.deferred (some [])))
   (fun pre W=>∃c,Ix c pre W∧W.heap[w.heap.size+1]?=some (.loop (lr .done (some c)))∧W.heap[w.heap.size]?=some (.deferred (some [])))
   W1 hb1 ?_ ?_ ?_ ⟨hI1,hL1,hK1⟩).mono ?_)
 ·rintro s A B row ⟨h1,h2,h3⟩ hg' hr
  refine⟨hI s A B row h1 hg' fun r e=>⟨by have:=(hr r e).1;omega,(hr r e).2⟩,?_,?_⟩
  ·rw[hg'.block _ (Array.getElem?_eq_some_iff.1 h2).1 (fun e=>by have:=(hr _ e.symm).1;omega)];exact h2
  ·rw[hg'.block _ (Array.getElem?_eq_some_iff.1 h3).1 (fun e=>by have:=(hr _ e.symm).1;omega)];exact h3
 ·rintro s A B row ⟨c,h1,h2,h3⟩ hg' hr
  refine⟨c,hIx c s A B row h1 hg' fun r e=>⟨by have:=(hr r e).1;omega,(hr r e).2⟩,?_,?_⟩
  ·rw[hg'.block _ (Array.getElem?_eq_some_iff.1 h2).1 (fun e=>by have:=(hr _ e.symm).1;omega)];exact h2
  ·rw[hg'.block _ (Array.getElem?_eq_some_iff.1 h3).1 (fun e=>by have:=(hr _ e.symm).1;omega)];exact h3
 ·rintro pre x W ⟨hi,hl,hk⟩ hlen
  have hlt:w.heap.size+1<W.heap.size:=(Array.getElem?_eq_some_iff.1 hl).1
  have hy:=run_yield (P:=G.P) (args:=(encs x).toArray) hl (by rw[hp];simpa using hps x)
  have e:(ps.toArray.zip (encs x).toArray).foldl (fun t (p,v)=>t.setIfInBounds p v) a.tmps=(ps.zip (encs x)).foldl (fun t pv=>t.setIfInBounds pv.1 pv.2) a.tmps:=by
   rw[←Array.foldl_toList];simp
  have hst:(lr .ready none).state=.ready:=by rw[hlr]
  refine⟨(lr .ready none).fn,_,(lr .ready none).assign,(lr .ready none).body,hy,roundIn_of_wpIn trivial ?_⟩
  have hnew:(lr .ready none).assign=assign∧(lr .ready none).body=body∧(lr .ready none).tmps=a.tmps:=by rw[hlr];exact⟨rfl,rfl,rfl⟩
  rw[hnew.1,hnew.2.1,hnew.2.2,hp,e]
  refine(hassign (w.heap.size+1) x W _ (fun a' ha'=>?_)).h _ ⟨Et _ ⟨ha.ag.sz,rfl,ha.ag.eq⟩ (fun pv hpv=>?_),rfl⟩
  ·refine⟨_,run_beginRound hl hst,?_⟩
   have hl2:(W.putObj (w.heap.size+1) (.loop {lr .ready none with state:=.busy})).heap[w.heap.size+1]?=some (.loop {lr .ready none with state:=.busy}):=World.putObj_heap_same hlt
   have hk2:(W.putObj (w.heap.size+1) (.loop {lr .ready none with state:=.busy})).heap[w.heap.size]?=some (.deferred (some [])):=(World.putObj_heap_other Mj).trans hk
   have hw2:Kp W (W.putObj (w.heap.size+1) (.loop {lr .ready none with state:=.busy})):=hKb _ _ _ _ Mj hl (hp _ _)
   refine wpIn_mono ((hbody (w.heap.size+1) pre x _ (hI.putObj _ hi Mj hl rfl) hlen).h a' ha') ?_
   have fin:∀(jump:Option Code) (W3:World),yc ps.toArray w.heap.size (W.putObj (w.heap.size+1) (.loop {lr .ready none with state:=.busy})) W3→
     (Instr.endRound (w.heap.size+1) jump).run G.P W3=.ok (.bool jump.isNone) (W3.putObj (w.heap.size+1) (.loop (lr (if jump.isNone then .ready else .done) jump)))∧
     W3.heap[w.heap.size+1]?=some (.loop {lr .ready none with state:=.busy})∧
     (W3.putObj (w.heap.size+1) (.loop (lr (if jump.isNone then .ready else .done) jump))).heap[w.heap.size+1]?=some (.loop (lr (if jump.isNone then .ready else .done) jump))∧
     (W3.putObj (w.heap.size+1) (.loop (lr (if jump.isNone then .ready else .done) jump))).heap[w.heap.size]?=some (.deferred (some [])):=fun jump W3 hk3=>by
    have hl3:=hk3.same _ _ Mj hl2 (.inr ⟨_,rfl,hp _ _⟩)
    have hr3:=run_endRound (P:=G.P) jump hl3
    refine⟨?_,hl3,World.putObj_heap_same (Array.getElem?_eq_some_iff.1 hl3).1,(World.putObj_heap_other Mj).trans (hk3.same _ _ (Nat.le_refl _) hk2 (.inl ⟨_,rfl⟩))⟩
    rw[hlr]at hr3 ⊢;exact hr3
   rintro e3 a3 W3 hpx
   cases e3 with
   |normal=>
    obtain⟨hk3,hkp3,hi3⟩:=hpx
    obtain⟨hr,hl3,hl4,hk4⟩:=fin none W3 hk3
    exact⟨_,_,hr,.inl ⟨rfl,⟨hI.putObj _ hi3 Mj hl3 rfl,hl4,hk4⟩,hKt (hKt hw2 hkp3) (hKb _ _ _ _ Mj hl3 (hp _ _))⟩⟩
   |ret=>
    obtain⟨hk3,hkp3,hi3⟩:=hpx
    obtain⟨hr,hl3,hl4,hk4⟩:=fin (some .ret) W3 hk3
    exact⟨_,_,hr,.inr ⟨rfl,⟨.ret,(hIx _).putObj _ hi3 Mj hl3 rfl,hl4,hk4⟩,hKt (hKt hw2 hkp3) (hKb _ _ _ _ Mj hl3 (hp _ _))⟩⟩
   |exit id=>
    obtain⟨hk3,hkp3,hi3⟩:=hpx
    obtain⟨hr,hl3,hl4,hk4⟩:=fin (some (.exit id)) W3 hk3
    exact⟨_,_,hr,.inr ⟨rfl,⟨.exit id,(hIx _).putObj _ hi3 Mj hl3 rfl,hl4,hk4⟩,hKt (hKt hw2 hkp3) (hKb _ _ _ _ Mj hl3 (hp _ _))⟩⟩
   |goto t=>exact hpx.elim
   |panic ch=>exact hpx.elim
   |outgrown=>exact hpx.elim
  ·have:=List.all_eq_true.1 hpn pv.1 (List.of_mem_zip (show(pv.1,pv.2)∈_ from hpv)).1
   simpa using this
 ·rintro e W2 ⟨⟨v,rfl⟩,(⟨hi,hl,hk⟩|⟨pre,hSp,c,hi,hl,hk⟩)⟩
  ·refine⟨none,_,by have:=run_endLoop (P:=G.P) hl (by rw[hlr];simp);rw[hlr]at this;exact this,?_⟩
   exact(hdone _ _ (Nat.le_refl _) (hI.putObj _ hi Mj hl rfl) ((World.putObj_heap_other Mj).trans hk)).h _ ⟨⟨ha.ag.sz,rfl,ha.ag.eq⟩,by simp[ha.df]⟩
  ·refine⟨some c,_,by have:=run_endLoop (P:=G.P) hl (by rw[hlr];simp);rw[hlr]at this;exact this,?_⟩
   exact(hstop _ c pre _ (Nat.le_refl _) hSp ((hIx c).putObj _ hi Mj hl rfl) ((World.putObj_heap_other Mj).trans hk)).h _ ⟨⟨ha.ag.sz,rfl,ha.ag.eq⟩,by simp[ha.df]⟩⟩
end
end Go.Proofs.YtgbgnipidakdhaaGreatDoor
