/- More rules of the walk: structs written out, texts, results that lie in memory; the walker over them. -/
import Derived.Test.YtceedealggognaaGreatDoorJBt
import Derived.Test.YtceedealggognaaGreatDoorJR7
import Derived.Test.YtceedealggognaaGreatDoorJSh
import Derived.RangeFuncNested
import Derived.RangeFuncBound
import Derived.RangeFuncCalls
import Derived.RangeFuncLeaves
import Derived.RangeFuncFrom
namespace Go.Proofs.YtceedealggognaaGreatDoor
open Go.RowKit
section
variable {n:Nat} {E:Env} {C:World→Prop} {x y z:Operand} {t t2:TypeId} {v:Value} {w:World} {ops:Array Oper} {M:Mode} {rest:List Oper} {d:Nat} {ty:TypeId} {pos:String} {aft:Array Edge}
def vR:List Value→Nat→List Value→List Value
 |cs,_,[]=>cs
 |cs,o,c::r=>vR (cs.set o c) (o+1) r
def jZ (pl:List (Nat×Nat)):List Value→List (Nat×Value)→Option (List Value)
 |cs,[]=>some cs
 |cs,(i,v)::r=>
  match pl[i]? with
  |none=>none
  |some (off,size)=>bif (Nat.beq v.cells.toList.length size && Nat.ble (off+v.cells.toList.length) cs.length)then jZ pl (vR cs off v.cells.toList) r else none
theorem qS:∀(l:List Value) (cs:List Value) (o k:Nat),(vR cs (o+k) l).toArray=(l.zipIdx k).foldl (fun a p=>a.setIfInBounds (o+p.2) p.1) cs.toArray
 |[],cs,o,k=>rfl
 |c::r,cs,o,k=>by
  rw[vR,List.zipIdx_cons,List.foldl_cons,Nat.add_assoc,qS r _ o (k+1)]
  simp
theorem uQ {pl:List (Nat×Nat)}:∀{parts:List (Nat×Value)} {cs c:List Value},jZ pl cs parts=some c→Instr.fill (pl.toArray[·]?) cs.toArray parts=some c.toArray
 |[],cs,c,h=>by simp only[jZ,Option.some.injEq]at h;subst h;rfl
 |(i,v)::r,cs,c,h=>by
  simp only[jZ]at h
  unfold Instr.fill
  have e0:pl.toArray[i]?=pl[i]?:=by simp
  rw[e0]
  cases hp:pl[i]? with
  |none=>simp[hp]at h
  |some p=>
   obtain⟨off,size⟩:=p
   rw[hp]at h
   dsimp only at h ⊢
   cases hb:(Nat.beq v.cells.toList.length size && Nat.ble (off+v.cells.toList.length) cs.length)with
   |false=>rw[hb]at h;cases h
   |true=>
    rw[hb]at h
    simp only[Bool.and_eq_true]at hb
    have h1:=Nat.eq_of_beq_eq_true hb.1
    have h2:=Nat.le_of_ble_eq_true hb.2
    have e1:v.cells.size=size:=by simpa using h1
    have e2:¬off+v.cells.size>cs.toArray.size:=by simpa using h2
    rw[if_neg (by simp[e1];rw[e1]at e2;simpa using e2)]
    have h3:=uQ h
    rw[←h3]
    congr 1
    have:=qS v.cells.toList cs off 0
    rw[Nat.add_zero]at this
    rw[this,←Array.foldl_toList,Array.toList_zipIdx]
theorem Yl.dU {s bt:Nat} {el:Option Nat} {os:List Nat} {zs:List Value} {ik:Option IntKind} {parts:List (Nat×Operand)} {vs:List Value} (ht:G.ty t=some ⟨s,bt,true,el,os,.agg zs.toArray,ik⟩) (ho:os.isEmpty=false) (hv:ji E (parts.map (·.2))=some vs) (hf:(jZ (lY os s) zs ((parts.map (·.1)).zip vs)).isSome=true):
  Yl G n (.build t parts.toArray) E C (.agg ((jZ (lY os s) zs ((parts.map (·.1)).zip vs)).getD []).toArray):=by
 refine Yl.build hv (fun w=>?_)
 rw[Ar t _ ht rfl (by simpa using ho)]
 refine yH ?_ _ _
 obtain⟨c,hc⟩:=Option.isSome_iff_exists.1 hf
 rw[hc]
 have:=uQ hc
 simpa[Value.cells]using this
theorem Yl.uv {bo:BinOp} {a b:ByteArray} (hx:ev E x=some (.string a)) (hy:ev E y=some (.string b)) (hr:∀w,(Op.stringOp bo a b).run G.P w=.ok v w):Yl G n (.binOp bo t x y t2) E C v:=
 ⟨fun w _ ac ha d ty pos aft gd=>by
  have hg:∀p q:Operand,(eqGuard bo t p q (.string a) (.string b)).run G.P w=.ok () w:=by
   intro p q;unfold eqGuard;split<;>simp
  simp[execOp,ha.eval hx,ha.eval hy,hg,binOp,hr]⟩
theorem Yl.pY {a b:ByteArray} (hx:ev E x=some (.string a)) (hy:ev E y=some (.string b)):Yl G n (.binOp .eql t x y t2) E C (.bool (a.data.toList==b.data.toList)):=Yl.uv hx hy (fun w=>by simp[Op.stringOp,ByteArray.toList_eq])
theorem Yl.kf {a b:ByteArray} (hx:ev E x=some (.string a)) (hy:ev E y=some (.string b)):Yl G n (.binOp .neq t x y t2) E C (.bool (!(a.data.toList==b.data.toList))):=Yl.uv hx hy (fun w=>by simp[Op.stringOp,ByteArray.toList_eq])
theorem Yl.kc {a b:ByteArray} (hx:ev E x=some (.string a)) (hy:ev E y=some (.string b)) (h:a.size+b.size≤9223372036854775807):Yl G n (.binOp .add t x y t2) E C (.string (a++b)):=Yl.uv hx hy (fun w=>run_string_add_sum w a b h)
theorem Yl.ke {a:ByteArray} (ht:G.P.underlying t=some .string) (hx:ev E x=some (.string a)):Yl G n (.call ⟨.builtin .len,#[x],#[t]⟩) E C (.int .i64 a.size):=
 ⟨fun w _ ac ha d ty pos aft gd=>by simp[execOp,resolve,invoke,builtin,Builtin.len_,ha.eval hx,run_underlying ht,goInt]⟩
theorem Yl.cR {k:IntKind} {p:Int} {a:ByteArray} {i:Nat} (ht:G.P.underlying t=some .string) (hx:ev E x=some (.string a)) (hi:ev E y=some (.int k p)) (hp:p=(i:Int)) (hc:i≤a.size):Yl G n (.slice t x none (some y) none) E C (.string (a.extract 0 i)):=
 ⟨fun w _ ac ha d ty pos aft gd=>by subst hp;simp[execOp,ha.eval hx,ha.eval hi,Instr.sliceAt,Instr.slice,Instr.sliceBounds,Instr.sliceBound,asIntOf,run_underlying ht,hc]⟩
theorem Yl.cm {k:IntKind} {p:Int} {a:ByteArray} {i:Nat} (ht:G.P.underlying t=some .string) (hx:ev E x=some (.string a)) (hi:ev E y=some (.int k p)) (hp:p=(i:Int)) (hc:i≤a.size):Yl G n (.slice t x (some y) none none) E C (.string (a.extract i a.size)):=
 ⟨fun w _ ac ha d ty pos aft gd=>by subst hp;simp[execOp,ha.eval hx,ha.eval hi,Instr.sliceAt,Instr.slice,Instr.sliceBounds,Instr.sliceBound,asIntOf,run_underlying ht,hc]⟩
theorem Yl.quo {p q r:Int} (hx:ev E x=some (.int .i64 p)) (hy:ev E y=some (.int .i64 q)) (hr:∀w,(binOp .quo t (.int .i64 p) (.int .i64 q)).run G.P w=.ok (.int .i64 r) w):Yl G n (.binOp .quo t x y t2) E C (.int .i64 r):=Yl.bin hx hy hr
end
theorem bE {g g':Prop} (h:g') (hw:dP g'→g:=by(intro hk_;(repeat(first|(first|refine ah.y (Yl.move rfl) rfl ?_|refine ah.y (Yl.assign rfl) rfl ?_|(refine ah.is ?_;(first|(refine ah.wU ?_;(first|refine ah.gs rfl rfl rfl ?_|refine ah.gu rfl rfl ?_|refine ah.yg rfl (Yl.move rfl) rfl ?_|refine ah.yg rfl (Yl.assign rfl) rfl ?_|(refine ah.an ?_;(first|(refine ah.an (bo:=.lss) ?_;(first|refine ah.yg rfl (Yl.iG rfl rfl FY) rfl ?_|refine ah.yg rfl (Yl.iF rfl rfl FY) rfl ?_))|(refine ah.an (bo:=.eql) ?_;(first|refine ah.yg rfl (Yl.iw rfl rfl FY) rfl ?_|refine ah.yg rfl (Yl.iu rfl rfl FY) rfl ?_))|(refine ah.an (bo:=.neq) ?_;(first|refine ah.yg rfl (Yl.iI rfl rfl FY) rfl ?_|refine ah.yg rfl (Yl.iH rfl rfl FY) rfl ?_))|(refine ah.an (bo:=.leq) ?_;(first|refine ah.yg rfl (Yl.iE rfl rfl FY) rfl ?_|refine ah.yg rfl (Yl.iD rfl rfl FY) rfl ?_))|(refine ah.an (bo:=.gtr) ?_;(first|refine ah.yg rfl (Yl.iC rfl rfl FY) rfl ?_|refine ah.yg rfl (Yl.iB rfl rfl FY) rfl ?_))|(refine ah.an (bo:=.geq) ?_;(first|refine ah.yg rfl (Yl.iA rfl rfl FY) rfl ?_|refine ah.yg rfl (Yl.iz rfl rfl FY) rfl ?_))|refine ah.yg rfl (Yl.add rfl rfl FY) rfl ?_|refine ah.yg rfl (Yl.sub rfl rfl FY) rfl ?_|refine ah.yg rfl (Yl.fu rfl rfl rfl rfl) rfl ?_|refine ah.yg rfl (Yl.je Tryz.underlying4 rfl rfl) rfl ?_|fail))|(refine ah.isField ?_;(first|refine ah.yg rfl (Yl.dW rfl rfl rfl) rfl ?_|refine ah.yg rfl (Yl.field rfl rfl rfl) rfl ?_))|(refine ah.bW ?_;(first|refine ah.yg rfl (Yl.load rfl rfl rfl FE) rfl ?_|refine ah.yg rfl (Yl.load rfl rfl rfl (mX de)) rfl ?_|refine ah.yg rfl (Yl.load rfl rfl rfl de) rfl ?_))|(refine ah.dX ?_;(first|refine ah.yg rfl (Yl.fL rfl rfl rfl rfl rfl rfl FY) rfl ?_|refine ah.yg rfl (Yl.idx rfl rfl rfl rfl rfl rfl FY) rfl ?_))|refine ah.yg rfl (Yl.len rfl rfl rfl) rfl ?_|refine ah.yg rfl (Yl.extract rfl rfl) rfl ?_|refine ah.yg rfl (Yl.dF rfl rfl) rfl ?_|refine ah.yg rfl (Yl.dE rfl rfl) rfl ?_|refine ah.yg rfl (Yl.nilCheck rfl) rfl ?_|refine ah.yg rfl (Yl.not rfl) rfl ?_|refine ah.yg rfl (Yl.makeFunc rfl rfl) rfl ?_))|refine ah.nil ?_|refine ah.zg ?_|refine ah.we ?_|(refine ah.an ?_;(first|(refine ah.an (bo:=.lss) ?_;(first|refine ah.y (Yl.iG rfl rfl FY) rfl ?_|refine ah.y (Yl.iF rfl rfl FY) rfl ?_))|(refine ah.an (bo:=.eql) ?_;(first|refine ah.y (Yl.iw rfl rfl FY) rfl ?_|refine ah.y (Yl.iu rfl rfl FY) rfl ?_))|(refine ah.an (bo:=.neq) ?_;(first|refine ah.y (Yl.iI rfl rfl FY) rfl ?_|refine ah.y (Yl.iH rfl rfl FY) rfl ?_))|(refine ah.an (bo:=.leq) ?_;(first|refine ah.y (Yl.iE rfl rfl FY) rfl ?_|refine ah.y (Yl.iD rfl rfl FY) rfl ?_))|(refine ah.an (bo:=.gtr) ?_;(first|refine ah.y (Yl.iC rfl rfl FY) rfl ?_|refine ah.y (Yl.iB rfl rfl FY) rfl ?_))|(refine ah.an (bo:=.geq) ?_;(first|refine ah.y (Yl.iA rfl rfl FY) rfl ?_|refine ah.y (Yl.iz rfl rfl FY) rfl ?_))|refine ah.y (Yl.add rfl rfl FY) rfl ?_|refine ah.y (Yl.sub rfl rfl FY) rfl ?_|refine ah.y (Yl.fu rfl rfl rfl rfl) rfl ?_|refine ah.y (Yl.je Tryz.underlying4 rfl rfl) rfl ?_|fail))|(refine ah.isField ?_;(first|refine ah.y (Yl.dW rfl rfl rfl) rfl ?_|refine ah.y (Yl.field rfl rfl rfl) rfl ?_))|(refine ah.bW ?_;(first|refine ah.y (Yl.load rfl rfl rfl FE) rfl ?_|refine ah.y (Yl.load rfl rfl rfl (mX de)) rfl ?_|refine ah.y (Yl.load rfl rfl rfl de) rfl ?_))|(refine ah.dX ?_;(first|refine ah.y (Yl.fL rfl rfl rfl rfl rfl rfl FY) rfl ?_|refine ah.y (Yl.idx rfl rfl rfl rfl rfl rfl FY) rfl ?_))|refine ah.y (Yl.len rfl rfl rfl) rfl ?_|refine ah.y (Yl.extract rfl rfl) rfl ?_|refine ah.y (Yl.dF rfl rfl) rfl ?_|refine ah.y (Yl.dE rfl rfl) rfl ?_|refine ah.y (Yl.nilCheck rfl) rfl ?_|refine ah.y (Yl.not rfl) rfl ?_|refine ah.y (Yl.makeFunc rfl rfl) rfl ?_))|(refine Cd.is ?_;(first|refine Cd.seq ?_|refine Cd.region ?_|refine Cd.block ?_|refine Cd.fp rfl ?_|refine Cd.fm rfl ?_|refine Cd.skip ?_|refine Cd.scope ?_|refine Cd.ret ?_|refine Cd.exit ?_|refine Cd.label ?_))|(refine Fin.is ?_;(first|refine Fin.ij ?_|refine Fin.lj ?_|refine Fin.il ?_|refine Fin.ln ?_|refine Fin.iq ?_|refine Fin.Cv ?_|refine Fin.lq ?_|refine Fin.qF rfl ?_)))|(refine ah.is ?_;(first|(refine ah.wU ?_;(first|(refine ah.an ?_;(first|refine ah.yg rfl (Yl.pY rfl rfl) rfl ?_|refine ah.yg rfl (Yl.kf rfl rfl) rfl ?_|refine ah.yg rfl (Yl.kc rfl rfl FY) rfl ?_))|refine ah.yg rfl (Yl.dU rfl rfl rfl rfl) rfl ?_|refine ah.yg rfl (Yl.cR Tryz.underlying9 rfl rfl rfl FY) rfl ?_|refine ah.yg rfl (Yl.cm Tryz.underlying9 rfl rfl rfl FY) rfl ?_|refine ah.yg rfl (Yl.ck rfl rfl rfl rfl rfl rfl FY) rfl ?_|refine ah.yg rfl (Yl.ke Tryz.underlying9 rfl) rfl ?_))|(refine ah.an ?_;(first|refine ah.y (Yl.pY rfl rfl) rfl ?_|refine ah.y (Yl.kf rfl rfl) rfl ?_|refine ah.y (Yl.kc rfl rfl FY) rfl ?_))|refine ah.y (Yl.dU rfl rfl rfl rfl) rfl ?_|refine ah.y (Yl.cR Tryz.underlying9 rfl rfl rfl FY) rfl ?_|refine ah.y (Yl.cm Tryz.underlying9 rfl rfl rfl FY) rfl ?_|refine ah.y (Yl.ck rfl rfl rfl rfl rfl rfl FY) rfl ?_|refine ah.y (Yl.ke Tryz.underlying9 rfl) rfl ?_))));exact hk_.out)):g:=hw ⟨h⟩
section
variable {fn:Func} {R:Ending→World→Prop} {n:Nat} {E:Env} {w:World} {a T t b Tb s:Nat} {ti:TI} {v:Value} {cs:List Value}
theorem qo (hT:G.ty T=some ti) (hag:ti.agg=true) (hsz:ti.size=s) (hb:eA w b cs Tb) (hl:cs.length=s):(loadVar T ⟨b,0,none⟩).run G.P w=.ok (.agg cs.toArray) w:=by
 have h1:=(G.fx T ti hT).agg w
 have h2:=(G.fx T ti hT).size w
 rw[hag]at h1
 subst hl
 have h3:=run_loadCells (P:=G.P) (w:=w) (bk:=b) cs 0 0 #[] (fun j hj=>by
  have:=hb.cell (j:=j) (List.getElem?_eq_getElem hj)
  rw[List.getElem?_eq_getElem hj,←this];simp)
 simp[loadVar,h1,h2,hsz,loadCells,h3]
theorem Fin.fw {e:Exit} (he:e=.ret∨e=.normal) (hr:fn.results=#[.cell a T]) (ha:lk E a=some (.pointer (some ⟨b,0,none⟩))) (hT:G.ty T=some ti) (hag:ti.agg=true) (hsz:ti.size=s) (hb:eA w b cs Tb) (hl:cs.length=s) (hR:R (.returned (.agg cs.toArray)) w):Fin (bodyPost G.P fn R) n e E w:=
 Fin.mY he (fun ac hac=>by
  have h3:=qo hT hag hsz hb hl
  have g1:ac.tmps[a]?.getD undef=.pointer (some ⟨b,0,none⟩):=by have:=(hac.eq a _ ha).2;simpa using this
  simp[results,hr,g1,asAddr,h3]) hR
theorem Fin.bh {e:Exit} (he:e=.ret∨e=.normal) (hr:fn.results=#[.cell a T,.tmp t]) (ha:lk E a=some (.pointer (some ⟨b,0,none⟩))) (hT:G.ty T=some ti) (hag:ti.agg=true) (hsz:ti.size=s) (hb:eA w b cs Tb) (hl:cs.length=s) (hv:lk E t=some v) (hR:R (.returned (.tuple #[.agg cs.toArray,v])) w):Fin (bodyPost G.P fn R) n e E w:=
 Fin.mY he (fun ac hac=>by
  have h3:=qo hT hag hsz hb hl
  have g1:ac.tmps[a]?.getD undef=.pointer (some ⟨b,0,none⟩):=by have:=(hac.eq a _ ha).2;simpa using this
  have g2:ac.tmps[t]?.getD undef=v:=by have:=(hac.eq t _ hv).2;simpa using this
  simp[results,hr,g1,g2,asAddr,h3]) hR
end
structure aU where
 F:Nat→Prop
 P:World→Prop
 st:∀{S:Nat→Prop} {w w':World},P w→bz S w w'→(∀k,k<w.heap.size→F k→¬S k)→P w'
def Mb (M:List aU) (k:Nat):Prop:=∃q,q∈M∧q.F k
structure Ok (M:List aU) (R:List (World→Prop)) (w:World):Prop where
 m:∀q,q∈M→q.P w∧∀k,q.F k→k<w.heap.size
 d:M.Pairwise fun a b=>∀k,a.F k→¬b.F k
 r:∀p,p∈R→∀w',bz (Mb M) w w'→p w'
section
variable {M M':List aU} {R R':List (World→Prop)} {w w':World} {q q':aU} {p:World→Prop}
theorem Ok.step (h:Ok M R w) (hc:bz (Mb M) w w') (hm:∀q,q∈M'→q.P w'∧∀k,q.F k→k<w'.heap.size) (hd:M'.Pairwise fun a b=>∀k,a.F k→¬b.F k) (hs:∀k,Mb M' k→k<w.heap.size→Mb M k):Ok M' R w':=
 ⟨hm,hd,fun p hp w2 h2=>h.r p hp w2 (hc.trans' h2 fun i hi hm=>hs i hm hi)⟩
theorem Ok.ext (h:Ok M R w) (hx:Ext w w'):Ok M R w':=
 h.step hx.any (fun q hq=>⟨q.st (h.m q hq).1 hx (fun _ _ _ e=>e),fun k hk=>Nat.lt_of_lt_of_le ((h.m q hq).2 k hk) hx.size⟩) h.d (fun _ hk _=>hk)
theorem Ok.drew (h:Ok M R w):Ok M R w.drew:=h.ext ((bz.refl _ w).drew)
theorem Ok.get (h:Ok M R w) (hp:p∈R):p w:=h.r p hp w (bz.refl _ _)
theorem Ok.add (h:Ok M R w) (hp:∀w',bz (Mb M) w w'→p w'):Ok M (p::R) w:=
 ⟨h.m,h.d,fun x hx=>by exact(List.mem_cons.1 hx).elim (fun e=>e ▸ hp) (h.r x)⟩
theorem Ok.kJ (h:Ok M R w) (hp:∀w',(∀r,r∈R→r w')→p w'):Ok M (p::R) w:=h.add fun w' hc=>hp w' fun r hr=>h.r r hr w' hc
theorem Ok.push (h:Ok M R w) (hx:Ext w w') (hq:q.P w') (hl:∀k,q.F k→w.heap.size≤k∧k<w'.heap.size):Ok (q::M) R w':=by
 refine h.step hx.any (fun x hx'=>?_) (List.pairwise_cons.2 ⟨fun x hx' k hk hk'=>?_,h.d⟩) (fun k hk hlt=>?_)
 ·rcases List.mem_cons.1 hx' with rfl|hx'
  ·exact⟨hq,fun k hk=>(hl k hk).2⟩
  ·exact⟨x.st (h.m x hx').1 hx (fun _ _ _ e=>e),fun k hk=>Nat.lt_of_lt_of_le ((h.m x hx').2 k hk) hx.size⟩
 ·have:=(h.m x hx').2 k hk';have:=(hl k hk).1;omega
 ·obtain⟨x,hx',hk⟩:=hk
  rcases List.mem_cons.1 hx' with rfl|hx'
  ·have:=(hl k hk).1;omega
  ·exact⟨x,hx',hk⟩
theorem Ok.sub (h:Ok M R w) (hM:M'.Sublist M) (hR:∀p,p∈R'→p∈R):Ok M' R' w:=by
 have h1:Ok M' R w:=h.step (bz.refl _ w) (fun q hq=>h.m q (hM.subset hq)) (h.d.sublist hM) (fun k ⟨q,hq,hk⟩ _=>⟨q,hM.subset hq,hk⟩)
 exact⟨h1.m,h1.d,fun p hp=>h1.r p (hR p hp)⟩
end
inductive Up (q q':aU):List aU→List aU→Prop
 |head {l:List aU}:Up q q' (q::l) (q'::l)
 |tail {a:aU} {l l':List aU}:Up q q' l l'→Up q q' (a::l) (a::l')
inductive Rm (q:aU):List aU→List aU→Prop
 |head {l:List aU}:Rm q (q::l) l
 |tail {a:aU} {l l':List aU}:Rm q l l'→Rm q (a::l) (a::l')
section
variable {M M':List aU} {R R':List (World→Prop)} {w w':World} {q q':aU} {p:World→Prop}
theorem Up.mem (h:Up q q' M M'):q∈M:=by induction h with|head=>simp|tail _ ih=>simp[ih]
theorem Ok.nA (h:Ok M R w) (hu:Up q q' M M') (hc:bz q.F w w') (hq:q'.P w') (hl:∀k,q'.F k→k<w'.heap.size∧(k<w.heap.size→q.F k)):Ok M' R w':=by
  have hqm:=h.m q hu.mem
 -- footprint kept within the old one or new
  have key:∀x:aU,(∀k,x.F k→k<w.heap.size)→(∀k,q.F k→¬x.F k)→∀k,q'.F k→¬x.F k:=fun x hx hd k hk hk'=>hd k ((hl k hk).2 (hx k hk')) hk'
  have hd2:M.Pairwise fun a b=>((∀k,a.F k→k<w.heap.size)∨a=q')∧True:=by
    exact List.pairwise_of_forall_mem_list (fun a ha b hb=>⟨.inl (h.m a ha).2,trivial⟩)
  have hpw:M'.Pairwise (fun a b=>∀k,a.F k→¬b.F k)∧∀x,x∈M'→x=q'∨(x∈M∧∀k,q.F k→¬x.F k):=by
    have:=hu
    clear hd2
    have hm:=h.m
    have hd:=h.d
    clear h hqm
    induction hu with
    |head=>
      rw[List.pairwise_cons]at hd ⊢
      refine⟨⟨fun x hx=>key x (hm x (by simp[hx])).2 (hd.1 x hx),hd.2⟩,fun x hx=>?_⟩
      rcases List.mem_cons.1 hx with rfl|hx
      · exact .inl rfl
      · exact .inr ⟨by simp[hx],hd.1 x hx⟩
    |@tail a l l' hu ih=>
      rw[List.pairwise_cons]at hd ⊢
      obtain⟨h1,h2⟩:=ih hu (fun q hq=>hm q (by simp[hq])) hd.2
      have haq:∀k,q.F k→¬a.F k:=fun k h1 h2=>hd.1 q hu.mem k h2 h1
      refine⟨⟨fun x hx=>?_,h1⟩,fun x hx=>?_⟩
      · rcases h2 x hx with rfl|⟨hx,_⟩
        · exact fun k h1 h2=>key a (hm a FZ).2 haq k h2 h1
        · exact hd.1 x hx
      · rcases List.mem_cons.1 hx with rfl|hx
        · exact .inr ⟨by simp,haq⟩
        · rcases h2 x hx with rfl|⟨hx,hr⟩
          · exact .inl rfl
          · exact .inr ⟨by simp[hx],hr⟩
  refine h.step (hc.mono fun k _ hk=>⟨q,hu.mem,hk⟩) (fun x hx=>?_) hpw.1 (fun k ⟨x,hx,hk⟩ hlt=>?_)
  · rcases hpw.2 x hx with rfl|⟨hx,hd⟩
    · exact⟨hq,fun k hk=>(hl k hk).1⟩
    · exact⟨x.st (h.m x hx).1 hc (fun k _ h1 h2=>hd k h2 h1),fun k hk=>Nat.lt_of_lt_of_le ((h.m x hx).2 k hk) hc.size⟩
  · rcases hpw.2 x hx with rfl|⟨hx,_⟩
    · exact⟨q,hu.mem,(hl k hk).2 hlt⟩
    · exact⟨x,hx,hk⟩
theorem Rm.sub (h:Rm q M M'):M'.Sublist M:=by
 induction h with
 |head=>exact List.sublist_cons_self _ _
 |tail _ ih=>exact ih.cons_cons _
theorem Rm.mem (h:Rm q M M'):q∈M:=by induction h with|head=>simp|tail _ ih=>simp[ih]
theorem Rm.CN (h:Rm q M M') (hd:M.Pairwise fun a b=>∀k,a.F k→¬b.F k):∀x,x∈M'→∀k,q.F k→¬x.F k:=by
 induction h with
 |head=>exact(List.pairwise_cons.1 hd).1
 |tail hr ih=>
  rw[List.pairwise_cons]at hd
  intro x hx k h1 h2
  rcases List.mem_cons.1 hx with rfl|hx
  ·exact hd.1 q hr.mem k h2 h1
  ·exact ih hd.2 x hx k h1 h2
theorem Ok.freeze (h:Ok M R w) (hr:Rm q M M') (hp:∀w',q.P w'→p w'):Ok M' (p::R) w:=by
 have h1:=h.sub hr.sub (fun p hp=>hp)
 refine h1.add fun w' hc=>hp w' (q.st (h.m q hr.mem).1 hc fun k _ hk ⟨x,hx,hk'⟩=>hr.CN h.d x hx k hk hk')
theorem Ok.jI (h:Ok M R w) (hr:Rm q M M') (hp:∀w',q.P w'→(∀r,r∈R→r w')→p w'):Ok M' (p::R) w:=by
 have h1:=h.freeze hr (p:=q.P) (fun _ h=>h)
 have h2:=h1.kJ (p:=p) (fun w' hw=>hp w' (hw _ FZ) (fun r hr=>hw r (by simp[hr])))
 exact h2.sub (List.Sublist.refl _) (fun x hx=>by rcases List.mem_cons.1 hx with rfl|hx<;>simp[*])
end
def aU.aH (b:Nat) (cs:List Value) (T:TypeId):aU:=⟨fun k=>k=b,fun w=>eA w b cs T,fun h hc hd=>h.aB hc (hd b h.lt rfl)⟩
def aU.own (B T s:Nat) (v:Value) (n:Nat) (cs:List Value):aU:=⟨fun k=>v.ownBlock=some k,fun w=>w.ownsRow B T s v n cs,fun h hc hd=>bA h hc (fun k hk=>hd k (h.lt k hk).2 hk)⟩
def cl (b o:Nat) (v:Value):World→Prop:=fun w=>w.cell? ⟨b,o,none⟩=some v
def Cs (b o:Nat) (cs:List Value):World→Prop:=fun w=>∀j,j<cs.length→w.cell? ⟨b,o+j,none⟩=cs[j]?
inductive Ld (w:World) (b o:Nat) (v:Value):List aU→List (World→Prop)→Prop
 |aH {cs:List Value} {T:TypeId} {M:List aU} {R:List (World→Prop)} (h:cs[o]?=some v):Ld w b o v (.aH b cs T::M) R
 |iT {a:aU} {M:List aU} {R:List (World→Prop)}:Ld w b o v M R→Ld w b o v (a::M) R
 |cl {R:List (World→Prop)}:Ld w b o v [] (cl b o v::R)
 |cs {o':Nat} {cs:List Value} {R:List (World→Prop)} (j:Nat) (e:o'+j=o) (h:cs[j]?=some v):Ld w b o v [] (Cs b o' cs::R)
 |uP {w0:World} {R:List (World→Prop)} (h:w0.cell? ⟨b,o,none⟩=some v):Ld w b o v [] (Ext w0::R)
 |iU {p:World→Prop} {R:List (World→Prop)}:Ld w b o v [] R→Ld w b o v [] (p::R)
theorem Ld.ok {w:World} {b o:Nat} {v:Value} {M:List aU} {R:List (World→Prop)} (h:Ld w b o v M R) (hM:∀q,q∈M→q.P w) (hR:∀p,p∈R→p w):w.cell? ⟨b,o,none⟩=some v:=by
 induction h with
 |@aH cs T M R h=>exact eA.cell (hM (.aH b cs T) FZ) h
 |iT _ ih=>exact ih (fun q hq=>hM q (by simp[hq])) hR
 |cl=>exact hR (Go.Proofs.YtceedealggognaaGreatDoor.cl b o v) FZ
 |@cs o' cs R j e h=>
  have:=hR (Cs b o' cs) FZ
  rw[←e,←h];exact this j (List.getElem?_eq_some_iff.1 h).1
 |@uP w0 _ h=>exact(show Ext w0 w from hR (Ext w0) FZ).cell h
 |iU _ ih=>exact ih hM (fun q hq=>hR q (by simp[hq]))
inductive dH (v:Value):List Value→Nat→List Value→Prop
 |zero {a:Value} {l:List Value}:dH v (a::l) 0 (v::l)
 |succ {a:Value} {l l':List Value} {j:Nat}:dH v l j l'→dH v (a::l) (j+1) (a::l')
theorem dH.eq {v:Value} {l l':List Value} {j:Nat} (h:dH v l j l'):l.set j v=l'∧j<l.length:=by
 induction h with
 |zero=>simp
 |succ _ ih=>simp[ih.1,ih.2]
structure aa (ops:Array Oper) (Q:Exit→Act→World→Prop) (n:Nat) (l:List Oper) (E:Env) (M:List aU) (R:List (World→Prop)):Prop where
 h:∀w,Ok M R w→ah G ops (.list Q w) n l E
structure aP (Q:Exit→Act→World→Prop) (n:Nat) (c:Code) (E:Env) (M:List aU) (R:List (World→Prop)):Prop where
 h:∀w,Ok M R w→Cd G Q n c E w
structure ai (Q:Exit→Act→World→Prop) (n:Nat) (e:Exit) (E:Env) (M:List aU) (R:List (World→Prop)):Prop where
 h:∀w,Ok M R w→Fin Q n e E w
theorem Yl.mono {n:Nat} {op:Op} {E:Env} {C C':World→Prop} {v:Value} (h:Yl G n op E C v) (hc:∀w,C' w→C w):Yl G n op E C' v:=⟨fun w hw=>h.h w (hc w hw)⟩
section
variable {ops:Array Oper} {Q:Exit→Act→World→Prop} {n:Nat} {E:Env} {M M':List aU} {R R':List (World→Prop)} {rest l:List Oper} {op:Op} {d:Nat} {ty:TypeId} {pos:String} {aft:Array Edge} {v:Value} {x y z:Operand} {t:TypeId}
theorem aP.seq {x y:Code} (h:aP (Exit.then (y.wp G.P Q) Q) n x E M R):aP Q n (.seq x y) E M R:=⟨fun w hw=>Cd.seq (h.h w hw)⟩
theorem aP.block {id:Nat} {c:Code} (h:aP (Exit.inBlock id Q) n c E M R):aP Q n (.block id c) E M R:=⟨fun w hw=>Cd.block (h.h w hw)⟩
theorem aP.skip (h:ai Q n .normal E M R):aP Q n .skip E M R:=⟨fun w hw=>Cd.skip (h.h w hw)⟩
theorem aP.exit {id:Nat} (h:ai Q n (.exit id) E M R):aP Q n (.exit id) E M R:=⟨fun w hw=>Cd.exit (h.h w hw)⟩
theorem aP.ret (h:ai Q n .ret E M R):aP Q n .ret E M R:=⟨fun w hw=>Cd.ret (h.h w hw)⟩
theorem aP.region {id:Nat} {l:List Oper} (h:aa l.toArray Q n l E M R):aP Q n (.region id l.toArray false) E M R:=⟨fun w hw=>Cd.region (h.h w hw)⟩
theorem aP.fp {c:Operand} {x y:Code} (hc:ev E c=some (.bool true)) (h:aP Q n x E M R):aP Q n (.cond c x y) E M R:=⟨fun w hw=>Cd.fp hc (h.h w hw)⟩
theorem aP.fm {c:Operand} {x y:Code} (hc:ev E c=some (.bool false)) (h:aP Q n y E M R):aP Q n (.cond c x y) E M R:=⟨fun w hw=>Cd.fm hc (h.h w hw)⟩
theorem aP.zL {b:Bool} {c:Operand} {x y:Code} (hc:ev E c=some (.bool b)) (hx:b=true→aP Q n x E M R) (hy:b=false→aP Q n y E M R):aP Q n (.cond c x y) E M R:=by
 cases b with
 |true=>exact aP.fp hc (hx rfl)
 |false=>exact aP.fm hc (hy rfl)
theorem ai.ij {y:Code} (h:aP Q n y E M R):ai (Exit.then (y.wp G.P Q) Q) n .normal E M R:=⟨fun w hw=>Fin.ij (h.h w hw)⟩
theorem ai.il {K:Act→World→Prop} (h:ai Q n .ret E M R):ai (Exit.then K Q) n .ret E M R:=⟨fun w hw=>Fin.il (h.h w hw)⟩
theorem ai.iq {K:Act→World→Prop} {id:Nat} (h:ai Q n (.exit id) E M R):ai (Exit.then K Q) n (.exit id) E M R:=⟨fun w hw=>Fin.iq (h.h w hw)⟩
theorem ai.lj {id:Nat} (h:ai Q n .normal E M R):ai (Exit.inBlock id Q) n .normal E M R:=⟨fun w hw=>Fin.lj (h.h w hw)⟩
theorem ai.ln {id:Nat} (h:ai Q n .ret E M R):ai (Exit.inBlock id Q) n .ret E M R:=⟨fun w hw=>Fin.ln (h.h w hw)⟩
theorem ai.lq {id:Nat} (h:ai Q n .normal E M R):ai (Exit.inBlock id Q) n (.exit id) E M R:=⟨fun w hw=>Fin.lq (h.h w hw)⟩
theorem ai.qF {id id':Nat} (hne:Nat.beq id' id=false) (h:ai Q n (.exit id') E M R):ai (Exit.inBlock id Q) n (.exit id') E M R:=⟨fun w hw=>Fin.qF hne (h.h w hw)⟩
theorem aa.nil (h:ai Q n .normal E M R):aa ops Q n [] E M R:=⟨fun w hw=>ah.nil (h.h w hw)⟩
theorem aa.y_ (hy:Yl G n op E (Ok M R) v) (hd:(lH op && Nat.blt d n)=true) (h:aa ops Q n rest ((d,v)::E) M R):aa ops Q n (⟨some d,op,ty,pos,aft,none⟩::rest) E M R:=
 ⟨fun w hw=>ah.y (M:=.list Q w) (hy.mono (by rintro _ rfl;exact hw)) hd (h.h w hw)⟩
theorem aa.yg {j:Nat} {b:Bool} (hg:lG ops E j=some b) (hy:Yl G n op E (Ok M R) v) (hd:(lH op && Nat.blt d n)=true) (h:aa ops Q n rest ((d,v)::E) M R):aa ops Q n (⟨some d,op,ty,pos,aft,some (j,b)⟩::rest) E M R:=
 ⟨fun w hw=>ah.yg (M:=.list Q w) hg (hy.mono (by rintro _ rfl;exact hw)) hd (h.h w hw)⟩
theorem aa.gs {j:Nat} {b b':Bool} (hg:lG ops E j=some b') (hb:b'=!b) (hd:Nat.blt d n=true) (h:aa ops Q n rest ((d,undef)::E) M R):aa ops Q n (⟨some d,op,ty,pos,aft,some (j,b)⟩::rest) E M R:=⟨fun w hw=>ah.gs hg hb hd (h.h w hw)⟩
theorem aa.gu {j:Nat} {b:Bool} (hg:BS ops E j=true) (hd:Nat.blt d n=true) (h:aa ops Q n rest ((d,undef)::E) M R):aa ops Q n (⟨some d,op,ty,pos,aft,some (j,b)⟩::rest) E M R:=⟨fun w hw=>ah.gu hg hd (h.h w hw)⟩
theorem aa.e {K:World→Value→World→Prop} (he:∀w,Ok M R w→bC G n op E w (K w)) (hd:Nat.blt d n=true) (h:∀w v w',Ok M R w→K w v w'→ah G ops (.list Q w') n rest ((d,v)::E)):aa ops Q n (⟨some d,op,ty,pos,aft,none⟩::rest) E M R:=⟨fun w hw=>ah.e (he w hw) hd fun v w' hk=>h w v w' hw hk⟩
theorem aa.e0 {K:World→Value→World→Prop} (he:∀w,Ok M R w→bC G n op E w (K w)) (h:∀w v w',Ok M R w→K w v w'→ah G ops (.list Q w') n rest E):aa ops Q n (⟨none,op,ty,pos,aft,none⟩::rest) E M R:=⟨fun w hw=>ah.e0 (he w hw) fun v w' hk=>h w v w' hw hk⟩
theorem aa.kJ (p:World→Prop) (hp:∀w',(∀r,r∈R→r w')→p w') (h:aa ops Q n l E M (p::R)):aa ops Q n l E M R:=⟨fun w hw=>h.h w (hw.kJ hp)⟩
theorem aP.kJ {c:Code} (p:World→Prop) (hp:∀w',(∀r,r∈R→r w')→p w') (h:aP Q n c E M (p::R)):aP Q n c E M R:=⟨fun w hw=>h.h w (hw.kJ hp)⟩
theorem aa.sub {E':Env} (hE:Sub E E') (hM:M'.Sublist M) (hR:∀p,p∈R'→p∈R) (h:aa ops Q n l E' M' R'):aa ops Q n l E M R:=⟨fun w hw=>ah.sub hE (h.h w (hw.sub hM hR))⟩
structure HE {β:Type} (n:Nat) (op:Op) (E:Env) (M:List aU) (R:List (World→Prop)) (φ:β→Prop) (vf:β→Value) (Mf:β→List aU) (Rf:β→List (World→Prop)):Prop where
 h:∀w,Ok M R w→bC G n op E w (fun v w'=>∃x,φ x∧v=vf x∧Ok (Mf x) (Rf x) w')
structure gI {β:Type} (n:Nat) (op:Op) (E:Env) (M:List aU) (R:List (World→Prop)) (φ:β→Prop) (Mf:β→List aU) (Rf:β→List (World→Prop)):Prop where
 h:∀w,Ok M R w→bC G n op E w (fun _ w'=>∃x,φ x∧Ok (Mf x) (Rf x) w')
section
variable {β:Type} {φ:β→Prop} {vf:β→Value} {Mf:β→List aU} {Rf:β→List (World→Prop)}
theorem aa.he (he:HE n op E M R φ vf Mf Rf) (hd:Nat.blt d n=true) (h:∀x,φ x→aa ops Q n rest ((d,vf x)::E) (Mf x) (Rf x)):aa ops Q n (⟨some d,op,ty,pos,aft,none⟩::rest) E M R:=
 aa.e (fun w hw=>he.h w hw) hd fun w v w' hw ⟨x,h1,h2,h3⟩=>by subst h2;exact(h x h1).h w' h3
theorem aa.nc (he:gI n op E M R φ Mf Rf) (h:∀x,φ x→aa ops Q n rest E (Mf x) (Rf x)):aa ops Q n (⟨none,op,ty,pos,aft,none⟩::rest) E M R:=
 aa.e0 (fun w hw=>he.h w hw) fun _w _v w' _hw ⟨x,h1,h3⟩=>(h x h1).h w' h3
theorem aa.Ci {j:Nat} {b:Bool} (hg:lG ops E j=some b) (he:HE n op E M R φ vf Mf Rf) (hd:Nat.blt d n=true) (h:∀x,φ x→aa ops Q n rest ((d,vf x)::E) (Mf x) (Rf x)):aa ops Q n (⟨some d,op,ty,pos,aft,some (j,b)⟩::rest) E M R:=
 ⟨fun w hw=>ah.eg hg (he.h w hw) hd fun v w' ⟨x,h1,h2,h3⟩=>by subst h2;exact(h x h1).h w' h3⟩
end
theorem qG {w w':World} {cs:List Value} {T:TypeId} (hn:tr w w' cs T):∀k,(aU.aH w.heap.size cs T).F k→w.heap.size≤k∧k<w'.heap.size:=fun k hk=>by
 have:k=w.heap.size:=hk
 have:=hn.size;omega
theorem HE.alloc {ti:TI} (cs:List Value) (ht:G.ty t=some ti) (hz:ti.zero.cells.toList=cs):HE n (.alloc t) E M R (fun _:Nat=>True) (fun b=>.pointer (some ⟨b,0,none⟩)) (fun b=>.aH b cs t::M) (fun _=>R):=
 ⟨fun w hw=>(bC.alloc ht).mono fun v w' ⟨e,hn⟩=>by rw[hz]at hn;exact⟨w.heap.size,trivial,e,hw.push hn.ext hn.aH (qG hn)⟩⟩
theorem HE.box (cs:List Value) (hx:ev E x=some v) (hcs:v.cells=cs.toArray):HE n (.box t x) E M R (fun _:Nat=>True) (fun b=>.pointer (some ⟨b,0,none⟩)) (fun b=>.aH b cs t::M) (fun _=>R):=
 ⟨fun w hw=>(bC.box hx hcs).mono fun _v _w' ⟨e,hn⟩=>⟨w.heap.size,trivial,e,hw.push hn.ext hn.aH (qG hn)⟩⟩
theorem HE.At {e len:Nat} {parts:List (Nat×Operand)} {vs:List Value} (cs:List Value) (hv:ji E (parts.map (·.2))=some vs)
  (hr:∀w,(Instr.buildSlice t len ((parts.map (·.1)).zip vs).toArray).run G.P w=.ok (.slice (some ⟨w.heap.size,0,none⟩) len len) (w.alloc (.cells cs.toArray e))):
  HE n (.buildSlice t len parts.toArray) E M R (fun _:Nat=>True) (fun b=>.slice (some ⟨b,0,none⟩) len len) (fun b=>.aH b cs e::M) (fun _=>R):=
 ⟨fun w hw=>(bC.buildSlice hv (hr w)).mono fun _v _w' ⟨e1,hn⟩=>⟨w.heap.size,trivial,e1,hw.push hn.ext hn.aH (qG hn)⟩⟩
theorem aa.alloc {ti:TI} (cs:List Value) (ht:G.ty t=some ti) (hz:ti.zero.cells.toList=cs) (hd:Nat.blt d n=true) (h:∀b,aa ops Q n rest ((d,.pointer (some ⟨b,0,none⟩))::E) (.aH b cs t::M) R):aa ops Q n (⟨some d,.alloc t,ty,pos,aft,none⟩::rest) E M R:=
 aa.he (HE.alloc cs ht hz) hd fun b _=>h b
theorem aa.box (cs:List Value) (hx:ev E x=some v) (hcs:v.cells=cs.toArray) (hd:Nat.blt d n=true) (h:∀b,aa ops Q n rest ((d,.pointer (some ⟨b,0,none⟩))::E) (.aH b cs t::M) R):aa ops Q n (⟨some d,.box t x,ty,pos,aft,none⟩::rest) E M R:=
 aa.he (HE.box cs hx hcs) hd fun b _=>h b
theorem uI {w w':World} {b T:Nat} {old cs:List Value} (hw:Ok M R w) (hM:Up (.aH b old T) (.aH b cs T) M M') (hb:eA w' b cs T) (hc:bz (fun k=>k=b) w w'):Ok M' R w':=
 hw.nA hM hc hb (fun k hk=>by
  have:k=b:=hk
  have:=(hw.m _ hM.mem).2 b rfl
  have:=hc.size
  exact⟨by omega,fun _=>hk⟩)
theorem gI.aL {ti:TI} {b T:Nat} {old:List Value} (cs:List Value) (ht:G.ty t=some ti) (hx:ev E x=some (.pointer (some ⟨b,0,none⟩))) (hy:ev E y=some v) (hcs:v.cells=cs.toArray) (hs:ti.size=cs.length) (hv:(cs.all fun u=>u.oneCell')=true)
  (hM:Up (.aH b old T) (.aH b cs T) M M') (hl:Nat.beq old.length cs.length=true):gI n (.store t x y) E M R (fun _:Unit=>True) (fun _=>M') (fun _=>R):=
 ⟨fun _w hw=>(bC.aL ht hx hy hcs hs (fun u hu=>List.all_eq_true.1 hv u hu) (hw.m _ hM.mem).1 (Nat.eq_of_beq_eq_true hl)).mono fun _ _w' ⟨hb,hc,_⟩=>⟨(),trivial,uI hw hM hb hc⟩⟩
theorem aa.aL {ti:TI} {b T:Nat} {old:List Value} (cs:List Value) (ht:G.ty t=some ti) (hx:ev E x=some (.pointer (some ⟨b,0,none⟩))) (hy:ev E y=some v) (hcs:v.cells=cs.toArray) (hs:ti.size=cs.length) (hv:(cs.all fun u=>u.oneCell')=true)
  (hM:Up (.aH b old T) (.aH b cs T) M M') (hl:Nat.beq old.length cs.length=true) (h:aa ops Q n rest E M' R):aa ops Q n (⟨none,.store t x y,ty,pos,aft,none⟩::rest) E M R:=
 aa.nc (gI.aL cs ht hx hy hcs hs hv hM hl) fun _ _=>h
theorem gI.dZ {ti:TI} {b j T:Nat} {old cs:List Value} (ht:G.ty t=some ti) (hs:ti.size=1) (hx:ev E x=some (.pointer (some ⟨b,j,none⟩))) (hy:ev E y=some v) (hv:v.oneCell'=true)
  (hM:Up (.aH b old T) (.aH b cs T) M M') (hcs:dH v old j cs):gI n (.store t x y) E M R (fun _:Unit=>True) (fun _=>M') (fun _=>R):=
 ⟨fun w hw=>(bC.ur ht hs hx hy hv (hw.m _ hM.mem).1 hcs.eq.2).mono fun _ w' ⟨hb,hc,_⟩=>by
  rw[hcs.eq.1]at hb;exact⟨(),trivial,uI hw hM hb hc⟩⟩
theorem aa.dZ {ti:TI} {b j T:Nat} {old cs:List Value} (ht:G.ty t=some ti) (hs:ti.size=1) (hx:ev E x=some (.pointer (some ⟨b,j,none⟩))) (hy:ev E y=some v) (hv:v.oneCell'=true)
  (hM:Up (.aH b old T) (.aH b cs T) M M') (hcs:dH v old j cs) (h:aa ops Q n rest E M' R):aa ops Q n (⟨none,.store t x y,ty,pos,aft,none⟩::rest) E M R:=
 aa.nc (gI.dZ ht hs hx hy hv hM hcs) fun _ _=>h
theorem HE.app {Mf:Value→List aU} {ti te:TI} {B T s m bk Tb:Nat} {xs cs:List Value} (hx:ev E x=some v) (hy:ev E y=some (.slice (some ⟨bk,0,none⟩) 1 1)) (hM:∀v',Up (.own B T s v m xs) (.own B T s v' (m+1) (xs++cs)) M (Mf v')) (hb:Up (.aH bk cs Tb) (.aH bk cs Tb) M M')
  (ht:G.ty t=some ti) (he:ti.elem=some T) (hte:G.ty T=some te) (hs:te.size=s) (hzs:Nat.beq te.zero.cells.size te.size=true) (hsz:Nat.blt 0 te.size=true) (hbt:Nat.ble te.bytes 1000=true) (hcl:Nat.beq cs.length s=true) (h1:(cs.all fun u=>u.oneCell')=true) (hlen:m≤100000000000) (hB:∀w,Ok M R w→B≤w.heap.size):
  HE n (.call ⟨.builtin .append,#[x,y],#[t,t]⟩) E M R (fun _:Value=>True) (fun v'=>v') Mf (fun _=>R):=
 ⟨fun w hw=>by
  subst hs
  have hm:=(hw.m _ (hM undef).mem)
  have hbk:eA w bk cs Tb:=(hw.m _ hb.mem).1
  have hcl':=Nat.eq_of_beq_eq_true hcl
  have hbt':=Nat.le_of_ble_eq_true hbt
  refine(bC.nG (G:=G) (news:=cs) ht he hte (Nat.eq_of_beq_eq_true hzs) (by simpa using hsz) hx hm.1 hy (by rw[hcl'];omega) (fun j u hj=>by rw[Nat.zero_add];exact hbk.cell hj) (fun u hu=>List.all_eq_true.1 h1 u hu) FN (by have:=Nat.mul_le_mul (show m+1≤100000000001 by omega) hbt';omega) (hB w hw)).mono
   fun v' w' ⟨ho,hc,hob⟩=>⟨v',trivial,rfl,hw.nA (hM v') hc ho fun k hk=>⟨(ho.lt k hk).2,fun hlt=>?_⟩⟩
  rcases hob with e|e
  ·show v.ownBlock=some k
   rw[←e];exact hk
  ·have hk':v'.ownBlock=some k:=hk
   rw[e]at hk';cases hk';omega⟩
theorem Yl.jr {ti:TI} {b o:Nat} (ht:G.ty t=some ti) (ha:ti.agg=false) (hx:ev E x=some (.pointer (some ⟨b,o,none⟩))) (h:∀w,Ld w b o v M R):Yl G n (.load t x) E (Ok M R) v:=
 Yl.load ht ha hx fun w hw=>(h w).ok (fun q hq=>(hw.m q hq).1) (fun _p hp=>hw.get hp)
theorem Yl.jo {ti:TI} {b T:Nat} {cs:List Value} (ht:G.ty t=some ti) (ha:ti.agg=true) (hx:ev E x=some (.pointer (some ⟨b,0,none⟩))) (hs:Nat.beq cs.length ti.size=true) (hM:Up (.aH b cs T) (.aH b cs T) M M'):Yl G n (.load t x) E (Ok M R) (.agg cs.toArray):=
 Yl.mW ht ha rfl hx (Nat.eq_of_beq_eq_true hs) fun w hw j hj=>by
  have hb:eA w b cs T:=(hw.m _ hM.mem).1
  have hl:j<cs.length:=by rw[Nat.eq_of_beq_eq_true hs];exact hj
  rw[Nat.zero_add,List.getElem?_eq_getElem hl]
  exact hb.cell (List.getElem?_eq_getElem hl)
theorem Yl.jq {ti:TI} {b o:Nat} {cs:List Value} (ht:G.ty t=some ti) (ha:ti.agg=true) (hx:ev E x=some (.pointer (some ⟨b,o,none⟩))) (hR:Cs b o cs∈R) (hs:Nat.beq cs.length ti.size=true):Yl G n (.load t x) E (Ok M R) (.agg cs.toArray):=
 Yl.mW ht ha rfl hx (Nat.eq_of_beq_eq_true hs) fun w hw j hj=>hw.get hR j (by rw[Nat.eq_of_beq_eq_true hs];exact hj)
theorem Yl.gC {ti:TI} {b o s:Nat} {cs:List Value} {w0:World} (ht:G.ty t=some ti) (ha:ti.agg=true) (hx:ev E x=some (.pointer (some ⟨b,o,none⟩))) (hR:Ext w0∈R) (hs:ti.size=s) (hl:cs.length=s) (hc:∀j,j<s→w0.cell? ⟨b,o+j,none⟩=cs[j]?):Yl G n (.load t x) E (Ok M R) (.agg cs.toArray):=
 Yl.mW ht ha hs hx hl fun w hw j hj=>by
  have h1:=hc j hj
  rw[List.getElem?_eq_getElem FY]at h1 ⊢
  exact(show Ext w0 w from hw.get hR).cell h1
theorem aa.az {f:Nat} {args:List Operand} {tys:Array TypeId} {vs:List Value} (hf:G.fb[f]?=some true) (ha:ji E args=some vs) (hd:Nat.blt d n=true)
  (hc:∀w,Ok M R w→Calls G.P f vs.toArray w (fun e w'=>e=.returned v∧Ext w w'))
  (h:aa ops Q n rest ((d,v)::E) M R):aa ops Q n (⟨some d,.call ⟨.value (.func f),args.toArray,tys⟩,ty,pos,aft,none⟩::rest) E M R:=
 ⟨fun w hw=>ah.call hf ha hd (hc w hw) fun _e w' ⟨e1,hx⟩=>⟨v,e1,h.h w' (hw.ext hx)⟩⟩
theorem aa.dV {f j:Nat} {b:Bool} {args:List Operand} {tys:Array TypeId} {vs:List Value} (hg:lG ops E j=some b) (hf:G.fb[f]?=some true) (ha:ji E args=some vs) (hd:Nat.blt d n=true)
  (hc:∀w,Ok M R w→Calls G.P f vs.toArray w (fun e w'=>e=.returned v∧Ext w w'))
  (h:aa ops Q n rest ((d,v)::E) M R):aa ops Q n (⟨some d,.call ⟨.value (.func f),args.toArray,tys⟩,ty,pos,aft,some (j,b)⟩::rest) E M R:=
 ⟨fun w hw=>ah.sg hg hf ha hd (hc w hw) fun _e w' ⟨e1,hx⟩=>⟨v,e1,h.h w' (hw.ext hx)⟩⟩
def zF {β:Type} (V:Nat→World→β→Prop):Prop:=∀{lo:Nat} {x:β} {S:Nat→Prop} {w w':World},V lo w x→bz S w w'→(∀k,k<w.heap.size→lo≤k→¬S k)→V lo w' x
theorem HE.Bg {β:Type} {V:Nat→World→β→Prop} (tf:β→Value) {f:Nat} {args:List Operand} {tys:Array TypeId} {vs:List Value} (hV:zF V) (hf:G.fb[f]?=some true) (ha:ji E args=some vs)
  (hc:∀w,Ok M R w→Calls G.P f vs.toArray w (fun e w'=>(∃x,e=.returned (tf x)∧V w.heap.size w' x)∧Ext w w')):
  HE n (.call ⟨.value (.func f),args.toArray,tys⟩) E M R (fun x:Nat×β=>∃w,Ok M R w∧x.1=w.heap.size) (fun x=>tf x.2) (fun _=>M) (fun x=>(fun w=>V x.1 w x.2)::R):=
 ⟨fun w hw=>(bC.call hf ha (hc w hw) (fun e w' h=>by obtain⟨⟨x,e1,_⟩,_⟩:=h;exact⟨_,e1⟩)).mono fun v w' ⟨⟨x,e1,hv⟩,hx⟩=>by
  cases e1
  refine⟨(w.heap.size,x),⟨w,hw,rfl⟩,rfl,(hw.ext hx).add fun w2 h2=>hV hv h2 fun k _ hk ⟨q,hq,hk'⟩=>?_⟩
  have:=(hw.m q hq).2 k hk';omega⟩
theorem HE.call {β:Type} {φ:β→Prop} {Mf:β→List aU} {Rf:β→List (World→Prop)} (tf:β→Value) {f:Nat} {args:List Operand} {tys:Array TypeId} {vs:List Value} (hf:G.fb[f]?=some true) (ha:ji E args=some vs)
  (hc:∀w,Ok M R w→Calls G.P f vs.toArray w (fun e w'=>∃x,e=.returned (tf x)∧φ x∧Ok (Mf x) (Rf x) w')):HE n (.call ⟨.value (.func f),args.toArray,tys⟩) E M R φ tf Mf Rf:=
 ⟨fun w hw=>(bC.call hf ha (hc w hw) (fun e w' h=>by obtain⟨x,e1,_⟩:=h;exact⟨_,e1⟩)).mono fun v w' ⟨x,e1,h1,h2⟩=>by cases e1;exact⟨x,h1,rfl,h2⟩⟩
theorem aa.pure {φ:Prop} (hp:∀w,Ok M R w→φ) (h:φ→aa ops Q n l E M R):aa ops Q n l E M R:=⟨fun w hw=>(h (hp w hw)).h w hw⟩
theorem aP.pure {φ:Prop} {c:Code} (hp:∀w,Ok M R w→φ) (h:φ→aP Q n c E M R):aP Q n c E M R:=⟨fun w hw=>(h (hp w hw)).h w hw⟩
theorem aa.freeze {q:aU} (p:World→Prop) (hr:Rm q M M') (hp:∀w',q.P w'→(∀r,r∈R→r w')→p w') (h:aa ops Q n l E M' (p::R)):aa ops Q n l E M R:=⟨fun w hw=>h.h w (hw.jI hr hp)⟩
theorem aP.freeze {q:aU} {c:Code} (p:World→Prop) (hr:Rm q M M') (hp:∀w',q.P w'→(∀r,r∈R→r w')→p w') (h:aP Q n c E M' (p::R)):aP Q n c E M R:=⟨fun w hw=>h.h w (hw.jI hr hp)⟩
/-! a region that draws its order and holds effects, the last one of which waits for all others -/
structure aM (ops:Array Oper) (Q:Exit→Act→World→Prop) (Mc:List aU) (Rc:List (World→Prop)) (n:Nat) (l:List Oper) (E:Env) (M:List aU) (R:List (World→Prop)):Prop where
 h:∀w,Ok M R w→ah G ops (.mix true Q (Ok Mc Rc) w) n l E
theorem aP.cq {id:Nat} {l:List Oper} (ord:List Nat) (z:Nat) (Mc:List aU) (Rc:List (World→Prop)) (hB:uT l ord z=true) (hM:Mc.Sublist M) (hR:∀p,p∈Rc→p∈R) (h:aM l.toArray Q Mc Rc n (pick l (ord++[z])) E M R):aP Q n (.region id l.toArray true) E M R:=
 ⟨fun w hw=>Cd.cq ord z (Ok Mc Rc) hB (hw.drew.sub hM hR) (h.h w.drew hw.drew)⟩
section
variable {Mc:List aU} {Rc:List (World→Prop)} {β:Type} {φ:β→Prop} {vf:β→Value} {Mf:β→List aU} {Rf:β→List (World→Prop)}
theorem aM.y_ (hy:Yl G n op E (Ok Mc Rc) v) (hd:(lH op && Nat.blt d n)=true) (h:aM ops Q Mc Rc n rest ((d,v)::E) M R):aM ops Q Mc Rc n (⟨some d,op,ty,pos,aft,none⟩::rest) E M R:=
 ⟨fun w hw=>ah.y (M:=.mix true Q (Ok Mc Rc) w) hy hd (h.h w hw)⟩
theorem aM.he (he:HE n op E M R φ vf Mf Rf) (hd:(!lH op && Nat.blt d n)=true) (hM:∀x,Mc.Sublist (Mf x)) (hR:∀x p,p∈Rc→p∈Rf x) (h:∀x,φ x→aM ops Q Mc Rc n rest ((d,vf x)::E) (Mf x) (Rf x)):aM ops Q Mc Rc n (⟨some d,op,ty,pos,aft,none⟩::rest) E M R:=
 ⟨fun w hw=>ah.m (he.h w hw) hd fun v w' ⟨x,h1,h2,h3⟩=>by subst h2;exact⟨h3.sub (hM x) (hR x),(h x h1).h w' h3⟩⟩
theorem aM.BT (he:HE n op E M R φ vf Mf Rf) (hd:(!lH op && Nat.blt d n)=true) (h:∀x,φ x→ai Q n .normal ((d,vf x)::E) (Mf x) (Rf x)):aM ops Q Mc Rc n [⟨some d,op,ty,pos,aft,none⟩] E M R:=
 ⟨fun w hw=>ah.mz (he.h w hw) hd fun v w' ⟨x,h1,h2,h3⟩=>by subst h2;exact ah.we ((h x h1).h w' h3)⟩
theorem aM.gR (he:gI n op E M R φ Mf Rf) (hd:lH op=false) (h:∀x,φ x→ai Q n .normal E (Mf x) (Rf x)):aM ops Q Mc Rc n [⟨none,op,ty,pos,aft,none⟩] E M R:=
 ⟨fun w hw=>ah.DK (he.h w hw) hd fun _v w' ⟨x,h1,h3⟩=>ah.we ((h x h1).h w' h3)⟩
variable {gd:Option (Nat×Bool)} {dd:Option Nat} {t2:TypeId}
theorem aM.an {bo:BinOp} (h:aM ops Q Mc Rc n (⟨dd,.binOp bo t x y t2,ty,pos,aft,gd⟩::rest) E M R):aM ops Q Mc Rc n (⟨dd,.binOp bo t x y t2,ty,pos,aft,gd⟩::rest) E M R:=h
theorem aM.isField {f:Nat} (h:aM ops Q Mc Rc n (⟨dd,.fieldAddr t x f,ty,pos,aft,gd⟩::rest) E M R):aM ops Q Mc Rc n (⟨dd,.fieldAddr t x f,ty,pos,aft,gd⟩::rest) E M R:=h
theorem aM.bW (h:aM ops Q Mc Rc n (⟨dd,.load t x,ty,pos,aft,gd⟩::rest) E M R):aM ops Q Mc Rc n (⟨dd,.load t x,ty,pos,aft,gd⟩::rest) E M R:=h
end
theorem aP.dR {id:Nat} {l:List Oper} (hB:Region.lexB .any l.toArray=true) (h:ah G l.toArray (.quiet (fun a'=>∀w',Ok M R w'→Q .normal a' w') (Ok M R)) n l E):aP Q n (.region id l.toArray true) E M R:=
 ⟨fun _w hw=>Cd.zn (Ok M R) hB hw.drew h⟩
theorem aP.ku {id:Nat} {l:List Oper} (_:(l.all fun o=>lH o.op)=true) (hB:Region.lexB .any l.toArray=true) (h:ah G l.toArray (.quiet (fun a'=>∀w',Ok M R w'→Q .normal a' w') (Ok M R)) n l E):aP Q n (.region id l.toArray true) E M R:=aP.dR hB h
theorem ah.Cw (h:ai Q n .normal E M R):ah G ops (.quiet (fun a'=>∀w',Ok M R w'→Q .normal a' w') (Ok M R)) n [] E:=⟨fun a ha w' hw=>(h.h w' hw).h a ha⟩
theorem ah.zI {K:Act→Prop} {f:Nat} {args:List Operand} {tys:Array TypeId} {vs:List Value} (hf:G.fb[f]?=some true) (ha:ji E args=some vs) (hd:Nat.blt d n=true) (hc:∀w,Ok M R w→Calls G.P f vs.toArray w (fun e w'=>e=.returned v∧Ext w w'))
  (h:ah G ops (.quiet K (Ok M R)) n rest ((d,v)::E)):ah G ops (.quiet K (Ok M R)) n (⟨some d,.call ⟨.value (.func f),args.toArray,tys⟩,ty,pos,aft,none⟩::rest) E:=
 ah.Bh hf ha hd (fun w hw=>(hc w hw).mono fun _e _w' ⟨e1,hx⟩=>⟨e1,hw.ext hx⟩) h
theorem ah.mE {K:Act→Prop} {f j:Nat} {b:Bool} {args:List Operand} {tys:Array TypeId} {vs:List Value} (hg:lG ops E j=some b) (hf:G.fb[f]?=some true) (ha:ji E args=some vs) (hd:Nat.blt d n=true) (hc:∀w,Ok M R w→Calls G.P f vs.toArray w (fun e w'=>e=.returned v∧Ext w w'))
  (h:ah G ops (.quiet K (Ok M R)) n rest ((d,v)::E)):ah G ops (.quiet K (Ok M R)) n (⟨some d,.call ⟨.value (.func f),args.toArray,tys⟩,ty,pos,aft,some (j,b)⟩::rest) E:=
 ah.Au hg hf ha hd (fun w hw=>(hc w hw).mono fun _e _w' ⟨e1,hx⟩=>⟨e1,hw.ext hx⟩) h
def uE {σ:Type} (n:Nat) (Ei:σ→Env) (Mi:σ→List aU) (Ri:σ→List (World→Prop)) (I:σ→Prop) (μ:σ→Nat) (s:σ):Act→World→Prop:=
 nN n Ei (fun s w=>I s∧Ok (Mi s) (Ri s) w) μ s
theorem aP.loop {σ:Type} {c:Code} (Ei:σ→Env) (Mi:σ→List aU) (Ri:σ→List (World→Prop)) (I:σ→Prop) (μ:σ→Nat) (s0:σ) (hE:Sub E (Ei s0)) (hM:(Mi s0).Sublist M) (hR:∀p,p∈Ri s0→p∈R) (hI:I s0)
  (round:∀s,I s→aP (Exit.then (uE n Ei Mi Ri I μ s) Q) n c (Ei s) (Mi s) (Ri s)):aP Q n (.loop c) E M R:=
 ⟨fun _w hw=>Cd.loop Ei (fun s w=>I s∧Ok (Mi s) (Ri s) w) μ s0 hE ⟨hI,hw.sub hM hR⟩ fun s w ⟨h1,h2⟩=>(round s h1).h w h2⟩
theorem ai.next {σ:Type} {Ei:σ→Env} {Mi:σ→List aU} {Ri:σ→List (World→Prop)} {I:σ→Prop} {μ:σ→Nat} {s:σ} (s':σ) (hE:Sub E (Ei s')) (hM:(Mi s').Sublist M) (hR:∀p,p∈Ri s'→p∈R) (hI:I s') (hμ:μ s'<μ s):
  ai (Exit.then (uE n Ei Mi Ri I μ s) Q) n .normal E M R:=⟨fun _w hw=>Fin.next s' hE ⟨hI,hw.sub hM hR⟩ hμ⟩
end
section
variable {fn:Func} {Rp:Ending→World→Prop} {n:Nat} {E:Env} {M M':List aU} {R:List (World→Prop)} {v x:Value} {t u:Nat}
theorem ai.yf (hr:fn.results=#[]) (hR:∀w,Ok M R w→Rp (.returned (.tuple #[])) w):ai (bodyPost G.P fn Rp) n .ret E M R:=⟨fun w hw=>Fin.yf hr (hR w hw)⟩
theorem ai.km (hr:fn.results=#[]) (hR:∀w,Ok M R w→Rp (.returned (.tuple #[])) w):ai (bodyPost G.P fn Rp) n .normal E M R:=⟨fun w hw=>Fin.km hr (hR w hw)⟩
theorem ai.aA (hr:fn.results=#[.tmp t]) (hv:lk E t=some v) (hR:∀w,Ok M R w→Rp (.returned v) w):ai (bodyPost G.P fn Rp) n .ret E M R:=⟨fun w hw=>Fin.aA hr hv (hR w hw)⟩
theorem ai.gb (hr:fn.results=#[.tmp t,.tmp u]) (hv:lk E t=some v) (hx:lk E u=some x) (hR:∀w,Ok M R w→Rp (.returned (.tuple #[v,x])) w):ai (bodyPost G.P fn Rp) n .ret E M R:=⟨fun w hw=>Fin.gb hr hv hx (hR w hw)⟩
theorem ai.fw {e:Exit} {a T Tb b s:Nat} {ti:TI} {cs:List Value} (he:e=.ret∨e=.normal) (hr:fn.results=#[.cell a T]) (ha:lk E a=some (.pointer (some ⟨b,0,none⟩))) (hT:G.ty T=some ti) (hag:ti.agg=true) (hsz:ti.size=s) (hM:Up (.aH b cs Tb) (.aH b cs Tb) M M') (hl:cs.length=s) (hR:∀w,Ok M R w→Rp (.returned (.agg cs.toArray)) w):ai (bodyPost G.P fn Rp) n e E M R:=
 ⟨fun w hw=>Fin.fw he hr ha hT hag hsz (hw.m _ hM.mem).1 hl (hR w hw)⟩
theorem ai.bh {e:Exit} {a T Tb b s:Nat} {ti:TI} {cs:List Value} (he:e=.ret∨e=.normal) (hr:fn.results=#[.cell a T,.tmp t]) (ha:lk E a=some (.pointer (some ⟨b,0,none⟩))) (hT:G.ty T=some ti) (hag:ti.agg=true) (hsz:ti.size=s) (hM:Up (.aH b cs Tb) (.aH b cs Tb) M M') (hl:cs.length=s) (hv:lk E t=some v) (hR:∀w,Ok M R w→Rp (.returned (.tuple #[.agg cs.toArray,v])) w):ai (bodyPost G.P fn Rp) n e E M R:=
 ⟨fun w hw=>Fin.bh he hr ha hT hag hsz (hw.m _ hM.mem).1 hl hv (hR w hw)⟩
end
theorem aj {f:FuncId} {fn:Func} {c:Code} {n:Nat} {l:List Value} {w:World} {Rp:Ending→World→Prop} {M:List aU} {R:List (World→Prop)} (hf:G.P.funcs[f]?=some fn) (hb:fn.body=some c) (hn:fn.ntmps=n) (hl:Nat.ble l.length n=true) (hw:Ok M R w)
  (h:aP (bodyPost G.P fn Rp) n c (tB 0 l) M R):Calls G.P f l.toArray w Rp:=enter (G:=G) hf hb hn hl (h.h w hw)
theorem o0 {R:List (World→Prop)}:∀p,p∈([]:List (World→Prop))→p∈R:=fun _ h=>by cases h
theorem mN {p:World→Prop} {R R':List (World→Prop)} (h:p∈R) (hr:∀x,x∈R'→x∈R):∀x,x∈p::R'→x∈R:=fun x hx=>(List.mem_cons.1 hx).elim (fun e=>e ▸ h) (hr x)
section
variable {ops:Array Oper} {Q:Exit→Act→World→Prop} {n:Nat} {E:Env} {M M':List aU} {R:List (World→Prop)} {rest l:List Oper} {op:Op} {d:Option Nat} {ty:TypeId} {pos:String} {aft:Array Edge} {gd:Option (Nat×Bool)} {v:Value} {x y z:Operand} {t t2:TypeId} {C:World→Prop}
theorem Yl.hU {ti:TI} {f o bk:Nat} (ht:G.ty t=some ti) (ho:ti.kL[f]?=some o) (hx:ev E x=some (.pointer (some ⟨bk,0,none⟩))):Yl G n (.fieldAddr t x f) E C (.pointer (some ⟨bk,o,none⟩)):=by
 have:=Yl.field (G:=G) (n:=n) (E:=E) (C:=C) ht ho hx
 rwa[Nat.zero_add]at this
theorem aa.is (h:aa ops Q n l E M R):aa ops Q n l E M R:=h
theorem aP.is {c:Code} (h:aP Q n c E M R):aP Q n c E M R:=h
theorem ai.is {e:Exit} (h:ai Q n e E M R):ai Q n e E M R:=h
theorem aa.wU {jb:Nat×Bool} (h:aa ops Q n (⟨d,op,ty,pos,aft,some jb⟩::rest) E M R):aa ops Q n (⟨d,op,ty,pos,aft,some jb⟩::rest) E M R:=h
theorem aa.an {bo:BinOp} (h:aa ops Q n (⟨d,.binOp bo t x y t2,ty,pos,aft,gd⟩::rest) E M R):aa ops Q n (⟨d,.binOp bo t x y t2,ty,pos,aft,gd⟩::rest) E M R:=h
theorem aa.dX (h:aa ops Q n (⟨d,.indexAddr t x y,ty,pos,aft,gd⟩::rest) E M R):aa ops Q n (⟨d,.indexAddr t x y,ty,pos,aft,gd⟩::rest) E M R:=h
theorem aa.isField {f:Nat} (h:aa ops Q n (⟨d,.fieldAddr t x f,ty,pos,aft,gd⟩::rest) E M R):aa ops Q n (⟨d,.fieldAddr t x f,ty,pos,aft,gd⟩::rest) E M R:=h
theorem aa.bW (h:aa ops Q n (⟨d,.load t x,ty,pos,aft,gd⟩::rest) E M R):aa ops Q n (⟨d,.load t x,ty,pos,aft,gd⟩::rest) E M R:=h
theorem aa.qQ (h:aa ops Q n (⟨none,.store t x y,ty,pos,aft,gd⟩::rest) E M R):aa ops Q n (⟨none,.store t x y,ty,pos,aft,gd⟩::rest) E M R:=h
end
theorem Ok.start (w:World):Ok [] [Ext w] w:=
 ⟨fun q h=>absurd h FZ,List.Pairwise.nil,fun p hp w' hc=>by
  rw[List.mem_singleton]at hp;subst hp;exact hc.mono (fun k _ ⟨q,hq,_⟩=>absurd hq FZ)⟩
def FW (ro:Option Nat):Fence:={Fence.wide with round:=ro}
theorem lI {ro:Option Nat} {m:Nat} {f:FuncId} {args:Array Value} {w:World} {R:Ending→World→Prop} (h:Calls G.P f args w R):CallsIn (FW ro) m G.P f args w R:=by
 have h1:CallsIn Fence.wide m G.P f args w R:=callsIn_wide.2 h
 cases ro with
 |none=>exact h1
 |some l=>exact h1.inRound l
structure nM (n:Nat) (D:List Deferred) (a:Act) (E:Env):Prop where
 ag:Ag n {a with defers:=[]} E
 df:a.defers=D
theorem nM.of {n:Nat} {a:Act} {E:Env} (h:Ag n a E):nM n [] a E:=⟨⟨h.sz,rfl,h.eq⟩,h.df⟩
theorem nM.zy {n:Nat} {a:Act} {E:Env} (h:nM n [] a E):Ag n a E:=⟨h.ag.sz,h.df,h.ag.eq⟩
theorem sr (a:Act):({a with defers:=[]}:Act).eval=a.eval:=by funext x;cases x<;>rfl
theorem nM.eval {n:Nat} {D:List Deferred} {a:Act} {E:Env} (h:nM n D a E) {x:Operand} {v:Value} (hx:ev E x=some v):a.eval x=v:=by rw[←sr];exact h.ag.eval hx
theorem nM.put {n:Nat} {D:List Deferred} {a:Act} {E:Env} (h:nM n D a E) {d:Nat} (hd:d<n) (v:Value):nM n D (a.put (some d) v) ((d,v)::E):=⟨h.ag.put hd v,by simp[Act.put,h.df]⟩
theorem nM.sub {n:Nat} {D:List Deferred} {a:Act} {E E':Env} (h:nM n D a E) (hs:Sub E E'):nM n D a E':=⟨h.ag.sub hs,h.df⟩
structure cQ (ro:Option Nat) (m:Nat) (D:List Deferred) (ops:Array Oper) (Q:Exit→Act→World→Prop) (n:Nat) (l:List Oper) (E:Env) (w:World):Prop where
 h:∀a,nM n D a E→wpListIn (FW ro) m G.P ops Q l a w
structure gH (ro:Option Nat) (m:Nat) (D:List Deferred) (Q:Exit→Act→World→Prop) (n:Nat) (c:Code) (E:Env) (w:World):Prop where
 h:∀a,nM n D a E→c.wpIn (FW ro) m G.P Q a w
structure dj (D:List Deferred) (Q:Exit→Act→World→Prop) (n:Nat) (e:Exit) (E:Env) (w:World):Prop where
 h:∀a,nM n D a E→Q e a w
section
variable {ro:Option Nat} {m:Nat} {D:List Deferred} {Q:Exit→Act→World→Prop} {n:Nat} {E:Env} {w:World} {ops:Array Oper} {rest:List Oper} {op:Op} {d:Nat} {ty:TypeId} {pos:String} {aft:Array Edge} {v:Value} {K:Value→World→Prop}
theorem gH.seq {x y:Code} (h:gH ro m D (Exit.then (y.wpIn (FW ro) m G.P Q) Q) n x E w):gH ro m D Q n (.seq x y) E w:=⟨fun a ha=>wpIn_seq (h.h a ha)⟩
theorem gH.block {id:Nat} {c:Code} (h:gH ro m D (Exit.inBlock id Q) n c E w):gH ro m D Q n (.block id c) E w:=⟨fun a ha=>wpIn_block (h.h a ha)⟩
theorem gH.skip (h:dj D Q n .normal E w):gH ro m D Q n .skip E w:=⟨fun a ha=>wpIn_skip (h.h a ha)⟩
theorem gH.exit {id:Nat} (h:dj D Q n (.exit id) E w):gH ro m D Q n (.exit id) E w:=⟨fun a ha=>wpIn_exit (h.h a ha)⟩
theorem gH.ret (h:dj D Q n .ret E w):gH ro m D Q n .ret E w:=⟨fun a ha=>wpIn_ret (h.h a ha)⟩
theorem gH.region {id:Nat} {l:List Oper} (h:cQ ro m D l.toArray Q n l E w):gH ro m D Q n (.region id l.toArray false) E w:=⟨fun a ha=>wpIn_region_lit (h.h a ha)⟩
theorem gH.fp {c:Operand} {x y:Code} (hc:ev E c=some (.bool true)) (h:gH ro m D Q n x E w):gH ro m D Q n (.cond c x y) E w:=⟨fun a ha=>wpIn_cond_true (ha.eval hc) (h.h a ha)⟩
theorem gH.fm {c:Operand} {x y:Code} (hc:ev E c=some (.bool false)) (h:gH ro m D Q n y E w):gH ro m D Q n (.cond c x y) E w:=⟨fun a ha=>wpIn_cond_false (ha.eval hc) (h.h a ha)⟩
theorem dj.ij {y:Code} (h:gH ro m D Q n y E w):dj D (Exit.then (y.wpIn (FW ro) m G.P Q) Q) n .normal E w:=⟨fun a ha=>h.h a ha⟩
theorem dj.Ae {K:Act→World→Prop} (h:∀a,nM n D a E→K a w):dj D (Exit.then K Q) n .normal E w:=⟨fun a ha=>h a ha⟩
theorem dj.il {K:Act→World→Prop} (h:dj D Q n .ret E w):dj D (Exit.then K Q) n .ret E w:=⟨fun a ha=>h.h a ha⟩
theorem dj.iq {K:Act→World→Prop} {id:Nat} (h:dj D Q n (.exit id) E w):dj D (Exit.then K Q) n (.exit id) E w:=⟨fun a ha=>h.h a ha⟩
theorem dj.lj {id:Nat} (h:dj D Q n .normal E w):dj D (Exit.inBlock id Q) n .normal E w:=⟨fun a ha=>h.h a ha⟩
theorem dj.ln {id:Nat} (h:dj D Q n .ret E w):dj D (Exit.inBlock id Q) n .ret E w:=⟨fun a ha=>h.h a ha⟩
theorem dj.lq {id:Nat} (h:dj D Q n .normal E w):dj D (Exit.inBlock id Q) n (.exit id) E w:=⟨fun a ha=>by simp only[Exit.inBlock,if_true];exact h.h a ha⟩
theorem cQ.nil (h:dj D Q n .normal E w):cQ ro m D ops Q n [] E w:=⟨fun a ha=>h.h a ha⟩
theorem mm {a:Act} {o:Oper} (hg:o.guard=none) (h:o.wpIn (FW ro) m G.P a w (wpListIn (FW ro) m G.P ops Q rest) Q):wpListIn (FW ro) m G.P ops Q (o::rest) a w:=by
 have hw:Region.wanted o (yielded ops a.tmps)=true:=by simp[Region.wanted,hg]
 show(if Region.wanted o (yielded ops a.tmps)then _ else _)
 rw[if_pos hw];exact h
def gO:Op→Bool
 |.defer _=>false
 |_=>true
theorem sB {op:Op} (h:lH op=true):∀c,op≠.defer c:=by rintro c rfl;simp[lH]at h
theorem cQ.y (hy:Yl G n op E (fun w'=>w'=w) v) (hd:(lH op && Nat.blt d n)=true) (h:cQ ro m D ops Q n rest ((d,v)::E) w):cQ ro m D ops Q n (⟨some d,op,ty,pos,aft,none⟩::rest) E w:=⟨fun a ha=>by
 rw[Bool.and_eq_true]at hd
 have hr:=hy.h w rfl _ ha.ag (some d) ty pos aft none
 rw[sr]at hr
 have hs:Oper.semAt (FW ro).round a.eval ⟨some d,op,ty,pos,aft,none⟩=execOp a.eval ⟨some d,op,ty,pos,aft,none⟩:=Oper.semAt_eq _ _ _ (sB hd.1)
 refine mm rfl ⟨fun _ _=>trivial,?_⟩
 rw[hs,hr]
 exact h.h _ (ha.put (by simpa using hd.2) v)⟩
theorem th {a:Act} {o:Oper} {next:Act→World→Prop} {r:Result Next} (h:iL G.P (fun v w'=>next (a.put o.dst v) w') r):o.uponIn (FW ro) m G.P a next Q r:=by
 cases r with
 |ok x w'=>
  cases x<;>simp only[iL]at h
  case value v=>exact h
  case skip=>exact h
  case enter f args=>
   refine⟨fun e=>?_,(lI h).mono ?_⟩
   ·cases e
   ·rintro e w'' ⟨v,rfl,hv⟩;exact hv
 |halt x w'=>exact h.elim
theorem cQ.e (he:bC G n op E w K) (hn:gO op=true) (hd:Nat.blt d n=true) (h:∀v w',K v w'→cQ ro m D ops Q n rest ((d,v)::E) w'):cQ ro m D ops Q n (⟨some d,op,ty,pos,aft,none⟩::rest) E w:=⟨fun a ha=>by
 have hr:=he.h _ ha.ag (some d) ty pos aft none
 rw[sr]at hr
 have hs:Oper.semAt (FW ro).round a.eval ⟨some d,op,ty,pos,aft,none⟩=execOp a.eval ⟨some d,op,ty,pos,aft,none⟩:=Oper.semAt_eq _ _ _ (by rintro c rfl;simp[gO]at hn)
 refine mm rfl ⟨fun _ _=>trivial,?_⟩
 rw[hs]
 exact th (bY hr (fun v w' hk=>(h v w' hk).h _ (ha.put (by simpa using hd) v)))⟩
theorem cQ.e0 (he:bC G n op E w K) (hn:gO op=true) (h:∀v w',K v w'→cQ ro m D ops Q n rest E w'):cQ ro m D ops Q n (⟨none,op,ty,pos,aft,none⟩::rest) E w:=⟨fun a ha=>by
 have hr:=he.h _ ha.ag none ty pos aft none
 rw[sr]at hr
 have hs:Oper.semAt (FW ro).round a.eval ⟨none,op,ty,pos,aft,none⟩=execOp a.eval ⟨none,op,ty,pos,aft,none⟩:=Oper.semAt_eq _ _ _ (by rintro c rfl;simp[gO]at hn)
 refine mm rfl ⟨fun _ _=>trivial,?_⟩
 rw[hs]
 exact th (bY hr (fun v w' hk=>(h v w' hk).h a ha))⟩
theorem cQ.round {l:Nat} {y:Operand} {args:List Operand} {tys:Array TypeId} {vs:List Value} {R:Ending→World→Prop} (hf:ev E y=some (.func (.yield l) #[] #[])) (ha:ji E args=some vs) (hd:Nat.blt d n=true)
  (hY:YieldAt (FW ro) (m - 1) G.P l vs.toArray w R) (h:∀e w',R e w'→∃v,e=.returned v∧cQ ro m D ops Q n rest ((d,v)::E) w'):
  cQ ro m D ops Q n (⟨some d,.call ⟨.value y,args.toArray,tys⟩,ty,pos,aft,none⟩::rest) E w:=⟨fun a hag=>by
 obtain⟨fn,tmps,assign,body,hrun,hR⟩:=hY
 have e1:args.map a.eval=vs:=by rw[←sr];exact hag.ag.kR ha
 have hs:Oper.semAt (FW ro).round a.eval ⟨some d,.call ⟨.value y,args.toArray,tys⟩,ty,pos,aft,none⟩=execOp a.eval ⟨some d,.call ⟨.value y,args.toArray,tys⟩,ty,pos,aft,none⟩:=Oper.semAt_eq _ _ _ (by rintro c e;cases e)
 refine mm rfl ⟨fun _ _=>trivial,?_⟩
 have hx:(execOp a.eval ⟨some d,.call ⟨.value y,args.toArray,tys⟩,ty,pos,aft,none⟩).run G.P w=.ok (.round l fn tmps assign body) w:=by
  simp[execOp,resolve,invoke,Deferred.ofValue,hag.eval hf,e1,hrun]
 rw[hs,hx]
 refine⟨fun e=>(by cases e),hR.mono ?_⟩
 rintro e w' hRe
 obtain⟨v,rfl,hv⟩:=h e w' hRe
 exact hv.h _ (hag.put (by simpa using hd) v)⟩
theorem Cd.uZ {id:Nat} {l:List Oper} (m:Nat) (h:cQ none m [] l.toArray Q n l E w):Cd G Q n (.region id l.toArray false) E w:=⟨fun a ha=>wpIn_wide.1 (wpIn_region_lit (h.h a (nM.of ha)))⟩
def yb (l:List (Nat×Value)) (E:Env):Env:=l.foldl (fun E pv=>pv::E) E
theorem qA:∀(l:List (Nat×Value)) {t:Array Value} {E:Env},Ag n ⟨t,[]⟩ E→(∀pv∈l,pv.1<n)→Ag n ⟨l.foldl (fun t pv=>t.setIfInBounds pv.1 pv.2) t,[]⟩ (yb l E)
 |[],_,_,h,_=>h
 |(p,v)::r,t,E,h,hl=>qA r (t:=t.setIfInBounds p v) (E:=(p,v)::E) (h.put (hl (p,v) FZ) v) (fun pv hp=>hl pv (by simp[hp]))
theorem gH.rangeFunc {α:Type} {g:Operand} {ps:List Nat} {assign body:Code} {gf:Nat} {lb:List Value} (hg:ev E g=some (.func (.func gf) #[] lb.toArray)) (hf:G.fb[gf]?=some true) (hm:1≤m)
  {encs:α→List Value} {Kp:World→World→Prop} {S Sp:List α→Prop} {N:Nat} (hseq:SeqStopsK (FW none) (m - 1) G.P gf lb.toArray (fun x=>(encs x).toArray) Kp S Sp N w)
  (hKt:∀{A B C:World},Kp A B→Kp B C→Kp A C) (hKb:∀(W:World) (l:Nat) (o o':Obj),w.heap.size≤l→W.heap[l]?=some o→o.isCells=false→o.isWalk=false→Kp W (W.putObj l o')) (hKr:∀W,Kp W W) (hps:∀x,(encs x).length=ps.length) (hpn:(ps.all fun p=>Nat.blt p n)=true)
  (I:List α→World→Prop) (Ix:Code→List α→World→Prop) (hI:OwnFrom w.heap.size I) (hIx:∀c,OwnFrom w.heap.size (Ix c)) (h0:I [] w) (E1:α→Env)
  (hassign:∀(l:Nat) (x:α) (W:World) (K:Act→World→Prop),(∀a,nM n [] a (E1 x)→K a W)→gH (some l) (m - 1 - 1) [] (Exit.then K (fun _ _ _=>False)) n assign (yb (ps.zip (encs x)) E) W)
  (hbody:∀(l:Nat) (pre:List α) (x:α) (W:World),I pre W→pre.length<N→gH (some l) (m - 1 - 1) [] (ownPostG w.heap.size Kp I Ix (pre++[x]) W) n body (E1 x) W)
  (hdone:∀(Dn:Nat) (xs:List α) (W:World),w.heap.size≤Dn→S xs→I xs W→W.heap[Dn]?=some (.deferred (some []))→dj ({target:=.collected Dn,args:=#[]}::D) Q n .normal E W)
  (hstop:∀(Dn:Nat) (c:Code) (pre:List α) (W:World),w.heap.size≤Dn→Sp pre→Ix c pre W→W.heap[Dn]?=some (.deferred (some []))→gH none m ({target:=.collected Dn,args:=#[]}::D) Q n c E W):
  gH none m D Q n (.rangeFunc g ps.toArray assign body) E w:=⟨fun a ha=>by
 refine wpIn_rangeFunc_ownH (F:=FW none) rfl hm (ha.eval hg) trivial (G.vE gf hf) hseq hKt hKb (Below.refl _ _) (fun x=>by simpa using hps x) I Ix hI hIx h0 (fun x a' _=>nM n [] a' (E1 x)) (fun x a' _ W W' row h _ _=>h) ?_ ?_ ?_ ?_
 ·intro l pre x W K hi hK
  refine(hassign l x W K (fun a' h'=>hK a' W (KeepsFrom.refl _ _) (hKr W) hi h')).h _ ⟨?_,rfl⟩
  have e:(ps.toArray.zip (encs x).toArray).foldl (fun t (p,v)=>t.setIfInBounds p v) a.tmps=(ps.zip (encs x)).foldl (fun t pv=>t.setIfInBounds pv.1 pv.2) a.tmps:=by
   rw[←Array.foldl_toList];simp
  rw[e]
  refine qA _ ⟨ha.ag.sz,rfl,ha.ag.eq⟩ (fun pv hp=>?_)
  have:=List.all_eq_true.1 hpn pv.1 (List.of_mem_zip (show(pv.1,pv.2)∈_ from hp)).1
  simpa using this
 ·intro l pre x a' W _ _ hi hax hN
  exact(hbody l pre x W hi hN).h a' hax
 ·intro Dn xs W h1 h2 h3 h4
  exact(hdone Dn xs W h1 h2 h3 h4).h _ ⟨⟨ha.ag.sz,rfl,ha.ag.eq⟩,by simp[ha.df]⟩
 ·intro Dn c pre W h1 h2 h3 h4
  exact(hstop Dn c pre W h1 h2 h3 h4).h _ ⟨⟨ha.ag.sz,rfl,ha.ag.eq⟩,by simp[ha.df]⟩⟩
theorem dj.zq {fn:Func} {R:Ending→World→Prop} {e:Exit} {Dn:Nat} (he:e=.ret∨e=.normal) (hK:w.heap[Dn]?=some (.deferred (some [])))
  (hr:∀a,Ag n a E→(results fn a.tmps).run G.P (w.putObj Dn (.deferred none))=.ok v (w.putObj Dn (.deferred none))) (hR:R (.returned v) (w.putObj Dn (.deferred none))):dj [{target:=.collected Dn,args:=#[]}] (bodyPostM (FW none) m G.P fn R) n e E w:=⟨fun a ha=>by
 have h1:=hr _ ha.ag
 have key:LeavesInM (FW none) m G.P fn a.tmps R a.defers .returning w:=by
  rw[ha.df]
  exact⟨by simp,.inl ⟨_,_,rfl,run_takeDeferred hK,⟨v,h1,hR⟩⟩⟩
 rcases he with rfl|rfl<;>exact key⟩
theorem xz {f:FuncId} {fn:Func} {c:Code} {l:List Value} {R:Ending→World→Prop} (m:Nat) (hf:G.P.funcs[f]?=some fn) (hb:fn.body=some c) (hn:fn.ntmps=n) (hl:Nat.ble l.length n=true)
  (h:gH none m [] (bodyPostM (FW none) m G.P fn R) n c (tB 0 l) w):Calls G.P f l.toArray w R:=by
 refine callsIn_wide.1 (callsIn_of_wp_marks (F:=Fence.wide) (n:=m) hf hb trivial (h.h _ (nM.of ?_)))
 have hl':l.length≤n:=Nat.le_of_ble_eq_true hl
 refine⟨by simp[hn];omega,rfl,fun t v ht=>?_⟩
 obtain⟨_,h2⟩:=qW l 0 t v ht
 rw[Nat.sub_zero]at h2
 obtain⟨h3,h4⟩:=List.getElem?_eq_some_iff.1 h2
 refine⟨by omega,?_⟩
 have:t<(l.toArray++Array.replicate (fn.ntmps - l.toArray.size) undef).size:=by simp;omega
 simp only[Array.getD,this,dite_true]
 rw[Array.getInternal_eq_getElem,Array.getElem_append_left (by simpa using h3)]
 simpa using h4
end
theorem dj.ofFin {Q:Exit→Act→World→Prop} {n:Nat} {e:Exit} {E:Env} {w:World} (h:Fin Q n e E w):dj [] Q n e E w:=⟨fun a ha=>h.h a ha.zy⟩
def zY:List Oper→Bool
 |[]=>true
 |⟨_,.call ⟨.value (.tmp _),_,_⟩,_,_,_,_⟩::_=>false
 |_::r=>zY r
theorem Cd.zp {Q:Exit→Act→World→Prop} {n:Nat} {E:Env} {w:World} {id:Nat} {l:List Oper} (_:zY l=true) (h:ah G l.toArray (.list Q w) n l E):Cd G Q n (.region id l.toArray false) E w:=Cd.region h
theorem uA {g g':Prop} (h:g') (hw:dP g'→g:=by(intro hk_;(repeat(first|(first|refine ah.y (Yl.move rfl) rfl ?_|refine ah.y (Yl.assign rfl) rfl ?_|(refine ah.is ?_;(first|(refine ah.wU ?_;(first|refine ah.gs rfl rfl rfl ?_|refine ah.gu rfl rfl ?_|refine ah.yg rfl (Yl.move rfl) rfl ?_|refine ah.yg rfl (Yl.assign rfl) rfl ?_|(refine ah.an ?_;(first|(refine ah.an (bo:=.lss) ?_;(first|refine ah.yg rfl (Yl.iG rfl rfl FY) rfl ?_|refine ah.yg rfl (Yl.iF rfl rfl FY) rfl ?_))|(refine ah.an (bo:=.eql) ?_;(first|refine ah.yg rfl (Yl.iw rfl rfl FY) rfl ?_|refine ah.yg rfl (Yl.iu rfl rfl FY) rfl ?_))|(refine ah.an (bo:=.neq) ?_;(first|refine ah.yg rfl (Yl.iI rfl rfl FY) rfl ?_|refine ah.yg rfl (Yl.iH rfl rfl FY) rfl ?_))|(refine ah.an (bo:=.leq) ?_;(first|refine ah.yg rfl (Yl.iE rfl rfl FY) rfl ?_|refine ah.yg rfl (Yl.iD rfl rfl FY) rfl ?_))|(refine ah.an (bo:=.gtr) ?_;(first|refine ah.yg rfl (Yl.iC rfl rfl FY) rfl ?_|refine ah.yg rfl (Yl.iB rfl rfl FY) rfl ?_))|(refine ah.an (bo:=.geq) ?_;(first|refine ah.yg rfl (Yl.iA rfl rfl FY) rfl ?_|refine ah.yg rfl (Yl.iz rfl rfl FY) rfl ?_))|refine ah.yg rfl (Yl.add rfl rfl FY) rfl ?_|refine ah.yg rfl (Yl.sub rfl rfl FY) rfl ?_|refine ah.yg rfl (Yl.fu rfl rfl rfl rfl) rfl ?_|refine ah.yg rfl (Yl.je Tryz.underlying4 rfl rfl) rfl ?_|fail))|(refine ah.isField ?_;(first|refine ah.yg rfl (Yl.dW rfl rfl rfl) rfl ?_|refine ah.yg rfl (Yl.field rfl rfl rfl) rfl ?_))|(refine ah.bW ?_;(first|refine ah.yg rfl (Yl.load rfl rfl rfl FE) rfl ?_|refine ah.yg rfl (Yl.load rfl rfl rfl (mX de)) rfl ?_|refine ah.yg rfl (Yl.load rfl rfl rfl de) rfl ?_))|(refine ah.dX ?_;(first|refine ah.yg rfl (Yl.fL rfl rfl rfl rfl rfl rfl FY) rfl ?_|refine ah.yg rfl (Yl.idx rfl rfl rfl rfl rfl rfl FY) rfl ?_))|refine ah.yg rfl (Yl.len rfl rfl rfl) rfl ?_|refine ah.yg rfl (Yl.extract rfl rfl) rfl ?_|refine ah.yg rfl (Yl.dF rfl rfl) rfl ?_|refine ah.yg rfl (Yl.dE rfl rfl) rfl ?_|refine ah.yg rfl (Yl.nilCheck rfl) rfl ?_|refine ah.yg rfl (Yl.not rfl) rfl ?_|refine ah.yg rfl (Yl.makeFunc rfl rfl) rfl ?_))|refine ah.nil ?_|refine ah.zg ?_|refine ah.we ?_|(refine ah.an ?_;(first|(refine ah.an (bo:=.lss) ?_;(first|refine ah.y (Yl.iG rfl rfl FY) rfl ?_|refine ah.y (Yl.iF rfl rfl FY) rfl ?_))|(refine ah.an (bo:=.eql) ?_;(first|refine ah.y (Yl.iw rfl rfl FY) rfl ?_|refine ah.y (Yl.iu rfl rfl FY) rfl ?_))|(refine ah.an (bo:=.neq) ?_;(first|refine ah.y (Yl.iI rfl rfl FY) rfl ?_|refine ah.y (Yl.iH rfl rfl FY) rfl ?_))|(refine ah.an (bo:=.leq) ?_;(first|refine ah.y (Yl.iE rfl rfl FY) rfl ?_|refine ah.y (Yl.iD rfl rfl FY) rfl ?_))|(refine ah.an (bo:=.gtr) ?_;(first|refine ah.y (Yl.iC rfl rfl FY) rfl ?_|refine ah.y (Yl.iB rfl rfl FY) rfl ?_))|(refine ah.an (bo:=.geq) ?_;(first|refine ah.y (Yl.iA rfl rfl FY) rfl ?_|refine ah.y (Yl.iz rfl rfl FY) rfl ?_))|refine ah.y (Yl.add rfl rfl FY) rfl ?_|refine ah.y (Yl.sub rfl rfl FY) rfl ?_|refine ah.y (Yl.fu rfl rfl rfl rfl) rfl ?_|refine ah.y (Yl.je Tryz.underlying4 rfl rfl) rfl ?_|fail))|(refine ah.isField ?_;(first|refine ah.y (Yl.dW rfl rfl rfl) rfl ?_|refine ah.y (Yl.field rfl rfl rfl) rfl ?_))|(refine ah.bW ?_;(first|refine ah.y (Yl.load rfl rfl rfl FE) rfl ?_|refine ah.y (Yl.load rfl rfl rfl (mX de)) rfl ?_|refine ah.y (Yl.load rfl rfl rfl de) rfl ?_))|(refine ah.dX ?_;(first|refine ah.y (Yl.fL rfl rfl rfl rfl rfl rfl FY) rfl ?_|refine ah.y (Yl.idx rfl rfl rfl rfl rfl rfl FY) rfl ?_))|refine ah.y (Yl.len rfl rfl rfl) rfl ?_|refine ah.y (Yl.extract rfl rfl) rfl ?_|refine ah.y (Yl.dF rfl rfl) rfl ?_|refine ah.y (Yl.dE rfl rfl) rfl ?_|refine ah.y (Yl.nilCheck rfl) rfl ?_|refine ah.y (Yl.not rfl) rfl ?_|refine ah.y (Yl.makeFunc rfl rfl) rfl ?_))|(refine Cd.is ?_;(first|refine Cd.seq ?_|refine Cd.zp rfl ?_|refine Cd.block ?_|refine Cd.fp rfl ?_|refine Cd.fm rfl ?_|refine Cd.skip ?_|refine Cd.scope ?_|refine Cd.ret ?_|refine Cd.exit ?_|refine Cd.label ?_))|(refine Fin.is ?_;(first|refine Fin.ij ?_|refine Fin.lj ?_|refine Fin.il ?_|refine Fin.ln ?_|refine Fin.iq ?_|refine Fin.Cv ?_|refine Fin.lq ?_|refine Fin.qF rfl ?_)))|(refine ah.is ?_;(first|(refine ah.wU ?_;(first|(refine ah.an ?_;(first|refine ah.yg rfl (Yl.pY rfl rfl) rfl ?_|refine ah.yg rfl (Yl.kf rfl rfl) rfl ?_|refine ah.yg rfl (Yl.kc rfl rfl FY) rfl ?_))|refine ah.yg rfl (Yl.dU rfl rfl rfl rfl) rfl ?_|refine ah.yg rfl (Yl.cR Tryz.underlying9 rfl rfl rfl FY) rfl ?_|refine ah.yg rfl (Yl.cm Tryz.underlying9 rfl rfl rfl FY) rfl ?_|refine ah.yg rfl (Yl.ck rfl rfl rfl rfl rfl rfl FY) rfl ?_|refine ah.yg rfl (Yl.ke Tryz.underlying9 rfl) rfl ?_))|(refine ah.an ?_;(first|refine ah.y (Yl.pY rfl rfl) rfl ?_|refine ah.y (Yl.kf rfl rfl) rfl ?_|refine ah.y (Yl.kc rfl rfl FY) rfl ?_))|refine ah.y (Yl.dU rfl rfl rfl rfl) rfl ?_|refine ah.y (Yl.cR Tryz.underlying9 rfl rfl rfl FY) rfl ?_|refine ah.y (Yl.cm Tryz.underlying9 rfl rfl rfl FY) rfl ?_|refine ah.y (Yl.ck rfl rfl rfl rfl rfl rfl FY) rfl ?_|refine ah.y (Yl.ke Tryz.underlying9 rfl) rfl ?_))));exact hk_.out)):g:=hw ⟨h⟩
theorem tl {g g':Prop} (h:g') (hw:dP g'→g:=by(intro hk_;(repeat(first|refine cQ.nil ?_|refine cQ.y (Yl.move rfl) rfl ?_|refine cQ.y (Yl.assign rfl) rfl ?_|refine cQ.y (Yl.iG rfl rfl FY) rfl ?_|refine cQ.y (Yl.iF rfl rfl FY) rfl ?_|refine cQ.y (Yl.iw rfl rfl FY) rfl ?_|refine cQ.y (Yl.iu rfl rfl FY) rfl ?_|refine cQ.y (Yl.iI rfl rfl FY) rfl ?_|refine cQ.y (Yl.iH rfl rfl FY) rfl ?_|refine cQ.y (Yl.iE rfl rfl FY) rfl ?_|refine cQ.y (Yl.iD rfl rfl FY) rfl ?_|refine cQ.y (Yl.iC rfl rfl FY) rfl ?_|refine cQ.y (Yl.iB rfl rfl FY) rfl ?_|refine cQ.y (Yl.iA rfl rfl FY) rfl ?_|refine cQ.y (Yl.iz rfl rfl FY) rfl ?_|refine cQ.y (Yl.add rfl rfl FY) rfl ?_|refine cQ.y (Yl.sub rfl rfl FY) rfl ?_|refine cQ.y (Yl.pY rfl rfl) rfl ?_|refine cQ.y (Yl.kf rfl rfl) rfl ?_|refine cQ.y (Yl.kc rfl rfl FY) rfl ?_|refine cQ.y (Yl.dW rfl rfl rfl) rfl ?_|refine cQ.y (Yl.field rfl rfl rfl) rfl ?_|refine cQ.y (Yl.load rfl rfl rfl FE) rfl ?_|refine cQ.y (Yl.fL rfl rfl rfl rfl rfl rfl FY) rfl ?_|refine cQ.y (Yl.idx rfl rfl rfl rfl rfl rfl FY) rfl ?_|refine cQ.y (Yl.len rfl rfl rfl) rfl ?_|refine cQ.y (Yl.ke Tryz.underlying9 rfl) rfl ?_|refine cQ.y (Yl.extract rfl rfl) rfl ?_|refine cQ.y (Yl.dF rfl rfl) rfl ?_|refine cQ.y (Yl.dE rfl rfl) rfl ?_|refine cQ.y (Yl.not rfl) rfl ?_|refine gH.seq ?_|refine gH.region ?_|refine gH.block ?_|refine gH.skip ?_|refine gH.ret ?_|refine gH.exit ?_|refine gH.fp rfl ?_|refine gH.fm rfl ?_|refine dj.ij ?_|refine dj.lj ?_|refine dj.il ?_|refine dj.ln ?_|refine dj.iq ?_|refine dj.lq ?_|fail));exact hk_.out)):g:=hw ⟨h⟩
def QN (Q:Exit→Act→World→Prop):Exit→Act→World→Prop:=fun e a w=>e=.normal∧Q e a w
structure cF (ops:Array Oper) (Q:Exit→Act→World→Prop) (n f:Nat) (listed:Array Bool) (E:Env) (w:World):Prop where
 h:∀a,Ag n a E→wpAny G.P .any ops (QN Q) f listed a w
section
variable {ops:Array Oper} {Q:Exit→Act→World→Prop} {n f:Nat} {listed:Array Bool} {E:Env} {w:World} {d:Nat} {op:Op} {ty:TypeId} {pos:String} {aft:Array Edge} {v:Value} {K:Value→World→Prop}
theorem Cd.me {id:Nat} {l:List Oper} (h:cF l.toArray Q n l.length (Array.replicate l.length false) E w.drew):Cd G Q n (.region id l.toArray true) E w:=⟨fun a ha=>by
 refine Code.wp_mono ?_ (wp_region_any (Q:=QN Q) G.mixed (by simpa using h.h a ha))
 rintro e a' w' ⟨rfl,hq⟩;exact hq⟩
theorem cF.done (hr:Region.ready .any ops listed=[]) (h:Fin Q n .normal E w):cF ops Q n f listed E w:=⟨fun a ha=>wpAny_done hr ⟨rfl,h.h a ha⟩ f⟩
theorem cF.take (i:Nat) (hi:ops[i]?=some ⟨some d,op,ty,pos,aft,none⟩) (hc:(Region.noSelect ops && Region.free .any ops listed i && (Region.ready .any ops listed).contains i && lH op && Nat.blt d n)=true) (hy:Yl G n op E (fun _=>True) v) (h:cF ops Q n f (listed.setIfInBounds i true) ((d,v)::E) w):cF ops Q n (f+1) listed E w:=⟨fun a ha=>by
 simp only[Bool.and_eq_true]at hc
 obtain⟨⟨⟨⟨h1,h2⟩,h3⟩,h4⟩,h5⟩:=hc
 refine wpAny_take (v:=v) hi h1 h2 h3 (fun c a w hq=>by cases hq.1) ?_ (h.h _ (ha.put (by simpa using h5) v))
 exact .inl ⟨by simp[Region.wanted],fun w'=>hy.h w' trivial a ha _ _ _ _ _⟩⟩
theorem vh {a:Act} {o:Oper} {next:Act→World→Prop} {r:Result Next} (h:iL G.P (fun v w'=>next (a.put o.dst v) w') r):o.upon G.P a next Q r:=by
 cases r with
 |ok x w'=>
  cases x<;>simp only[iL]at h
  case value v=>exact h
  case skip=>exact h
  case enter f args=>exact h.mono (by rintro e w'' ⟨v,rfl,hv⟩;exact hv)
 |halt x w'=>exact h.elim
theorem cF.one (i:Nat) (hr:Region.ready .any ops listed=[i]) (hi:ops[i]?=some ⟨some d,op,ty,pos,aft,none⟩) (hd:Nat.blt d n=true) (he:bC G n op E w K) (h:∀v w',K v w'→cF ops Q n f (listed.setIfInBounds i true) ((d,v)::E) w'):cF ops Q n (f+1) listed E w:=⟨fun a ha=>by
 refine wpAny_all hr FZ (fun j hj=>?_)
 rw[List.mem_singleton]at hj;subst hj
 unfold wpOp
 rw[hi]
 have hw:Region.wanted ⟨some d,op,ty,pos,aft,none⟩ (yielded ops a.tmps)=true:=by simp[Region.wanted]
 show(if Region.wanted _ _ then _ else _)
 rw[if_pos hw]
 exact .inl (vh (bY (he.h a ha _ _ _ _ _) (fun v w' hk=>(h v w' hk).h _ (ha.put (by simpa using hd) v))))⟩
theorem cF.BE (i:Nat) (hr:Region.ready .any ops listed=[i]) (hi:ops[i]?=some ⟨none,op,ty,pos,aft,none⟩) (he:bC G n op E w K) (h:∀v w',K v w'→cF ops Q n f (listed.setIfInBounds i true) E w'):cF ops Q n (f+1) listed E w:=⟨fun a ha=>by
 refine wpAny_all hr FZ (fun j hj=>?_)
 rw[List.mem_singleton]at hj;subst hj
 unfold wpOp
 rw[hi]
 have hw:Region.wanted ⟨none,op,ty,pos,aft,none⟩ (yielded ops a.tmps)=true:=by simp[Region.wanted]
 show(if Region.wanted _ _ then _ else _)
 rw[if_pos hw]
 exact .inl (vh (bY (he.h a ha _ _ _ _ _) (fun v w' hk=>(h v w' hk).h a ha)))⟩
theorem cF.xQ (i:Nat) (hr:Region.ready .any ops listed=[i]) (hi:ops[i]?=some ⟨some d,op,ty,pos,aft,none⟩) (hd:Nat.blt d n=true) (hy:Yl G n op E (fun w'=>w'=w) v) (h:cF ops Q n f (listed.setIfInBounds i true) ((d,v)::E) w):cF ops Q n (f+1) listed E w:=
 cF.one (K:=fun v' w'=>v'=v∧w'=w) i hr hi hd ⟨fun a ha d ty pos aft gd=>by rw[hy.h w rfl a ha d ty pos aft gd];exact⟨rfl,rfl⟩⟩ (by rintro _ _ ⟨rfl,rfl⟩;exact h)
end
end Go.Proofs.YtceedealggognaaGreatDoor
