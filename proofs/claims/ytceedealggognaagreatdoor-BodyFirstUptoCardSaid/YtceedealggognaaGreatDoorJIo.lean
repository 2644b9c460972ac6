/- More rules of the walk: structs written out, texts, results that lie in memory; the walker over them. -/
import Derived.Test.YtceedealggognaaGreatDoorJBt
import Derived.Test.YtceedealggognaaGreatDoorJR7
import Derived.RangeFuncNested
import Derived.RangeFuncBound
import Derived.RangeFuncCalls
import Derived.RangeFuncLeaves
import Derived.RangeFuncFrom
import Derived.Test.YtceedealggognaaGreatDoorJR1
namespace Go.Proofs.YtceedealggognaaGreatDoor
open Go.RowKit
section
variable {n:Nat} {E:Env} {C:World→Prop} {x y z:Operand} {t t2:TypeId} {v:Value} {w:World} {ops:Array Oper} {M:Mode} {rest:List Oper} {d:Nat} {ty:TypeId} {pos:String} {aft:Array Edge}
def xe:List Value→Nat→List Value→List Value
 |cs,_,[]=>cs
 |cs,o,c::r=>xe (cs.set o c) (o+1) r
def kr (pl:List (Nat×Nat)):List Value→List (Nat×Value)→Option (List Value)
 |cs,[]=>some cs
 |cs,(i,v)::r=>
  match pl[i]? with
  |none=>none
  |some (off,size)=>bif (Nat.beq v.cells.toList.length size && Nat.ble (off+v.cells.toList.length) cs.length)then kr pl (xe cs off v.cells.toList) r else none
theorem rU:∀(l:List Value) (cs:List Value) (o k:Nat),(xe cs (o+k) l).toArray=(l.zipIdx k).foldl (fun a p=>a.setIfInBounds (o+p.2) p.1) cs.toArray
 |[],cs,o,k=>rfl
 |c::r,cs,o,k=>by
  rw[xe,List.zipIdx_cons,List.foldl_cons,Nat.add_assoc,rU r _ o (k+1)]
  simp
theorem vQ {pl:List (Nat×Nat)}:∀{parts:List (Nat×Value)} {cs c:List Value},kr pl cs parts=some c→Instr.fill (pl.toArray[·]?) cs.toArray parts=some c.toArray
 |[],cs,c,h=>by simp only[kr,Option.some.injEq]at h;subst h;rfl
 |(i,v)::r,cs,c,h=>by
  simp only[kr]at h
  unfold Instr.fill
  have e0:pl.toArray[i]?=pl[i]?:=by simp
  rw[e0]
  cases hp:pl[i]? with
  |none=>simp[hp]at h
  |some p=>
   obtain⟨off,size⟩:=p
   rw[hp]at h
   dsimp only at h ⊢
   cases hb:(Nat.beq v.cells.toList.length size && Nat.ble (off+v.cells.toList.length) cs.length)with
   |false=>rw[hb]at h;cases h
   |true=>
    rw[hb]at h
    simp only[Bool.and_eq_true]at hb
    have h1:=Nat.eq_of_beq_eq_true hb.1
    have h2:=Nat.le_of_ble_eq_true hb.2
    have e1:v.cells.size=size:=by simpa using h1
    have e2:¬off+v.cells.size>cs.toArray.size:=by simpa using h2
    rw[if_neg (by simp[e1];rw[e1]at e2;simpa using e2)]
    have h3:=vQ h
    rw[←h3]
    congr 1
    have:=rU v.cells.toList cs off 0
    rw[Nat.add_zero]at this
    rw[this,←Array.foldl_toList,Array.toList_zipIdx]
theorem Yl.eo {s bt:Nat} {el:Option Nat} {os:List Nat} {zs:List Value} {ik:Option IntKind} {parts:List (Nat×Operand)} {vs:List Value} (ht:G.ty t=some ⟨s,bt,true,el,os,.agg zs.toArray,ik⟩) (ho:os.isEmpty=false) (hv:ju E (parts.map (·.2))=some vs) (hf:(kr (mQ os s) zs ((parts.map (·.1)).zip vs)).isSome=true):
  Yl G n (.build t parts.toArray) E C (.agg ((kr (mQ os s) zs ((parts.map (·.1)).zip vs)).getD []).toArray):=by
 refine Yl.build hv (fun w=>?_)
 rw[Bs t _ ht rfl (by simpa using ho)]
 refine zU ?_ _ _
 obtain⟨c,hc⟩:=Option.isSome_iff_exists.1 hf
 rw[hc]
 have:=vQ hc
 simpa[Value.cells]using this
theorem Yl.vv {bo:BinOp} {a b:ByteArray} (hx:ev E x=some (.string a)) (hy:ev E y=some (.string b)) (hr:∀w,(Op.stringOp bo a b).run G.P w=.ok v w):Yl G n (.binOp bo t x y t2) E C v:=
 ⟨fun w _ ac ha d ty pos aft gd=>by
  have hg:∀p q:Operand,(eqGuard bo t p q (.string a) (.string b)).run G.P w=.ok () w:=by
   intro p q;unfold eqGuard;split<;>simp
  simp[execOp,ha.eval hx,ha.eval hy,hg,binOp,hr]⟩
theorem Yl.qJ {a b:ByteArray} (hx:ev E x=some (.string a)) (hy:ev E y=some (.string b)):Yl G n (.binOp .eql t x y t2) E C (.bool (a.data.toList==b.data.toList)):=Yl.vv hx hy (fun w=>by simp[Op.stringOp,ByteArray.toList_eq])
theorem Yl.kA {a b:ByteArray} (hx:ev E x=some (.string a)) (hy:ev E y=some (.string b)):Yl G n (.binOp .neq t x y t2) E C (.bool (!(a.data.toList==b.data.toList))):=Yl.vv hx hy (fun w=>by simp[Op.stringOp,ByteArray.toList_eq])
theorem Yl.ky {a b:ByteArray} (hx:ev E x=some (.string a)) (hy:ev E y=some (.string b)) (h:a.size+b.size≤9223372036854775807):Yl G n (.binOp .add t x y t2) E C (.string (a++b)):=Yl.vv hx hy (fun w=>run_string_add_sum w a b h)
theorem Yl.kz {a:ByteArray} (ht:G.P.underlying t=some .string) (hx:ev E x=some (.string a)):Yl G n (.call ⟨.builtin .len,#[x],#[t]⟩) E C (.int .i64 a.size):=
 ⟨fun w _ ac ha d ty pos aft gd=>by simp[execOp,resolve,invoke,builtin,Builtin.len_,ha.eval hx,run_underlying ht,goInt]⟩
theorem Yl.cX {k:IntKind} {p:Int} {a:ByteArray} {i:Nat} (ht:G.P.underlying t=some .string) (hx:ev E x=some (.string a)) (hi:ev E y=some (.int k p)) (hp:p=(i:Int)) (hc:i≤a.size):Yl G n (.slice t x none (some y) none) E C (.string (a.extract 0 i)):=
 ⟨fun w _ ac ha d ty pos aft gd=>by subst hp;simp[execOp,ha.eval hx,ha.eval hi,Instr.sliceAt,Instr.slice,Instr.sliceBounds,Instr.sliceBound,asIntOf,run_underlying ht,hc]⟩
theorem Yl.cq {k:IntKind} {p:Int} {a:ByteArray} {i:Nat} (ht:G.P.underlying t=some .string) (hx:ev E x=some (.string a)) (hi:ev E y=some (.int k p)) (hp:p=(i:Int)) (hc:i≤a.size):Yl G n (.slice t x (some y) none none) E C (.string (a.extract i a.size)):=
 ⟨fun w _ ac ha d ty pos aft gd=>by subst hp;simp[execOp,ha.eval hx,ha.eval hi,Instr.sliceAt,Instr.slice,Instr.sliceBounds,Instr.sliceBound,asIntOf,run_underlying ht,hc]⟩
theorem Yl.quo {p q r:Int} (hx:ev E x=some (.int .i64 p)) (hy:ev E y=some (.int .i64 q)) (hr:∀w,(binOp .quo t (.int .i64 p) (.int .i64 q)).run G.P w=.ok (.int .i64 r) w):Yl G n (.binOp .quo t x y t2) E C (.int .i64 r):=Yl.bin hx hy hr
end
theorem bF {g g':Prop} (h:g') (hw:ek g'→g:=by(intro hk_;(repeat(first|(first|refine ah.y (Yl.move rfl) rfl ?_|refine ah.y (Yl.assign rfl) rfl ?_|(refine ah.is ?_;(first|(refine ah.wY ?_;(first|refine ah.gs rfl rfl rfl ?_|refine ah.gu rfl rfl ?_|refine ah.yg rfl (Yl.move rfl) rfl ?_|refine ah.yg rfl (Yl.assign rfl) rfl ?_|(refine ah.an ?_;(first|(refine ah.an (bo:=.lss) ?_;(first|refine ah.yg rfl (Yl.iU rfl rfl Hb) rfl ?_|refine ah.yg rfl (Yl.iT rfl rfl Hb) rfl ?_))|(refine ah.an (bo:=.eql) ?_;(first|refine ah.yg rfl (Yl.iL rfl rfl Hb) rfl ?_|refine ah.yg rfl (Yl.iK rfl rfl Hb) rfl ?_))|(refine ah.an (bo:=.neq) ?_;(first|refine ah.yg rfl (Yl.iW rfl rfl Hb) rfl ?_|refine ah.yg rfl (Yl.iV rfl rfl Hb) rfl ?_))|(refine ah.an (bo:=.leq) ?_;(first|refine ah.yg rfl (Yl.iS rfl rfl Hb) rfl ?_|refine ah.yg rfl (Yl.iR rfl rfl Hb) rfl ?_))|(refine ah.an (bo:=.gtr) ?_;(first|refine ah.yg rfl (Yl.iQ rfl rfl Hb) rfl ?_|refine ah.yg rfl (Yl.iP rfl rfl Hb) rfl ?_))|(refine ah.an (bo:=.geq) ?_;(first|refine ah.yg rfl (Yl.iO rfl rfl Hb) rfl ?_|refine ah.yg rfl (Yl.iN rfl rfl Hb) rfl ?_))|refine ah.yg rfl (Yl.add rfl rfl Hb) rfl ?_|refine ah.yg rfl (Yl.sub rfl rfl Hb) rfl ?_|refine ah.yg rfl (Yl.fF rfl rfl rfl rfl) rfl ?_|refine ah.yg rfl (Yl.jr Tryz.underlying4 rfl rfl) rfl ?_|fail))|(refine ah.isField ?_;(first|refine ah.yg rfl (Yl.ep rfl rfl rfl) rfl ?_|refine ah.yg rfl (Yl.field rfl rfl rfl) rfl ?_))|(refine ah.bX ?_;(first|refine ah.yg rfl (Yl.load rfl rfl rfl GR) rfl ?_|refine ah.yg rfl (Yl.load rfl rfl rfl (nF dp)) rfl ?_|refine ah.yg rfl (Yl.load rfl rfl rfl dp) rfl ?_))|(refine ah.dK ?_;(first|refine ah.yg rfl (Yl.fX rfl rfl rfl rfl rfl rfl Hb) rfl ?_|refine ah.yg rfl (Yl.idx rfl rfl rfl rfl rfl rfl Hb) rfl ?_))|refine ah.yg rfl (Yl.len rfl rfl rfl) rfl ?_|refine ah.yg rfl (Yl.extract rfl rfl) rfl ?_|refine ah.yg rfl (Yl.dP rfl rfl) rfl ?_|refine ah.yg rfl (Yl.dO rfl rfl) rfl ?_|refine ah.yg rfl (Yl.nilCheck rfl) rfl ?_|refine ah.yg rfl (Yl.not rfl) rfl ?_|refine ah.yg rfl (Yl.fp rfl rfl rfl rfl rfl Hb) rfl ?_|refine ah.yg rfl (Yl.makeFunc rfl rfl) rfl ?_))|refine ah.nil ?_|refine ah.At ?_|refine ah.xq ?_|(refine ah.an ?_;(first|(refine ah.an (bo:=.lss) ?_;(first|refine ah.y (Yl.iU rfl rfl Hb) rfl ?_|refine ah.y (Yl.iT rfl rfl Hb) rfl ?_))|(refine ah.an (bo:=.eql) ?_;(first|refine ah.y (Yl.iL rfl rfl Hb) rfl ?_|refine ah.y (Yl.iK rfl rfl Hb) rfl ?_))|(refine ah.an (bo:=.neq) ?_;(first|refine ah.y (Yl.iW rfl rfl Hb) rfl ?_|refine ah.y (Yl.iV rfl rfl Hb) rfl ?_))|(refine ah.an (bo:=.leq) ?_;(first|refine ah.y (Yl.iS rfl rfl Hb) rfl ?_|refine ah.y (Yl.iR rfl rfl Hb) rfl ?_))|(refine ah.an (bo:=.gtr) ?_;(first|refine ah.y (Yl.iQ rfl rfl Hb) rfl ?_|refine ah.y (Yl.iP rfl rfl Hb) rfl ?_))|(refine ah.an (bo:=.geq) ?_;(first|refine ah.y (Yl.iO rfl rfl Hb) rfl ?_|refine ah.y (Yl.iN rfl rfl Hb) rfl ?_))|refine ah.y (Yl.add rfl rfl Hb) rfl ?_|refine ah.y (Yl.sub rfl rfl Hb) rfl ?_|refine ah.y (Yl.fF rfl rfl rfl rfl) rfl ?_|refine ah.y (Yl.jr Tryz.underlying4 rfl rfl) rfl ?_|fail))|(refine ah.isField ?_;(first|refine ah.y (Yl.ep rfl rfl rfl) rfl ?_|refine ah.y (Yl.field rfl rfl rfl) rfl ?_))|(refine ah.bX ?_;(first|refine ah.y (Yl.load rfl rfl rfl GR) rfl ?_|refine ah.y (Yl.load rfl rfl rfl (nF dp)) rfl ?_|refine ah.y (Yl.load rfl rfl rfl dp) rfl ?_))|(refine ah.dK ?_;(first|refine ah.y (Yl.fX rfl rfl rfl rfl rfl rfl Hb) rfl ?_|refine ah.y (Yl.idx rfl rfl rfl rfl rfl rfl Hb) rfl ?_))|refine ah.y (Yl.len rfl rfl rfl) rfl ?_|refine ah.y (Yl.extract rfl rfl) rfl ?_|refine ah.y (Yl.dP rfl rfl) rfl ?_|refine ah.y (Yl.dO rfl rfl) rfl ?_|refine ah.y (Yl.nilCheck rfl) rfl ?_|refine ah.y (Yl.not rfl) rfl ?_|refine ah.y (Yl.fp rfl rfl rfl rfl rfl Hb) rfl ?_|refine ah.y (Yl.makeFunc rfl rfl) rfl ?_))|(refine Cd.is ?_;(first|refine Cd.seq ?_|refine Cd.region ?_|refine Cd.block ?_|refine Cd.fC rfl ?_|refine Cd.fB rfl ?_|refine Cd.skip ?_|refine Cd.scope ?_|refine Cd.ret ?_|refine Cd.exit ?_|refine Cd.label ?_))|(refine Fin.is ?_;(first|refine Fin.iG ?_|refine Fin.lT ?_|refine Fin.iH ?_|refine Fin.lU ?_|refine Fin.iI ?_|refine Fin.DF ?_|refine Fin.lV ?_|refine Fin.rE rfl ?_)))|(refine ah.is ?_;(first|(refine ah.wY ?_;(first|(refine ah.an ?_;(first|refine ah.yg rfl (Yl.qJ rfl rfl) rfl ?_|refine ah.yg rfl (Yl.kA rfl rfl) rfl ?_|refine ah.yg rfl (Yl.ky rfl rfl Hb) rfl ?_))|refine ah.yg rfl (Yl.eo rfl rfl rfl rfl) rfl ?_|refine ah.yg rfl (Yl.cX Tryz.underlying9 rfl rfl rfl Hb) rfl ?_|refine ah.yg rfl (Yl.cq Tryz.underlying9 rfl rfl rfl Hb) rfl ?_|refine ah.yg rfl (Yl.cn rfl rfl rfl rfl rfl rfl Hb) rfl ?_|refine ah.yg rfl (Yl.kz Tryz.underlying9 rfl) rfl ?_))|(refine ah.an ?_;(first|refine ah.y (Yl.qJ rfl rfl) rfl ?_|refine ah.y (Yl.kA rfl rfl) rfl ?_|refine ah.y (Yl.ky rfl rfl Hb) rfl ?_))|refine ah.y (Yl.eo rfl rfl rfl rfl) rfl ?_|refine ah.y (Yl.cX Tryz.underlying9 rfl rfl rfl Hb) rfl ?_|refine ah.y (Yl.cq Tryz.underlying9 rfl rfl rfl Hb) rfl ?_|refine ah.y (Yl.cn rfl rfl rfl rfl rfl rfl Hb) rfl ?_|refine ah.y (Yl.kz Tryz.underlying9 rfl) rfl ?_))));exact hk_.out)):g:=hw ⟨h⟩
section
variable {fn:Func} {R:Ending→World→Prop} {n:Nat} {E:Env} {w:World} {a T t b Tb s:Nat} {ti:TI} {v:Value} {cs:List Value}
theorem re (hT:G.ty T=some ti) (hag:ti.agg=true) (hsz:ti.size=s) (hb:dZ w b cs Tb) (hl:cs.length=s):(loadVar T ⟨b,0,none⟩).run G.P w=.ok (.agg cs.toArray) w:=by
 have h1:=(G.eZ T ti hT).agg w
 have h2:=(G.eZ T ti hT).size w
 rw[hag]at h1
 subst hl
 have h3:=run_loadCells (P:=G.P) (w:=w) (bk:=b) cs 0 0 #[] (fun j hj=>by
  have:=hb.cell (j:=j) (List.getElem?_eq_getElem hj)
  rw[List.getElem?_eq_getElem hj,←this];simp)
 simp[loadVar,h1,h2,hsz,loadCells,h3]
theorem Fin.fG {e:Exit} (he:e=.ret∨e=.normal) (hr:fn.results=#[.cell a T]) (ha:lk E a=some (.pointer (some ⟨b,0,none⟩))) (hT:G.ty T=some ti) (hag:ti.agg=true) (hsz:ti.size=s) (hb:dZ w b cs Tb) (hl:cs.length=s) (hR:R (.returned (.agg cs.toArray)) w):Fin (bodyPost G.P fn R) n e E w:=
 Fin.nG he (fun ac hac=>by
  have h3:=re hT hag hsz hb hl
  have g1:ac.tmps[a]?.getD undef=.pointer (some ⟨b,0,none⟩):=by have:=(hac.eq a _ ha).2;simpa using this
  simp[results,hr,g1,asAddr,h3]) hR
theorem Fin.bn {e:Exit} (he:e=.ret∨e=.normal) (hr:fn.results=#[.cell a T,.tmp t]) (ha:lk E a=some (.pointer (some ⟨b,0,none⟩))) (hT:G.ty T=some ti) (hag:ti.agg=true) (hsz:ti.size=s) (hb:dZ w b cs Tb) (hl:cs.length=s) (hv:lk E t=some v) (hR:R (.returned (.tuple #[.agg cs.toArray,v])) w):Fin (bodyPost G.P fn R) n e E w:=
 Fin.nG he (fun ac hac=>by
  have h3:=re hT hag hsz hb hl
  have g1:ac.tmps[a]?.getD undef=.pointer (some ⟨b,0,none⟩):=by have:=(hac.eq a _ ha).2;simpa using this
  have g2:ac.tmps[t]?.getD undef=v:=by have:=(hac.eq t _ hv).2;simpa using this
  simp[results,hr,g1,g2,asAddr,h3]) hR
end
def FW (ro:Option Nat):Fence:={Fence.wide with round:=ro}
theorem mq {ro:Option Nat} {m:Nat} {f:FuncId} {args:Array Value} {w:World} {R:Ending→World→Prop} (h:Calls G.P f args w R):CallsIn (FW ro) m G.P f args w R:=by
 have h1:CallsIn Fence.wide m G.P f args w R:=callsIn_wide.2 h
 cases ro with
 |none=>exact h1
 |some l=>exact h1.inRound l
structure oC (n:Nat) (D:List Deferred) (a:Act) (E:Env):Prop where
 ag:Ag n {a with defers:=[]} E
 df:a.defers=D
theorem oC.of {n:Nat} {a:Act} {E:Env} (h:Ag n a E):oC n [] a E:=⟨⟨h.sz,rfl,h.eq⟩,h.df⟩
theorem oC.AK {n:Nat} {a:Act} {E:Env} (h:oC n [] a E):Ag n a E:=⟨h.ag.sz,h.df,h.ag.eq⟩
theorem tz (a:Act):({a with defers:=[]}:Act).eval=a.eval:=by funext x;cases x<;>rfl
theorem oC.eval {n:Nat} {D:List Deferred} {a:Act} {E:Env} (h:oC n D a E) {x:Operand} {v:Value} (hx:ev E x=some v):a.eval x=v:=by rw[←tz];exact h.ag.eval hx
theorem oC.put {n:Nat} {D:List Deferred} {a:Act} {E:Env} (h:oC n D a E) {d:Nat} (hd:d<n) (v:Value):oC n D (a.put (some d) v) ((d,v)::E):=⟨h.ag.put hd v,by simp[Act.put,h.df]⟩
theorem oC.sub {n:Nat} {D:List Deferred} {a:Act} {E E':Env} (h:oC n D a E) (hs:Sub E E'):oC n D a E':=⟨h.ag.sub hs,h.df⟩
structure cQ (ro:Option Nat) (m:Nat) (D:List Deferred) (ops:Array Oper) (Q:Exit→Act→World→Prop) (n:Nat) (l:List Oper) (E:Env) (w:World):Prop where
 h:∀a,oC n D a E→wpListIn (FW ro) m G.P ops Q l a w
structure gP (ro:Option Nat) (m:Nat) (D:List Deferred) (Q:Exit→Act→World→Prop) (n:Nat) (c:Code) (E:Env) (w:World):Prop where
 h:∀a,oC n D a E→c.wpIn (FW ro) m G.P Q a w
structure dt (D:List Deferred) (Q:Exit→Act→World→Prop) (n:Nat) (e:Exit) (E:Env) (w:World):Prop where
 h:∀a,oC n D a E→Q e a w
section
variable {ro:Option Nat} {m:Nat} {D:List Deferred} {Q:Exit→Act→World→Prop} {n:Nat} {E:Env} {w:World} {ops:Array Oper} {rest:List Oper} {op:Op} {d:Nat} {ty:TypeId} {pos:String} {aft:Array Edge} {v:Value} {K:Value→World→Prop}
theorem gP.seq {x y:Code} (h:gP ro m D (Exit.then (y.wpIn (FW ro) m G.P Q) Q) n x E w):gP ro m D Q n (.seq x y) E w:=⟨fun a ha=>wpIn_seq (h.h a ha)⟩
theorem gP.block {id:Nat} {c:Code} (h:gP ro m D (Exit.inBlock id Q) n c E w):gP ro m D Q n (.block id c) E w:=⟨fun a ha=>wpIn_block (h.h a ha)⟩
theorem gP.skip (h:dt D Q n .normal E w):gP ro m D Q n .skip E w:=⟨fun a ha=>wpIn_skip (h.h a ha)⟩
theorem gP.exit {id:Nat} (h:dt D Q n (.exit id) E w):gP ro m D Q n (.exit id) E w:=⟨fun a ha=>wpIn_exit (h.h a ha)⟩
theorem gP.ret (h:dt D Q n .ret E w):gP ro m D Q n .ret E w:=⟨fun a ha=>wpIn_ret (h.h a ha)⟩
theorem gP.region {id:Nat} {l:List Oper} (h:cQ ro m D l.toArray Q n l E w):gP ro m D Q n (.region id l.toArray false) E w:=⟨fun a ha=>wpIn_region_lit (h.h a ha)⟩
theorem gP.fC {c:Operand} {x y:Code} (hc:ev E c=some (.bool true)) (h:gP ro m D Q n x E w):gP ro m D Q n (.cond c x y) E w:=⟨fun a ha=>wpIn_cond_true (ha.eval hc) (h.h a ha)⟩
theorem gP.fB {c:Operand} {x y:Code} (hc:ev E c=some (.bool false)) (h:gP ro m D Q n y E w):gP ro m D Q n (.cond c x y) E w:=⟨fun a ha=>wpIn_cond_false (ha.eval hc) (h.h a ha)⟩
theorem dt.iG {y:Code} (h:gP ro m D Q n y E w):dt D (Exit.then (y.wpIn (FW ro) m G.P Q) Q) n .normal E w:=⟨fun a ha=>h.h a ha⟩
theorem dt.Be {K:Act→World→Prop} (h:∀a,oC n D a E→K a w):dt D (Exit.then K Q) n .normal E w:=⟨fun a ha=>h a ha⟩
theorem dt.iH {K:Act→World→Prop} (h:dt D Q n .ret E w):dt D (Exit.then K Q) n .ret E w:=⟨fun a ha=>h.h a ha⟩
theorem dt.iI {K:Act→World→Prop} {id:Nat} (h:dt D Q n (.exit id) E w):dt D (Exit.then K Q) n (.exit id) E w:=⟨fun a ha=>h.h a ha⟩
theorem dt.lT {id:Nat} (h:dt D Q n .normal E w):dt D (Exit.inBlock id Q) n .normal E w:=⟨fun a ha=>h.h a ha⟩
theorem dt.lU {id:Nat} (h:dt D Q n .ret E w):dt D (Exit.inBlock id Q) n .ret E w:=⟨fun a ha=>h.h a ha⟩
theorem dt.lV {id:Nat} (h:dt D Q n .normal E w):dt D (Exit.inBlock id Q) n (.exit id) E w:=⟨fun a ha=>by simp only[Exit.inBlock,if_true];exact h.h a ha⟩
theorem cQ.nil (h:dt D Q n .normal E w):cQ ro m D ops Q n [] E w:=⟨fun a ha=>h.h a ha⟩
theorem mZ {a:Act} {o:Oper} (hg:o.guard=none) (h:o.wpIn (FW ro) m G.P a w (wpListIn (FW ro) m G.P ops Q rest) Q):wpListIn (FW ro) m G.P ops Q (o::rest) a w:=by
 have hw:Region.wanted o (yielded ops a.tmps)=true:=by simp[Region.wanted,hg]
 show(if Region.wanted o (yielded ops a.tmps)then _ else _)
 rw[if_pos hw];exact h
def gW:Op→Bool
 |.defer _=>false
 |_=>true
theorem tG {op:Op} (h:mn op=true):∀c,op≠.defer c:=by rintro c rfl;simp[mn]at h
theorem cQ.y (hy:Yl G n op E (fun w'=>w'=w) v) (hd:(mn op && Nat.blt d n)=true) (h:cQ ro m D ops Q n rest ((d,v)::E) w):cQ ro m D ops Q n (⟨some d,op,ty,pos,aft,none⟩::rest) E w:=⟨fun a ha=>by
 rw[Bool.and_eq_true]at hd
 have hr:=hy.h w rfl _ ha.ag (some d) ty pos aft none
 rw[tz]at hr
 have hs:Oper.semAt (FW ro).round a.eval ⟨some d,op,ty,pos,aft,none⟩=execOp a.eval ⟨some d,op,ty,pos,aft,none⟩:=Oper.semAt_eq _ _ _ (tG hd.1)
 refine mZ rfl ⟨fun _ _=>trivial,?_⟩
 rw[hs,hr]
 exact h.h _ (ha.put (by simpa using hd.2) v)⟩
theorem ui {a:Act} {o:Oper} {next:Act→World→Prop} {r:Result Next} (h:iY G.P (fun v w'=>next (a.put o.dst v) w') r):o.uponIn (FW ro) m G.P a next Q r:=by
 cases r with
 |ok x w'=>
  cases x<;>simp only[iY]at h
  case value v=>exact h
  case skip=>exact h
  case enter f args=>
   refine⟨fun e=>?_,(mq h).mono ?_⟩
   ·cases e
   ·rintro e w'' ⟨v,rfl,hv⟩;exact hv
 |halt x w'=>exact h.elim
theorem cQ.e (he:bB G n op E w K) (hn:gW op=true) (hd:Nat.blt d n=true) (h:∀v w',K v w'→cQ ro m D ops Q n rest ((d,v)::E) w'):cQ ro m D ops Q n (⟨some d,op,ty,pos,aft,none⟩::rest) E w:=⟨fun a ha=>by
 have hr:=he.h _ ha.ag (some d) ty pos aft none
 rw[tz]at hr
 have hs:Oper.semAt (FW ro).round a.eval ⟨some d,op,ty,pos,aft,none⟩=execOp a.eval ⟨some d,op,ty,pos,aft,none⟩:=Oper.semAt_eq _ _ _ (by rintro c rfl;simp[gW]at hn)
 refine mZ rfl ⟨fun _ _=>trivial,?_⟩
 rw[hs]
 exact ui (bZ hr (fun v w' hk=>(h v w' hk).h _ (ha.put (by simpa using hd) v)))⟩
theorem cQ.e0 (he:bB G n op E w K) (hn:gW op=true) (h:∀v w',K v w'→cQ ro m D ops Q n rest E w'):cQ ro m D ops Q n (⟨none,op,ty,pos,aft,none⟩::rest) E w:=⟨fun a ha=>by
 have hr:=he.h _ ha.ag none ty pos aft none
 rw[tz]at hr
 have hs:Oper.semAt (FW ro).round a.eval ⟨none,op,ty,pos,aft,none⟩=execOp a.eval ⟨none,op,ty,pos,aft,none⟩:=Oper.semAt_eq _ _ _ (by rintro c rfl;simp[gW]at hn)
 refine mZ rfl ⟨fun _ _=>trivial,?_⟩
 rw[hs]
 exact ui (bZ hr (fun v w' hk=>(h v w' hk).h a ha))⟩
theorem cQ.round {l:Nat} {y:Operand} {args:List Operand} {tys:Array TypeId} {vs:List Value} {R:Ending→World→Prop} (hf:ev E y=some (.func (.yield l) #[] #[])) (ha:ju E args=some vs) (hd:Nat.blt d n=true)
  (hY:YieldAt (FW ro) (m - 1) G.P l vs.toArray w R) (h:∀e w',R e w'→∃v,e=.returned v∧cQ ro m D ops Q n rest ((d,v)::E) w'):
  cQ ro m D ops Q n (⟨some d,.call ⟨.value y,args.toArray,tys⟩,ty,pos,aft,none⟩::rest) E w:=⟨fun a hag=>by
 obtain⟨fn,tmps,assign,body,hrun,hR⟩:=hY
 have e1:args.map a.eval=vs:=by rw[←tz];exact hag.ag.lF ha
 have hs:Oper.semAt (FW ro).round a.eval ⟨some d,.call ⟨.value y,args.toArray,tys⟩,ty,pos,aft,none⟩=execOp a.eval ⟨some d,.call ⟨.value y,args.toArray,tys⟩,ty,pos,aft,none⟩:=Oper.semAt_eq _ _ _ (by rintro c e;cases e)
 refine mZ rfl ⟨fun _ _=>trivial,?_⟩
 have hx:(execOp a.eval ⟨some d,.call ⟨.value y,args.toArray,tys⟩,ty,pos,aft,none⟩).run G.P w=.ok (.round l fn tmps assign body) w:=by
  simp[execOp,resolve,invoke,Deferred.ofValue,hag.eval hf,e1,hrun]
 rw[hs,hx]
 refine⟨fun e=>(by cases e),hR.mono ?_⟩
 rintro e w' hRe
 obtain⟨v,rfl,hv⟩:=h e w' hRe
 exact hv.h _ (hag.put (by simpa using hd) v)⟩
theorem Cd.vW {id:Nat} {l:List Oper} (m:Nat) (h:cQ none m [] l.toArray Q n l E w):Cd G Q n (.region id l.toArray false) E w:=⟨fun a ha=>wpIn_wide.1 (wpIn_region_lit (h.h a (oC.of ha)))⟩
def zg (l:List (Nat×Value)) (E:Env):Env:=l.foldl (fun E pv=>pv::E) E
theorem rr:∀(l:List (Nat×Value)) {t:Array Value} {E:Env},Ag n ⟨t,[]⟩ E→(∀pv∈l,pv.1<n)→Ag n ⟨l.foldl (fun t pv=>t.setIfInBounds pv.1 pv.2) t,[]⟩ (zg l E)
 |[],_,_,h,_=>h
 |(p,v)::r,t,E,h,hl=>rr r (t:=t.setIfInBounds p v) (E:=(p,v)::E) (h.put (hl (p,v) Hc) v) (fun pv hp=>hl pv (by simp[hp]))
theorem gP.rangeFunc {α:Type} {g:Operand} {ps:List Nat} {assign body:Code} {gf:Nat} {lb:List Value} (hg:ev E g=some (.func (.func gf) #[] lb.toArray)) (hf:G.fb[gf]?=some true) (hm:1≤m)
  {encs:α→List Value} {Kp:World→World→Prop} {S Sp:List α→Prop} {N:Nat} (hseq:SeqStopsK (FW none) (m - 1) G.P gf lb.toArray (fun x=>(encs x).toArray) Kp S Sp N w)
  (hKt:∀{A B C:World},Kp A B→Kp B C→Kp A C) (hKb:∀(W:World) (l:Nat) (o o':Obj),w.heap.size≤l→W.heap[l]?=some o→o.isCells=false→o.isWalk=false→Kp W (W.putObj l o')) (hKr:∀W,Kp W W) (hps:∀x,(encs x).length=ps.length) (hpn:(ps.all fun p=>Nat.blt p n)=true)
  (I:List α→World→Prop) (Ix:Code→List α→World→Prop) (hI:OwnFrom w.heap.size I) (hIx:∀c,OwnFrom w.heap.size (Ix c)) (h0:I [] w) (E1:α→Env)
  (hassign:∀(l:Nat) (x:α) (W:World) (K:Act→World→Prop),(∀a,oC n [] a (E1 x)→K a W)→gP (some l) (m - 1 - 1) [] (Exit.then K (fun _ _ _=>False)) n assign (zg (ps.zip (encs x)) E) W)
  (hbody:∀(l:Nat) (pre:List α) (x:α) (W:World),I pre W→pre.length<N→gP (some l) (m - 1 - 1) [] (ownPostG w.heap.size Kp I Ix (pre++[x]) W) n body (E1 x) W)
  (hdone:∀(Dn:Nat) (xs:List α) (W:World),w.heap.size≤Dn→S xs→I xs W→W.heap[Dn]?=some (.deferred (some []))→dt ({target:=.collected Dn,args:=#[]}::D) Q n .normal E W)
  (hstop:∀(Dn:Nat) (c:Code) (pre:List α) (W:World),w.heap.size≤Dn→Sp pre→Ix c pre W→W.heap[Dn]?=some (.deferred (some []))→gP none m ({target:=.collected Dn,args:=#[]}::D) Q n c E W):
  gP none m D Q n (.rangeFunc g ps.toArray assign body) E w:=⟨fun a ha=>by
 refine wpIn_rangeFunc_ownH (F:=FW none) rfl hm (ha.eval hg) trivial (G.wN gf hf) hseq hKt hKb (Below.refl _ _) (fun x=>by simpa using hps x) I Ix hI hIx h0 (fun x a' _=>oC n [] a' (E1 x)) (fun x a' _ W W' row h _ _=>h) ?_ ?_ ?_ ?_
 ·intro l pre x W K hi hK
  refine(hassign l x W K (fun a' h'=>hK a' W (KeepsFrom.refl _ _) (hKr W) hi h')).h _ ⟨?_,rfl⟩
  have e:(ps.toArray.zip (encs x).toArray).foldl (fun t (p,v)=>t.setIfInBounds p v) a.tmps=(ps.zip (encs x)).foldl (fun t pv=>t.setIfInBounds pv.1 pv.2) a.tmps:=by
   rw[←Array.foldl_toList];simp
  rw[e]
  refine rr _ ⟨ha.ag.sz,rfl,ha.ag.eq⟩ (fun pv hp=>?_)
  have:=List.all_eq_true.1 hpn pv.1 (List.of_mem_zip (show(pv.1,pv.2)∈_ from hp)).1
  simpa using this
 ·intro l pre x a' W _ _ hi hax hN
  exact(hbody l pre x W hi hN).h a' hax
 ·intro Dn xs W h1 h2 h3 h4
  exact(hdone Dn xs W h1 h2 h3 h4).h _ ⟨⟨ha.ag.sz,rfl,ha.ag.eq⟩,by simp[ha.df]⟩
 ·intro Dn c pre W h1 h2 h3 h4
  exact(hstop Dn c pre W h1 h2 h3 h4).h _ ⟨⟨ha.ag.sz,rfl,ha.ag.eq⟩,by simp[ha.df]⟩⟩
theorem dt.AF {fn:Func} {R:Ending→World→Prop} {e:Exit} {Dn:Nat} (he:e=.ret∨e=.normal) (hK:w.heap[Dn]?=some (.deferred (some [])))
  (hr:∀a,Ag n a E→(results fn a.tmps).run G.P (w.putObj Dn (.deferred none))=.ok v (w.putObj Dn (.deferred none))) (hR:R (.returned v) (w.putObj Dn (.deferred none))):dt [{target:=.collected Dn,args:=#[]}] (bodyPostM (FW none) m G.P fn R) n e E w:=⟨fun a ha=>by
 have h1:=hr _ ha.ag
 have key:LeavesInM (FW none) m G.P fn a.tmps R a.defers .returning w:=by
  rw[ha.df]
  exact⟨by simp,.inl ⟨_,_,rfl,run_takeDeferred hK,⟨v,h1,hR⟩⟩⟩
 rcases he with rfl|rfl<;>exact key⟩
theorem yA {f:FuncId} {fn:Func} {c:Code} {l:List Value} {R:Ending→World→Prop} (m:Nat) (hf:G.P.funcs[f]?=some fn) (hb:fn.body=some c) (hn:fn.ntmps=n) (hl:Nat.ble l.length n=true)
  (h:gP none m [] (bodyPostM (FW none) m G.P fn R) n c (uC 0 l) w):Calls G.P f l.toArray w R:=by
 refine callsIn_wide.1 (callsIn_of_wp_marks (F:=Fence.wide) (n:=m) hf hb trivial (h.h _ (oC.of ?_)))
 have hl':l.length≤n:=Nat.le_of_ble_eq_true hl
 refine⟨by simp[hn];omega,rfl,fun t v ht=>?_⟩
 obtain⟨_,h2⟩:=rY l 0 t v ht
 rw[Nat.sub_zero]at h2
 obtain⟨h3,h4⟩:=List.getElem?_eq_some_iff.1 h2
 refine⟨by omega,?_⟩
 have:t<(l.toArray++Array.replicate (fn.ntmps - l.toArray.size) undef).size:=by simp;omega
 simp only[Array.getD,this,dite_true]
 rw[Array.getInternal_eq_getElem,Array.getElem_append_left (by simpa using h3)]
 simpa using h4
end
theorem dt.ofFin {Q:Exit→Act→World→Prop} {n:Nat} {e:Exit} {E:Env} {w:World} (h:Fin Q n e E w):dt [] Q n e E w:=⟨fun a ha=>h.h a ha.AK⟩
def A8:List Oper→Bool
 |[]=>true
 |⟨_,.call ⟨.value (.tmp _),_,_⟩,_,_,_,_⟩::_=>false
 |_::r=>A8 r
theorem Cd.AE {Q:Exit→Act→World→Prop} {n:Nat} {E:Env} {w:World} {id:Nat} {l:List Oper} (_:A8 l=true) (h:ah G l.toArray (.list Q w) n l E):Cd G Q n (.region id l.toArray false) E w:=Cd.region h
theorem vA {g g':Prop} (h:g') (hw:ek g'→g:=by(intro hk_;(repeat(first|(first|refine ah.y (Yl.move rfl) rfl ?_|refine ah.y (Yl.assign rfl) rfl ?_|(refine ah.is ?_;(first|(refine ah.wY ?_;(first|refine ah.gs rfl rfl rfl ?_|refine ah.gu rfl rfl ?_|refine ah.yg rfl (Yl.move rfl) rfl ?_|refine ah.yg rfl (Yl.assign rfl) rfl ?_|(refine ah.an ?_;(first|(refine ah.an (bo:=.lss) ?_;(first|refine ah.yg rfl (Yl.iU rfl rfl Hb) rfl ?_|refine ah.yg rfl (Yl.iT rfl rfl Hb) rfl ?_))|(refine ah.an (bo:=.eql) ?_;(first|refine ah.yg rfl (Yl.iL rfl rfl Hb) rfl ?_|refine ah.yg rfl (Yl.iK rfl rfl Hb) rfl ?_))|(refine ah.an (bo:=.neq) ?_;(first|refine ah.yg rfl (Yl.iW rfl rfl Hb) rfl ?_|refine ah.yg rfl (Yl.iV rfl rfl Hb) rfl ?_))|(refine ah.an (bo:=.leq) ?_;(first|refine ah.yg rfl (Yl.iS rfl rfl Hb) rfl ?_|refine ah.yg rfl (Yl.iR rfl rfl Hb) rfl ?_))|(refine ah.an (bo:=.gtr) ?_;(first|refine ah.yg rfl (Yl.iQ rfl rfl Hb) rfl ?_|refine ah.yg rfl (Yl.iP rfl rfl Hb) rfl ?_))|(refine ah.an (bo:=.geq) ?_;(first|refine ah.yg rfl (Yl.iO rfl rfl Hb) rfl ?_|refine ah.yg rfl (Yl.iN rfl rfl Hb) rfl ?_))|refine ah.yg rfl (Yl.add rfl rfl Hb) rfl ?_|refine ah.yg rfl (Yl.sub rfl rfl Hb) rfl ?_|refine ah.yg rfl (Yl.fF rfl rfl rfl rfl) rfl ?_|refine ah.yg rfl (Yl.jr Tryz.underlying4 rfl rfl) rfl ?_|fail))|(refine ah.isField ?_;(first|refine ah.yg rfl (Yl.ep rfl rfl rfl) rfl ?_|refine ah.yg rfl (Yl.field rfl rfl rfl) rfl ?_))|(refine ah.bX ?_;(first|refine ah.yg rfl (Yl.load rfl rfl rfl GR) rfl ?_|refine ah.yg rfl (Yl.load rfl rfl rfl (nF dp)) rfl ?_|refine ah.yg rfl (Yl.load rfl rfl rfl dp) rfl ?_))|(refine ah.dK ?_;(first|refine ah.yg rfl (Yl.fX rfl rfl rfl rfl rfl rfl Hb) rfl ?_|refine ah.yg rfl (Yl.idx rfl rfl rfl rfl rfl rfl Hb) rfl ?_))|refine ah.yg rfl (Yl.len rfl rfl rfl) rfl ?_|refine ah.yg rfl (Yl.extract rfl rfl) rfl ?_|refine ah.yg rfl (Yl.dP rfl rfl) rfl ?_|refine ah.yg rfl (Yl.dO rfl rfl) rfl ?_|refine ah.yg rfl (Yl.nilCheck rfl) rfl ?_|refine ah.yg rfl (Yl.not rfl) rfl ?_|refine ah.yg rfl (Yl.fp rfl rfl rfl rfl rfl Hb) rfl ?_|refine ah.yg rfl (Yl.makeFunc rfl rfl) rfl ?_))|refine ah.nil ?_|refine ah.At ?_|refine ah.xq ?_|(refine ah.an ?_;(first|(refine ah.an (bo:=.lss) ?_;(first|refine ah.y (Yl.iU rfl rfl Hb) rfl ?_|refine ah.y (Yl.iT rfl rfl Hb) rfl ?_))|(refine ah.an (bo:=.eql) ?_;(first|refine ah.y (Yl.iL rfl rfl Hb) rfl ?_|refine ah.y (Yl.iK rfl rfl Hb) rfl ?_))|(refine ah.an (bo:=.neq) ?_;(first|refine ah.y (Yl.iW rfl rfl Hb) rfl ?_|refine ah.y (Yl.iV rfl rfl Hb) rfl ?_))|(refine ah.an (bo:=.leq) ?_;(first|refine ah.y (Yl.iS rfl rfl Hb) rfl ?_|refine ah.y (Yl.iR rfl rfl Hb) rfl ?_))|(refine ah.an (bo:=.gtr) ?_;(first|refine ah.y (Yl.iQ rfl rfl Hb) rfl ?_|refine ah.y (Yl.iP rfl rfl Hb) rfl ?_))|(refine ah.an (bo:=.geq) ?_;(first|refine ah.y (Yl.iO rfl rfl Hb) rfl ?_|refine ah.y (Yl.iN rfl rfl Hb) rfl ?_))|refine ah.y (Yl.add rfl rfl Hb) rfl ?_|refine ah.y (Yl.sub rfl rfl Hb) rfl ?_|refine ah.y (Yl.fF rfl rfl rfl rfl) rfl ?_|refine ah.y (Yl.jr Tryz.underlying4 rfl rfl) rfl ?_|fail))|(refine ah.isField ?_;(first|refine ah.y (Yl.ep rfl rfl rfl) rfl ?_|refine ah.y (Yl.field rfl rfl rfl) rfl ?_))|(refine ah.bX ?_;(first|refine ah.y (Yl.load rfl rfl rfl GR) rfl ?_|refine ah.y (Yl.load rfl rfl rfl (nF dp)) rfl ?_|refine ah.y (Yl.load rfl rfl rfl dp) rfl ?_))|(refine ah.dK ?_;(first|refine ah.y (Yl.fX rfl rfl rfl rfl rfl rfl Hb) rfl ?_|refine ah.y (Yl.idx rfl rfl rfl rfl rfl rfl Hb) rfl ?_))|refine ah.y (Yl.len rfl rfl rfl) rfl ?_|refine ah.y (Yl.extract rfl rfl) rfl ?_|refine ah.y (Yl.dP rfl rfl) rfl ?_|refine ah.y (Yl.dO rfl rfl) rfl ?_|refine ah.y (Yl.nilCheck rfl) rfl ?_|refine ah.y (Yl.not rfl) rfl ?_|refine ah.y (Yl.fp rfl rfl rfl rfl rfl Hb) rfl ?_|refine ah.y (Yl.makeFunc rfl rfl) rfl ?_))|(refine Cd.is ?_;(first|refine Cd.seq ?_|refine Cd.AE rfl ?_|refine Cd.block ?_|refine Cd.fC rfl ?_|refine Cd.fB rfl ?_|refine Cd.skip ?_|refine Cd.scope ?_|refine Cd.ret ?_|refine Cd.exit ?_|refine Cd.label ?_))|(refine Fin.is ?_;(first|refine Fin.iG ?_|refine Fin.lT ?_|refine Fin.iH ?_|refine Fin.lU ?_|refine Fin.iI ?_|refine Fin.DF ?_|refine Fin.lV ?_|refine Fin.rE rfl ?_)))|(refine ah.is ?_;(first|(refine ah.wY ?_;(first|(refine ah.an ?_;(first|refine ah.yg rfl (Yl.qJ rfl rfl) rfl ?_|refine ah.yg rfl (Yl.kA rfl rfl) rfl ?_|refine ah.yg rfl (Yl.ky rfl rfl Hb) rfl ?_))|refine ah.yg rfl (Yl.eo rfl rfl rfl rfl) rfl ?_|refine ah.yg rfl (Yl.cX Tryz.underlying9 rfl rfl rfl Hb) rfl ?_|refine ah.yg rfl (Yl.cq Tryz.underlying9 rfl rfl rfl Hb) rfl ?_|refine ah.yg rfl (Yl.cn rfl rfl rfl rfl rfl rfl Hb) rfl ?_|refine ah.yg rfl (Yl.kz Tryz.underlying9 rfl) rfl ?_))|(refine ah.an ?_;(first|refine ah.y (Yl.qJ rfl rfl) rfl ?_|refine ah.y (Yl.kA rfl rfl) rfl ?_|refine ah.y (Yl.ky rfl rfl Hb) rfl ?_))|refine ah.y (Yl.eo rfl rfl rfl rfl) rfl ?_|refine ah.y (Yl.cX Tryz.underlying9 rfl rfl rfl Hb) rfl ?_|refine ah.y (Yl.cq Tryz.underlying9 rfl rfl rfl Hb) rfl ?_|refine ah.y (Yl.cn rfl rfl rfl rfl rfl rfl Hb) rfl ?_|refine ah.y (Yl.kz Tryz.underlying9 rfl) rfl ?_))));exact hk_.out)):g:=hw ⟨h⟩
theorem um {g g':Prop} (h:g') (hw:ek g'→g:=by(intro hk_;(repeat(first|refine cQ.nil ?_|refine cQ.y (Yl.move rfl) rfl ?_|refine cQ.y (Yl.assign rfl) rfl ?_|refine cQ.y (Yl.iU rfl rfl Hb) rfl ?_|refine cQ.y (Yl.iT rfl rfl Hb) rfl ?_|refine cQ.y (Yl.iL rfl rfl Hb) rfl ?_|refine cQ.y (Yl.iK rfl rfl Hb) rfl ?_|refine cQ.y (Yl.iW rfl rfl Hb) rfl ?_|refine cQ.y (Yl.iV rfl rfl Hb) rfl ?_|refine cQ.y (Yl.iS rfl rfl Hb) rfl ?_|refine cQ.y (Yl.iR rfl rfl Hb) rfl ?_|refine cQ.y (Yl.iQ rfl rfl Hb) rfl ?_|refine cQ.y (Yl.iP rfl rfl Hb) rfl ?_|refine cQ.y (Yl.iO rfl rfl Hb) rfl ?_|refine cQ.y (Yl.iN rfl rfl Hb) rfl ?_|refine cQ.y (Yl.add rfl rfl Hb) rfl ?_|refine cQ.y (Yl.sub rfl rfl Hb) rfl ?_|refine cQ.y (Yl.qJ rfl rfl) rfl ?_|refine cQ.y (Yl.kA rfl rfl) rfl ?_|refine cQ.y (Yl.ky rfl rfl Hb) rfl ?_|refine cQ.y (Yl.ep rfl rfl rfl) rfl ?_|refine cQ.y (Yl.field rfl rfl rfl) rfl ?_|refine cQ.y (Yl.load rfl rfl rfl GR) rfl ?_|refine cQ.y (Yl.fX rfl rfl rfl rfl rfl rfl Hb) rfl ?_|refine cQ.y (Yl.idx rfl rfl rfl rfl rfl rfl Hb) rfl ?_|refine cQ.y (Yl.len rfl rfl rfl) rfl ?_|refine cQ.y (Yl.kz Tryz.underlying9 rfl) rfl ?_|refine cQ.y (Yl.extract rfl rfl) rfl ?_|refine cQ.y (Yl.dP rfl rfl) rfl ?_|refine cQ.y (Yl.dO rfl rfl) rfl ?_|refine cQ.y (Yl.not rfl) rfl ?_|refine cQ.y (Yl.fp rfl rfl rfl rfl rfl Hb) rfl ?_|refine gP.seq ?_|refine gP.region ?_|refine gP.block ?_|refine gP.skip ?_|refine gP.ret ?_|refine gP.exit ?_|refine gP.fC rfl ?_|refine gP.fB rfl ?_|refine dt.iG ?_|refine dt.lT ?_|refine dt.iH ?_|refine dt.lU ?_|refine dt.iI ?_|refine dt.lV ?_|fail));exact hk_.out)):g:=hw ⟨h⟩
def QN (Q:Exit→Act→World→Prop):Exit→Act→World→Prop:=fun e a w=>e=.normal∧Q e a w
structure cJ (ops:Array Oper) (Q:Exit→Act→World→Prop) (n f:Nat) (listed:Array Bool) (E:Env) (w:World):Prop where
 h:∀a,Ag n a E→wpAny G.P .any ops (QN Q) f listed a w
section
variable {ops:Array Oper} {Q:Exit→Act→World→Prop} {n f:Nat} {listed:Array Bool} {E:Env} {w:World} {d:Nat} {op:Op} {ty:TypeId} {pos:String} {aft:Array Edge} {v:Value} {K:Value→World→Prop}
theorem Cd.mT {id:Nat} {l:List Oper} (h:cJ l.toArray Q n l.length (Array.replicate l.length false) E w.drew):Cd G Q n (.region id l.toArray true) E w:=⟨fun a ha=>by
 refine Code.wp_mono ?_ (wp_region_any (Q:=QN Q) G.mixed (by simpa using h.h a ha))
 rintro e a' w' ⟨rfl,hq⟩;exact hq⟩
theorem cJ.done (hr:Region.ready .any ops listed=[]) (h:Fin Q n .normal E w):cJ ops Q n f listed E w:=⟨fun a ha=>wpAny_done hr ⟨rfl,h.h a ha⟩ f⟩
theorem cJ.take (i:Nat) (hi:ops[i]?=some ⟨some d,op,ty,pos,aft,none⟩) (hc:(Region.noSelect ops && Region.free .any ops listed i && (Region.ready .any ops listed).contains i && mn op && Nat.blt d n)=true) (hy:Yl G n op E (fun _=>True) v) (h:cJ ops Q n f (listed.setIfInBounds i true) ((d,v)::E) w):cJ ops Q n (f+1) listed E w:=⟨fun a ha=>by
 simp only[Bool.and_eq_true]at hc
 obtain⟨⟨⟨⟨h1,h2⟩,h3⟩,h4⟩,h5⟩:=hc
 refine wpAny_take (v:=v) hi h1 h2 h3 (fun c a w hq=>by cases hq.1) ?_ (h.h _ (ha.put (by simpa using h5) v))
 exact .inl ⟨by simp[Region.wanted],fun w'=>hy.h w' trivial a ha _ _ _ _ _⟩⟩
theorem wc {a:Act} {o:Oper} {next:Act→World→Prop} {r:Result Next} (h:iY G.P (fun v w'=>next (a.put o.dst v) w') r):o.upon G.P a next Q r:=by
 cases r with
 |ok x w'=>
  cases x<;>simp only[iY]at h
  case value v=>exact h
  case skip=>exact h
  case enter f args=>exact h.mono (by rintro e w'' ⟨v,rfl,hv⟩;exact hv)
 |halt x w'=>exact h.elim
theorem cJ.one (i:Nat) (hr:Region.ready .any ops listed=[i]) (hi:ops[i]?=some ⟨some d,op,ty,pos,aft,none⟩) (hd:Nat.blt d n=true) (he:bB G n op E w K) (h:∀v w',K v w'→cJ ops Q n f (listed.setIfInBounds i true) ((d,v)::E) w'):cJ ops Q n (f+1) listed E w:=⟨fun a ha=>by
 refine wpAny_all hr Hc (fun j hj=>?_)
 rw[List.mem_singleton]at hj;subst hj
 unfold wpOp
 rw[hi]
 have hw:Region.wanted ⟨some d,op,ty,pos,aft,none⟩ (yielded ops a.tmps)=true:=by simp[Region.wanted]
 show(if Region.wanted _ _ then _ else _)
 rw[if_pos hw]
 exact .inl (wc (bZ (he.h a ha _ _ _ _ _) (fun v w' hk=>(h v w' hk).h _ (ha.put (by simpa using hd) v))))⟩
theorem cJ.CR (i:Nat) (hr:Region.ready .any ops listed=[i]) (hi:ops[i]?=some ⟨none,op,ty,pos,aft,none⟩) (he:bB G n op E w K) (h:∀v w',K v w'→cJ ops Q n f (listed.setIfInBounds i true) E w'):cJ ops Q n (f+1) listed E w:=⟨fun a ha=>by
 refine wpAny_all hr Hc (fun j hj=>?_)
 rw[List.mem_singleton]at hj;subst hj
 unfold wpOp
 rw[hi]
 have hw:Region.wanted ⟨none,op,ty,pos,aft,none⟩ (yielded ops a.tmps)=true:=by simp[Region.wanted]
 show(if Region.wanted _ _ then _ else _)
 rw[if_pos hw]
 exact .inl (wc (bZ (he.h a ha _ _ _ _ _) (fun v w' hk=>(h v w' hk).h a ha)))⟩
theorem cJ.yS (i:Nat) (hr:Region.ready .any ops listed=[i]) (hi:ops[i]?=some ⟨some d,op,ty,pos,aft,none⟩) (hd:Nat.blt d n=true) (hy:Yl G n op E (fun w'=>w'=w) v) (h:cJ ops Q n f (listed.setIfInBounds i true) ((d,v)::E) w):cJ ops Q n (f+1) listed E w:=
 cJ.one (K:=fun v' w'=>v'=v∧w'=w) i hr hi hd ⟨fun a ha d ty pos aft gd=>by rw[hy.h w rfl a ha d ty pos aft gd];exact⟨rfl,rfl⟩⟩ (by rintro _ _ ⟨rfl,rfl⟩;exact h)
end
def gX (l:List Int) (i:Int) (op:Int):List Int:=
 let l1:=if dE op then l++[i]else l
 if op=11∧0<l1.length then l1.dropLast else l1
def au (xs:List bP):Nat→List Int
 |0=>[-1]
 |k+1=>gX (au xs k) k (ix xs k).op
theorem xH (l:List Int) (i op:Int):(gX l i op).length≤l.length+1:=by
 unfold gX
 dsimp only
 split<;>split<;>simp<;>omega
theorem vh (xs:List bP) (k:Nat):(au xs k).length≤k+1:=by
 induction k with
 |zero=>simp[au]
 |succ k ih=>have:=xH (au xs k) k (ix xs k).op;simp only[au];omega
def eV (l:List Int):Int:=ix l (l.length - 1)
theorem xI {l:List Int} {i op a:Int} (h:a∈gX l i op):a∈l∨a=i:=by
 have h1:a∈(if dE op then l++[i]else l):=by
  unfold gX at h
  dsimp only at h
  by_cases hc:op=11∧0<(if dE op then l++[i]else l).length
  ·rw[if_pos hc]at h;exact(List.dropLast_sublist _).subset h
  ·rw[if_neg hc]at h;exact h
 split at h1
 ·simpa using h1
 ·exact .inl h1
theorem pA {xs:List bP} {k:Nat} {a:Int} (h:a∈au xs k):-1≤a∧a<k:=by
 induction k with
 |zero=>simp[au]at h;omega
 |succ k ih=>
  rcases xI h with h|h
  ·have:=ih h;omega
  ·omega
theorem xc {l:List Int} (h:0<l.length):eV l∈l:=by
 unfold eV;rw[cw Hb];exact List.getElem_mem _
theorem CL {xs:List bP} {k:Nat} (h:0<(au xs k).length):-1≤eV (au xs k)∧eV (au xs k)<k:=pA (xc h)
def ir (xs:List bP) (h:Nat) (i:Nat):Bool:=decide (h<i∧(ix xs i).op=5∧0<(au xs i).length∧eV (au xs i)=h)
def fL (xs:List bP) (h at_:Nat):Bool:=(List.range at_).any (ir xs h)
theorem rO {xs:List bP} {h at_:Nat} (hn:∀i,i<at_→ir xs h i=false):fL xs h at_=false:=by
 unfold fL
 rw[List.any_eq_false]
 intro i hi
 rw[hn i (List.mem_range.1 hi)];simp
theorem tw {xs:List bP} {h at_ i:Nat} (hi:i<at_) (hn:ir xs h i=true):fL xs h at_=true:=by
 unfold fL
 rw[List.any_eq_true]
 exact⟨i,List.mem_range.2 hi,hn⟩
def ez (xs:List bP) (i:Nat):Option (Int×Int):=
 let l:=au xs i
 let h:=eV l
 if l.length=0 then some (i,16)
 else if(ix xs i).op=5∧(h<0∨(ix xs h.toNat).op≠4∨fL xs h.toNat i=true)then some (i,16)
 else if dE (ix xs i).op=true∧32≤l.length then some (i,6)
 else none
def cm (xs:List bP):Nat→Nat→Int×Int
 |0,i=>if 0<(au xs i).length then(i,3)else(0,0)
 |f+1,i=>match ez xs i with
  |some r=>r
  |none=>cm xs f (i+1)
def du (xs:List bP):Int×Int:=cm xs xs.length 0
def dv (xs:List bP):Nat→List Int
 |0=>List.replicate xs.length (-1)
 |k+1=>if(ix xs k).op=11∧0≤eV (au xs k)then(dv xs k).set (eV (au xs k)).toNat k else dv xs k
def dS (xs:List bP):Nat→List Int
 |0=>List.replicate xs.length (-1)
 |k+1=>if(ix xs k).op=5 then(dS xs k).set (eV (au xs k)).toNat k else dS xs k
theorem uK (xs:List bP) (k:Nat):(dv xs k).length=xs.length:=by
 induction k with
 |zero=>simp[dv]
 |succ k ih=>simp only[dv];split<;>simp[ih]
theorem tx (xs:List bP) (k:Nat):(dS xs k).length=xs.length:=by
 induction k with
 |zero=>simp[dS]
 |succ k ih=>simp only[dS];split<;>simp[ih]
def vO (xs:List bP):List Int:=dv xs xs.length
def rQ (xs:List bP):List Int:=dS xs xs.length
def AJ (xs:List bP) (a:Nat) (l:Int):Option Int:=
 let r:=au xs a
 if l<0∨(r.length:Int)≤l then none
 else
  let h:=ix r (r.length - 1 - l.toNat)
  if h<0 then some ((xs.length:Int) - 1)
  else if(ix xs h.toNat).op=3 then some (h+1)
  else some (ix (vO xs) h.toNat)
theorem sr (xs:List bP) (k:Nat):(au xs k).Pairwise (·< ·):=by
 induction k with
 |zero=>simp[au]
 |succ k ih=>
  have h1:∀l:List Int,l=au xs k→((if dE (ix xs k).op then l++[(k:Int)]else l):List Int).Pairwise (·< ·):=by
   rintro l rfl
   split
   ·rw[List.pairwise_append]
    refine⟨ih,by simp,fun a ha b hb=>?_⟩
    simp at hb;subst hb;exact(pA ha).2
   ·exact ih
  have h2:∀l:List Int,l.Pairwise (·< ·)→(if(ix xs k).op=11∧0<l.length then l.dropLast else l).Pairwise (·< ·):=by
   intro l hl
   split
   ·exact hl.sublist (List.dropLast_sublist _)
   ·exact hl
  exact h2 _ (h1 _ rfl)
theorem xz {xs:List bP} {k i j:Nat} (hi:i<(au xs k).length) (hj:j<(au xs k).length) (h:ix (au xs k) i=ix (au xs k) j):i=j:=by
 rw[cw hi,cw hj]at h
 have hs:=sr xs k
 rw[List.pairwise_iff_getElem]at hs
 rcases Nat.lt_trichotomy i j with h1|h1|h1
 ·have:=hs i j hi hj h1;omega
 ·exact h1
 ·have:=hs j i hj hi h1;omega
theorem nC (xs:List bP) (h i:Nat):fL xs h (i+1)=(fL xs h i || ir xs h i):=by
 unfold fL;rw[List.range_succ,List.any_append];simp
def ja (xs:List bP) (a:Int) (i:Nat):Bool:=decide (0≤a) && fL xs a.toNat i
theorem kK {xs:List bP} {a:Int} {i:Nat} (h:(ix xs i).op≠5):ja xs a (i+1)=ja xs a i:=by
 unfold ja;rw[nC]
 have:ir xs a.toNat i=false:=by simp[ir,h]
 rw[this,Bool.or_false]
theorem wT {xs:List bP} {i:Nat}:ja xs (i:Int) (i+1)=false:=by
 unfold ja
 rw[rO (fun j hj=>by simp only[ir,decide_eq_false_iff_not,Int.toNat_natCast];omega)]
 simp
theorem uN {xs:List bP} {i h:Nat} (h5:(ix xs i).op=5) (hz:0<(au xs i).length) (hl:eV (au xs i)=h) (hi:h<i):ja xs (h:Int) (i+1)=true:=by
 unfold ja
 rw[tw (i:=i) Hb (by simp[ir,h5,hz,hl,hi])]
 simp
theorem oN {xs:List bP} {i:Nat} {a:Int} (hl:eV (au xs i)≠a):ja xs a (i+1)=ja xs a i:=by
 unfold ja
 by_cases h0:0≤a
 ·rw[nC]
  have:ir xs a.toNat i=false:=by
   simp only[ir,decide_eq_false_iff_not]
   rintro⟨_,_,_,h⟩
   rw[Int.toNat_of_nonneg h0]at h;exact hl h
  rw[this,Bool.or_false]
 ·simp[h0]
theorem me {xs:List bP} {i:Nat} (h:dE (ix xs i).op=true):au xs (i+1)=au xs i++[(i:Int)]:=by
 have h11:(ix xs i).op≠11:=by simp[dE]at h;omega
 show gX _ _ _=_
 unfold gX;simp[h,h11]
theorem nm {xs:List bP} {i:Nat} (h:(ix xs i).op=11) (hz:0<(au xs i).length):au xs (i+1)=(au xs i).dropLast:=by
 show gX _ _ _=_
 unfold gX;simp[h,dE]
 intro h0;simp[h0]at hz
theorem gO {xs:List bP} {i:Nat} (h:dE (ix xs i).op=false) (h11:(ix xs i).op≠11):au xs (i+1)=au xs i:=by
 show gX _ _ _=_
 unfold gX;simp[h,h11]
theorem tP {xs:List bP}:∀(i:Nat),(∀j,j<i→ez xs j=none)→(au xs i).length≤32
 |0,_=>by simp[au]
 |i+1,h=>by
  have ih:=tP i (fun j hj=>h j Hb)
  have hc:=h i Hb
  cases ho:dE (ix xs i).op with
  |true=>
   rw[me ho,List.length_append]
   unfold ez at hc
   dsimp only at hc
   split at hc
   ·cases hc
   ·split at hc
    ·cases hc
    ·split at hc
     ·cases hc
     ·rename_i h32;simp only[ho,true_and]at h32;simp;omega
  |false=>
   by_cases h11:(ix xs i).op=11
   ·by_cases hz:0<(au xs i).length
    ·rw[nm h11 hz];simp;omega
    ·have:au xs (i+1)=au xs i:=by
      show gX _ _ _=_
      unfold gX;simp[ho];intro _ h;simp[h]at hz
     rw[this];exact ih
   ·rw[gO ho h11];exact ih
def fE (xs:List bP):Nat→List Int
 |0=>List.replicate xs.length (-1)
 |k+1=>(fE xs k).set k (au xs k).length
def gD (xs:List bP):Nat→List Int
 |0=>List.replicate xs.length (-1)
 |k+1=>(gD xs k).set k (eV (au xs k))
theorem rN (xs:List bP) (k:Nat):(fE xs k).length=xs.length:=by induction k with
 |zero=>simp[fE]
 |succ k ih=>simp[fE,ih]
theorem tD (xs:List bP) (k:Nat):(gD xs k).length=xs.length:=by induction k with
 |zero=>simp[gD]
 |succ k ih=>simp[gD,ih]
def zZ (xs:List bP):List Int:=fE xs xs.length
def BJ (xs:List bP):List Int:=gD xs xs.length
theorem Fin.mU {fn:Func} {R:Ending→World→Prop} {n:Nat} {E:Env} {w:World} {a T t u b Tb s:Nat} {ti:TI} {v x:Value} {cs:List Value} (hr:fn.results=#[.cell a T,.tmp t,.tmp u]) (ha:lk E a=some (.pointer (some ⟨b,0,none⟩))) (hT:G.ty T=some ti) (hag:ti.agg=true) (hsz:ti.size=s) (hb:dZ w b cs Tb) (hl:cs.length=s)
  (hv:lk E t=some v) (hx:lk E u=some x) (hR:R (.returned (.tuple #[.agg cs.toArray,v,x])) w):Fin (bodyPost G.P fn R) n .ret E w:=
 Fin.nG (.inl rfl) (fun ac hac=>by
  have h1:=(G.eZ T ti hT).agg w
  have h2:=(G.eZ T ti hT).size w
  rw[hag]at h1
  subst hl
  have h3:=run_loadCells (P:=G.P) (w:=w) (bk:=b) cs 0 0 #[] (fun j hj=>by
   have:=hb.cell (j:=j) (List.getElem?_eq_getElem hj)
   rw[List.getElem?_eq_getElem hj,←this];simp)
  have g1:ac.tmps[a]?.getD undef=.pointer (some ⟨b,0,none⟩):=by have:=(hac.eq a _ ha).2;simpa using this
  have g2:ac.tmps[t]?.getD undef=v:=by have:=(hac.eq t _ hv).2;simpa using this
  have g3:ac.tmps[u]?.getD undef=x:=by have:=(hac.eq u _ hx).2;simpa using this
  simp[results,hr,g1,g2,g3,asAddr,loadVar,h1,h2,hsz,loadCells,h3]) hR
def Co {α:Type} (g:Nat) (lb:List Value) (encs:α→List Value) (Kp:World→World→Prop) (full:List α) (w:World):Prop:=
 ∀(l:Nat) (J Jx:List α→World→Prop) (W:World),Below w.heap.size w W→OwnFrom W.heap.size J→OwnFrom W.heap.size Jx→
  (∀pre x W1,J pre W1→pre++[x]<+:full→YieldAt (FW none) 0 G.P l (encs x).toArray W1 fun e W'=>
   (e=.returned (.bool true)∧J (pre++[x]) W'∧Kp W1 W')∨(e=.returned (.bool false)∧Jx (pre++[x]) W'∧Kp W1 W'))→
  J [] W→Calls G.P g (Value.func (.yield l) #[] #[]::lb).toArray W fun e W'=>(∃v,e=.returned v)∧(J full W'∨(∃pre,pre<+:full∧Jx pre W'))
structure sO (ps:Array Tmp) (B:Nat) (W W':World):Prop where
 size:W.heap.size≤W'.heap.size
 same:∀(k:Nat) (o:Obj),B≤k→W.heap[k]?=some o→((∃d,o=.deferred d)∨∃r,o=.loop r∧r.params=ps)→W'.heap[k]?=some o
def Cn {α:Type} (ps:Array Tmp) (B:Nat) (Kp:World→World→Prop) (I:List α→World→Prop) (Ix:Code→List α→World→Prop) (xs:List α) (W:World):Exit→Act→World→Prop
 |.normal,_,W'=>sO ps B W W'∧Kp W W'∧I xs W'
 |.ret,_,W'=>sO ps B W W'∧Kp W W'∧Ix .ret xs W'
 |.exit id,_,W'=>sO ps B W W'∧Kp W W'∧Ix (.exit id) xs W'
 |_,_,_=>False
section
variable {m:Nat} {D:List Deferred} {Q:Exit→Act→World→Prop} {n:Nat} {E:Env} {w:World}
theorem gP.BY {α:Type} {g:Operand} {ps:List Nat} {assign body:Code} {gf:Nat} {lb:List Value} (hg:ev E g=some (.func (.func gf) #[] lb.toArray)) (hf:G.fb[gf]?=some true)
  {encs:α→List Value} {Kp:World→World→Prop} {full:List α} (hseq:Co gf lb encs Kp full w)
  (hKt:∀{A B C:World},Kp A B→Kp B C→Kp A C) (hKb:∀(W:World) (l:Nat) (r r':Loop),w.heap.size≤l→W.heap[l]?=some (.loop r)→r.params=ps.toArray→Kp W (W.putObj l (.loop r'))) (hps:∀x,(encs x).length=ps.length) (hpn:(ps.all fun p=>Nat.blt p n)=true)
  (I:List α→World→Prop) (Ix:Code→List α→World→Prop) (hI:OwnFrom w.heap.size I) (hIx:∀c,OwnFrom w.heap.size (Ix c)) (h0:I [] w) (E1:α→Env)
  (hassign:∀(l:Nat) (x:α) (W:World) (K:Act→World→Prop),(∀a,oC n [] a (E1 x)→K a W)→gP (some l) 0 [] (Exit.then K (fun _ _ _=>False)) n assign (zg (ps.zip (encs x)) E) W)
  (hbody:∀(l:Nat) (pre:List α) (x:α) (W:World),I pre W→pre++[x]<+:full→gP (some l) 0 [] (Cn ps.toArray w.heap.size Kp I Ix (pre++[x]) W) n body (E1 x) W)
  (hdone:∀(Dn:Nat) (W:World),w.heap.size≤Dn→I full W→W.heap[Dn]?=some (.deferred (some []))→dt ({target:=.collected Dn,args:=#[]}::D) Q n .normal E W)
  (hstop:∀(Dn:Nat) (c:Code) (pre:List α) (W:World),w.heap.size≤Dn→pre<+:full→Ix c pre W→W.heap[Dn]?=some (.deferred (some []))→gP none m ({target:=.collected Dn,args:=#[]}::D) Q n c E W):
  gP none m D Q n (.rangeFunc g ps.toArray assign body) E w:=⟨fun a ha=>by
 refine wpIn_rangeFunc ?_
 intro fn _
 rw[show(FW none).round=none from rfl]
 obtain⟨lr,hlr⟩:∃lr:LoopState→Option Code→Loop,lr=fun st pe=>{state:=st,pending:=pe,fn,tmps:=a.tmps,params:=ps.toArray,assign,body,defers:=w.heap.size}:=⟨_,rfl⟩
 have hp:∀st pe,(lr st pe).params=ps.toArray:=fun st pe=>by rw[hlr]
 obtain⟨W1,hW1⟩:∃W1,(w.alloc (.deferred (some []))).alloc (.loop (lr .ready none))=W1:=⟨_,rfl⟩
 have hs1:W1.heap.size=w.heap.size+2:=by rw[←hW1];simp
 have hL1:W1.heap[w.heap.size+1]?=some (.loop (lr .ready none)):=by
  rw[←hW1];have:=heap_alloc_new (w.alloc (.deferred (some []))) (.loop (lr .ready none));simpa using this
 have hK1:W1.heap[w.heap.size]?=some (.deferred (some [])):=by
  rw[←hW1];exact(Below.heap_alloc _ _ _ Hc).trans (heap_alloc_new w _)
 have hI1:I [] W1:=by rw[←hW1];exact hI.alloc _ (hI.alloc _ h0)
 have hb1:Below w.heap.size w W1:=by
  rw[←hW1];exact((Below.refl _ w).alloc (Nat.le_refl _) _).alloc Hc _
 refine⟨w.heap.size+1,[{target:=.collected w.heap.size,args:=#[]}],W1,{target:=.fn (.func gf) lb.toArray,args:=#[.func (.yield (w.heap.size+1)) #[] #[]]},W1,gf,
  (Value.func (.yield (w.heap.size+1)) #[] #[]::lb).toArray,W1,?_,?_,fun _ _=>trivial,?_,fun e=>(by cases e),?_⟩
 ·rw[←hW1,hlr];exact run_enterLoop_outer _ _ _ _ _
 ·simp only[resolve,ha.eval hg]
  simp[go_sem]
 ·simp[invoke,go_sem,G.wN gf hf]
 refine callsIn_wide.2 ((hseq (w.heap.size+1)
   (fun pre W=>I pre W∧W.heap[w.heap.size+1]?=some (.loop (lr .ready none))∧W.heap[w.heap.size]?=some (.deferred (some [])))
   (fun pre W=>∃c,Ix c pre W∧W.heap[w.heap.size+1]?=some (.loop (lr .done (some c)))∧W.heap[w.heap.size]?=some (.deferred (some [])))
   W1 hb1 ?_ ?_ ?_ ⟨hI1,hL1,hK1⟩).mono ?_)
 ·rintro s A B row ⟨h1,h2,h3⟩ hg' hr
  refine⟨hI s A B row h1 hg' fun r e=>⟨by have:=(hr r e).1;omega,(hr r e).2⟩,?_,?_⟩
  ·rw[hg'.block _ (Array.getElem?_eq_some_iff.1 h2).1 (fun e=>by have:=(hr _ e.symm).1;omega)];exact h2
  ·rw[hg'.block _ (Array.getElem?_eq_some_iff.1 h3).1 (fun e=>by have:=(hr _ e.symm).1;omega)];exact h3
 ·rintro s A B row ⟨c,h1,h2,h3⟩ hg' hr
  refine⟨c,hIx c s A B row h1 hg' fun r e=>⟨by have:=(hr r e).1;omega,(hr r e).2⟩,?_,?_⟩
  ·rw[hg'.block _ (Array.getElem?_eq_some_iff.1 h2).1 (fun e=>by have:=(hr _ e.symm).1;omega)];exact h2
  ·rw[hg'.block _ (Array.getElem?_eq_some_iff.1 h3).1 (fun e=>by have:=(hr _ e.symm).1;omega)];exact h3
 ·rintro pre x W ⟨hi,hl,hk⟩ hlen
  have hlt:w.heap.size+1<W.heap.size:=(Array.getElem?_eq_some_iff.1 hl).1
  have hy:=run_yield (P:=G.P) (args:=(encs x).toArray) hl (by rw[hp];simpa using hps x)
  have e:(ps.toArray.zip (encs x).toArray).foldl (fun t (p,v)=>t.setIfInBounds p v) a.tmps=(ps.zip (encs x)).foldl (fun t pv=>t.setIfInBounds pv.1 pv.2) a.tmps:=by
   rw[←Array.foldl_toList];simp
  have hst:(lr .ready none).state=.ready:=by rw[hlr]
  refine⟨(lr .ready none).fn,_,(lr .ready none).assign,(lr .ready none).body,hy,roundIn_of_wpIn trivial ?_⟩
  have hnew:(lr .ready none).assign=assign∧(lr .ready none).body=body∧(lr .ready none).tmps=a.tmps:=by rw[hlr];exact⟨rfl,rfl,rfl⟩
  rw[hnew.1,hnew.2.1,hnew.2.2,hp,e]
  refine(hassign (w.heap.size+1) x W _ (fun a' ha'=>?_)).h _ ⟨rr _ ⟨ha.ag.sz,rfl,ha.ag.eq⟩ (fun pv hpv=>?_),rfl⟩
  ·refine⟨_,run_beginRound hl hst,?_⟩
   have hl2:(W.putObj (w.heap.size+1) (.loop {lr .ready none with state:=.busy})).heap[w.heap.size+1]?=some (.loop {lr .ready none with state:=.busy}):=World.putObj_heap_same hlt
   have hk2:(W.putObj (w.heap.size+1) (.loop {lr .ready none with state:=.busy})).heap[w.heap.size]?=some (.deferred (some [])):=(World.putObj_heap_other Hb).trans hk
   have hw2:Kp W (W.putObj (w.heap.size+1) (.loop {lr .ready none with state:=.busy})):=hKb _ _ _ _ Hb hl (hp _ _)
   refine wpIn_mono ((hbody (w.heap.size+1) pre x _ (hI.putObj _ hi Hb hl rfl) hlen).h a' ha') ?_
   have fin:∀(jump:Option Code) (W3:World),sO ps.toArray w.heap.size (W.putObj (w.heap.size+1) (.loop {lr .ready none with state:=.busy})) W3→
     (Instr.endRound (w.heap.size+1) jump).run G.P W3=.ok (.bool jump.isNone) (W3.putObj (w.heap.size+1) (.loop (lr (if jump.isNone then .ready else .done) jump)))∧
     W3.heap[w.heap.size+1]?=some (.loop {lr .ready none with state:=.busy})∧
     (W3.putObj (w.heap.size+1) (.loop (lr (if jump.isNone then .ready else .done) jump))).heap[w.heap.size+1]?=some (.loop (lr (if jump.isNone then .ready else .done) jump))∧
     (W3.putObj (w.heap.size+1) (.loop (lr (if jump.isNone then .ready else .done) jump))).heap[w.heap.size]?=some (.deferred (some [])):=fun jump W3 hk3=>by
    have hl3:=hk3.same _ _ Hb hl2 (.inr ⟨_,rfl,hp _ _⟩)
    have hr3:=run_endRound (P:=G.P) jump hl3
    refine⟨?_,hl3,World.putObj_heap_same (Array.getElem?_eq_some_iff.1 hl3).1,(World.putObj_heap_other Hb).trans (hk3.same _ _ (Nat.le_refl _) hk2 (.inl ⟨_,rfl⟩))⟩
    rw[hlr]at hr3 ⊢;exact hr3
   rintro e3 a3 W3 hpx
   cases e3 with
   |normal=>
    obtain⟨hk3,hkp3,hi3⟩:=hpx
    obtain⟨hr,hl3,hl4,hk4⟩:=fin none W3 hk3
    exact⟨_,_,hr,.inl ⟨rfl,⟨hI.putObj _ hi3 Hb hl3 rfl,hl4,hk4⟩,hKt (hKt hw2 hkp3) (hKb _ _ _ _ Hb hl3 (hp _ _))⟩⟩
   |ret=>
    obtain⟨hk3,hkp3,hi3⟩:=hpx
    obtain⟨hr,hl3,hl4,hk4⟩:=fin (some .ret) W3 hk3
    exact⟨_,_,hr,.inr ⟨rfl,⟨.ret,(hIx _).putObj _ hi3 Hb hl3 rfl,hl4,hk4⟩,hKt (hKt hw2 hkp3) (hKb _ _ _ _ Hb hl3 (hp _ _))⟩⟩
   |exit id=>
    obtain⟨hk3,hkp3,hi3⟩:=hpx
    obtain⟨hr,hl3,hl4,hk4⟩:=fin (some (.exit id)) W3 hk3
    exact⟨_,_,hr,.inr ⟨rfl,⟨.exit id,(hIx _).putObj _ hi3 Hb hl3 rfl,hl4,hk4⟩,hKt (hKt hw2 hkp3) (hKb _ _ _ _ Hb hl3 (hp _ _))⟩⟩
   |goto t=>exact hpx.elim
   |panic ch=>exact hpx.elim
   |outgrown=>exact hpx.elim
  ·have:=List.all_eq_true.1 hpn pv.1 (List.of_mem_zip (show(pv.1,pv.2)∈_ from hpv)).1
   simpa using this
 ·rintro e W2 ⟨⟨v,rfl⟩,(⟨hi,hl,hk⟩|⟨pre,hSp,c,hi,hl,hk⟩)⟩
  ·refine⟨none,_,by have:=run_endLoop (P:=G.P) hl (by rw[hlr];simp);rw[hlr]at this;exact this,?_⟩
   exact(hdone _ _ (Nat.le_refl _) (hI.putObj _ hi Hb hl rfl) ((World.putObj_heap_other Hb).trans hk)).h _ ⟨⟨ha.ag.sz,rfl,ha.ag.eq⟩,by simp[ha.df]⟩
  ·refine⟨some c,_,by have:=run_endLoop (P:=G.P) hl (by rw[hlr];simp);rw[hlr]at this;exact this,?_⟩
   exact(hstop _ c pre _ (Nat.le_refl _) hSp ((hIx c).putObj _ hi Hb hl rfl) ((World.putObj_heap_other Hb).trans hk)).h _ ⟨⟨ha.ag.sz,rfl,ha.ag.eq⟩,by simp[ha.df]⟩⟩
end
end Go.Proofs.YtceedealggognaaGreatDoor
