/- More rules of the walk: structs written out, texts, results that lie in memory; the walker over them. -/
import Derived.Test.YtdkcljdfbemnbaaGreatDoorJBt
import Derived.Test.YtdkcljdfbemnbaaGreatDoorJF2
import Derived.RangeFuncNested
import Derived.RangeFuncBound
import Derived.RangeFuncCalls
import Derived.RangeFuncLeaves
import Derived.RangeFuncFrom
namespace Go.Proofs.YtdkcljdfbemnbaaGreatDoor
open Go.RowKit _root_.Go.Proofs.Tryz
open Nat renaming beq→PC,ble→PF,blt→Pn,le_of_ble_eq_true→PQ
section
variable {n:Nat} {E:Env} {C:World→Prop} {x y z:Operand} {t t2:TypeId} {v:Value} {w:World} {ops:Array Oper} {M:Mode} {rest:List Oper} {d:Nat} {ty:TypeId} {pos:String} {aft:Array Edge}
def Dy:List Value→Nat→List Value→List Value
 |cs,_,[]=>cs
 |cs,o,c::r=>Dy (cs.set o c) (o+1) r
def nG (pl:List (Nat×Nat)):List Value→List (Nat×Value)→Option (List Value)
 |cs,[]=>some cs
 |cs,(i,v)::r=>
  match pl[i]? with
  |none=>none
  |some (off,size)=>bif (PC v.cells.toList.length size && PF (off+v.cells.toList.length) cs.length)then nG pl (Dy cs off v.cells.toList) r else none
theorem yh:∀(l:List Value) (cs:List Value) (o k:Nat),(Dy cs (o+k) l).toArray=(l.zipIdx k).foldl (fun a p=>a.setIfInBounds (o+p.2) p.1) cs.toArray
 |[],cs,o,k=>rfl
 |c::r,cs,o,k=>by
  rw[Dy,List.zipIdx_cons,List.foldl_cons,Nat.add_assoc,yh r _ o (k+1)]
  simp
theorem Cy {pl:List (Nat×Nat)}:∀{parts:List (Nat×Value)} {cs c:List Value},nG pl cs parts=some c→Instr.fill (pl.toArray[·]?) cs.toArray parts=some c.toArray
 |[],cs,c,h=>by simp only[nG,Option.some.injEq]at h;subst h;rfl
 |(i,v)::r,cs,c,h=>by
  simp only[nG]at h
  unfold Instr.fill
  have e0:pl.toArray[i]?=pl[i]?:=by simp
  rw[e0]
  cases hp:pl[i]? with
  |none=>simp[hp]at h
  |some p=>
   obtain⟨off,size⟩:=p
   rw[hp]at h
   dsimp only at h ⊢
   cases hb:(PC v.cells.toList.length size && PF (off+v.cells.toList.length) cs.length)with
   |false=>rw[hb]at h;cases h
   |true=>
    rw[hb]at h
    simp only[Bool.and_eq_true]at hb
    have h1:=Nat.eq_of_beq_eq_true hb.1
    have h2:=PQ hb.2
    have e1:v.cells.size=size:=by simpa using h1
    have e2:¬off+v.cells.size>cs.toArray.size:=by simpa using h2
    rw[if_neg (by simp[e1];rw[e1]at e2;simpa using e2)]
    have h3:=Cy h
    rw[←h3]
    congr 1
    have:=yh v.cells.toList cs off 0
    rw[Nat.add_zero]at this
    rw[this,←Array.foldl_toList,Array.toList_zipIdx]
theorem Yl.gD {s bt:Nat} {el:Option Nat} {os:List Nat} {zs:List Value} {ik:Option IntKind} {parts:List (Nat×Operand)} {vs:List Value} (ht:G.ty t=some ⟨s,bt,true,el,os,.agg zs.toArray,ik⟩) (ho:os.isEmpty=false) (hv:kI E (parts.map (·.2))=some vs) (hf:(nG (qJ os s) zs ((parts.map (·.1)).zip vs)).isSome=true):
  Yl G n (.build t parts.toArray) E C (.agg ((nG (qJ os s) zs ((parts.map (·.1)).zip vs)).getD []).toArray):=by
 refine Yl.build hv (fun w=>?_)
 rw[HP t _ ht rfl (by simpa using ho)]
 refine Gt ?_ _ _
 obtain⟨c,hc⟩:=Option.isSome_iff_exists.1 hf
 rw[hc]
 have:=Cy hc
 simpa[Value.cells]using this
theorem Yl.B8 {bo:BinOp} {a b:ByteArray} (hx:ev E x=some (.string a)) (hy:ev E y=some (.string b)) (hr:∀w,(Op.stringOp bo a b).run G.P w=.ok v w):Yl G n (.binOp bo t x y t2) E C v:=
 ⟨fun w _ ac ha d ty pos aft gd=>by
  have hg:∀p q:Operand,(eqGuard bo t p q (.string a) (.string b)).run G.P w=.ok () w:=by
   intro p q;unfold eqGuard;split<;>simp
  simp[execOp,ha.eval hx,ha.eval hy,hg,binOp,hr]⟩
theorem Yl.xe {a b:ByteArray} (hx:ev E x=some (.string a)) (hy:ev E y=some (.string b)):Yl G n (.binOp .eql t x y t2) E C (.bool (a.data.toList==b.data.toList)):=Yl.B8 hx hy (fun w=>by simp[Op.stringOp,ByteArray.toList_eq])
theorem Yl.nO {a b:ByteArray} (hx:ev E x=some (.string a)) (hy:ev E y=some (.string b)):Yl G n (.binOp .neq t x y t2) E C (.bool (!(a.data.toList==b.data.toList))):=Yl.B8 hx hy (fun w=>by simp[Op.stringOp,ByteArray.toList_eq])
theorem Yl.nM {a b:ByteArray} (hx:ev E x=some (.string a)) (hy:ev E y=some (.string b)) (h:a.size+b.size≤9223372036854775807):Yl G n (.binOp .add t x y t2) E C (.string (a++b)):=Yl.B8 hx hy (fun w=>run_string_add_sum w a b h)
theorem Yl.nN {a:ByteArray} (ht:G.P.underlying t=some .string) (hx:ev E x=some (.string a)):Yl G n (.call ⟨.builtin .len,#[x],#[t]⟩) E C (.int .i64 a.size):=
 ⟨fun w _ ac ha d ty pos aft gd=>by simp[execOp,resolve,invoke,builtin,Builtin.len_,ha.eval hx,run_underlying ht,goInt]⟩
theorem Yl.ec {k:IntKind} {p:Int} {a:ByteArray} {i:Nat} (ht:G.P.underlying t=some .string) (hx:ev E x=some (.string a)) (hi:ev E y=some (.int k p)) (hp:p=(i:Int)) (hc:i≤a.size):Yl G n (.slice t x none (some y) none) E C (.string (a.extract 0 i)):=
 ⟨fun w _ ac ha d ty pos aft gd=>by subst hp;simp[execOp,ha.eval hx,ha.eval hi,Instr.sliceAt,Instr.slice,Instr.sliceBounds,Instr.sliceBound,asIntOf,run_underlying ht,hc]⟩
theorem Yl.dC {k:IntKind} {p:Int} {a:ByteArray} {i:Nat} (ht:G.P.underlying t=some .string) (hx:ev E x=some (.string a)) (hi:ev E y=some (.int k p)) (hp:p=(i:Int)) (hc:i≤a.size):Yl G n (.slice t x (some y) none none) E C (.string (a.extract i a.size)):=
 ⟨fun w _ ac ha d ty pos aft gd=>by subst hp;simp[execOp,ha.eval hx,ha.eval hi,Instr.sliceAt,Instr.slice,Instr.sliceBounds,Instr.sliceBound,asIntOf,run_underlying ht,hc]⟩
theorem Yl.eV {k k':IntKind} {p q:Int} {a:ByteArray} {i j:Nat} (ht:G.P.underlying t=some .string) (hx:ev E x=some (.string a)) (hi:ev E y=some (.int k p)) (hj:ev E z=some (.int k' q)) (hp:p=(i:Int)) (hq:q=(j:Int)) (hc:i≤j) (hc2:j≤a.size):Yl G n (.slice t x (some y) (some z) none) E C (.string (a.extract i j)):=
 ⟨fun w _ ac ha d ty pos aft gd=>by subst hp;subst hq;simp[execOp,ha.eval hx,ha.eval hi,ha.eval hj,Instr.sliceAt,Instr.slice,Instr.sliceBounds,Instr.sliceBound,asIntOf,run_underlying ht,hc,hc2]⟩
theorem Yl.quo {p q r:Int} (hx:ev E x=some (.int .i64 p)) (hy:ev E y=some (.int .i64 q)) (hr:∀w,(binOp .quo t (.int .i64 p) (.int .i64 q)).run G.P w=.ok (.int .i64 r) w):Yl G n (.binOp .quo t x y t2) E C (.int .i64 r):=Yl.bin hx hy hr
end
theorem cA {g g':Prop} (h:g') (hw:eI g'→g:=by(intro hk_;(repeat(first|(first|refine aq.y (Yl.move rfl) rfl ?_|refine aq.y (Yl.assign rfl) rfl ?_|(refine aq.is ?_;(first|(refine aq.CC ?_;(first|refine aq.gs rfl rfl rfl ?_|refine aq.gu rfl rfl ?_|refine aq.yg rfl (Yl.move rfl) rfl ?_|refine aq.yg rfl (Yl.assign rfl) rfl ?_|(refine aq.aG ?_;(first|(refine aq.aG (bo:=.lss) ?_;(first|refine aq.yg rfl (Yl.lH rfl rfl Pc) rfl ?_|refine aq.yg rfl (Yl.lG rfl rfl Pc) rfl ?_))|(refine aq.aG (bo:=.eql) ?_;(first|refine aq.yg rfl (Yl.ly rfl rfl Pc) rfl ?_|refine aq.yg rfl (Yl.lx rfl rfl Pc) rfl ?_))|(refine aq.aG (bo:=.neq) ?_;(first|refine aq.yg rfl (Yl.lK rfl rfl Pc) rfl ?_|refine aq.yg rfl (Yl.lJ rfl rfl Pc) rfl ?_))|(refine aq.aG (bo:=.leq) ?_;(first|refine aq.yg rfl (Yl.lF rfl rfl Pc) rfl ?_|refine aq.yg rfl (Yl.lE rfl rfl Pc) rfl ?_))|(refine aq.aG (bo:=.gtr) ?_;(first|refine aq.yg rfl (Yl.lC rfl rfl Pc) rfl ?_|refine aq.yg rfl (Yl.lB rfl rfl Pc) rfl ?_))|(refine aq.aG (bo:=.geq) ?_;(first|refine aq.yg rfl (Yl.lA rfl rfl Pc) rfl ?_|refine aq.yg rfl (Yl.lz rfl rfl Pc) rfl ?_))|refine aq.yg rfl (Yl.add rfl rfl Pc) rfl ?_|refine aq.yg rfl (Yl.sub rfl rfl Pc) rfl ?_|refine aq.yg rfl (Yl.jh rfl rfl rfl rfl) rfl ?_|refine aq.yg rfl (Yl.mn Tryz.underlying4 rfl rfl) rfl ?_|fail))|(refine aq.isField ?_;(first|refine aq.yg rfl (Yl.gG rfl rfl rfl) rfl ?_|refine aq.yg rfl (Yl.field rfl rfl rfl) rfl ?_))|(refine aq.dn ?_;(first|refine aq.yg rfl (Yl.load rfl rfl rfl OK) rfl ?_|refine aq.yg rfl (Yl.load rfl rfl rfl (rZ eG)) rfl ?_|refine aq.yg rfl (Yl.load rfl rfl rfl eG) rfl ?_))|(refine aq.eM ?_;(first|refine aq.yg rfl (Yl.gn rfl rfl rfl rfl rfl rfl Pc) rfl ?_|refine aq.yg rfl (Yl.idx rfl rfl rfl rfl rfl rfl Pc) rfl ?_))|refine aq.yg rfl (Yl.len rfl rfl rfl) rfl ?_|refine aq.yg rfl (Yl.extract rfl rfl) rfl ?_|refine aq.yg rfl (Yl.fR rfl rfl) rfl ?_|refine aq.yg rfl (Yl.fQ rfl rfl) rfl ?_|refine aq.yg rfl (Yl.nilCheck rfl) rfl ?_|refine aq.yg rfl (Yl.not rfl) rfl ?_|refine aq.yg rfl (Yl.makeFunc rfl rfl) rfl ?_))|refine aq.nil ?_|refine aq.GX ?_|refine aq.DN ?_|(refine aq.aG ?_;(first|(refine aq.aG (bo:=.lss) ?_;(first|refine aq.y (Yl.lH rfl rfl Pc) rfl ?_|refine aq.y (Yl.lG rfl rfl Pc) rfl ?_))|(refine aq.aG (bo:=.eql) ?_;(first|refine aq.y (Yl.ly rfl rfl Pc) rfl ?_|refine aq.y (Yl.lx rfl rfl Pc) rfl ?_))|(refine aq.aG (bo:=.neq) ?_;(first|refine aq.y (Yl.lK rfl rfl Pc) rfl ?_|refine aq.y (Yl.lJ rfl rfl Pc) rfl ?_))|(refine aq.aG (bo:=.leq) ?_;(first|refine aq.y (Yl.lF rfl rfl Pc) rfl ?_|refine aq.y (Yl.lE rfl rfl Pc) rfl ?_))|(refine aq.aG (bo:=.gtr) ?_;(first|refine aq.y (Yl.lC rfl rfl Pc) rfl ?_|refine aq.y (Yl.lB rfl rfl Pc) rfl ?_))|(refine aq.aG (bo:=.geq) ?_;(first|refine aq.y (Yl.lA rfl rfl Pc) rfl ?_|refine aq.y (Yl.lz rfl rfl Pc) rfl ?_))|refine aq.y (Yl.add rfl rfl Pc) rfl ?_|refine aq.y (Yl.sub rfl rfl Pc) rfl ?_|refine aq.y (Yl.jh rfl rfl rfl rfl) rfl ?_|refine aq.y (Yl.mn Tryz.underlying4 rfl rfl) rfl ?_|fail))|(refine aq.isField ?_;(first|refine aq.y (Yl.gG rfl rfl rfl) rfl ?_|refine aq.y (Yl.field rfl rfl rfl) rfl ?_))|(refine aq.dn ?_;(first|refine aq.y (Yl.load rfl rfl rfl OK) rfl ?_|refine aq.y (Yl.load rfl rfl rfl (rZ eG)) rfl ?_|refine aq.y (Yl.load rfl rfl rfl eG) rfl ?_))|(refine aq.eM ?_;(first|refine aq.y (Yl.gn rfl rfl rfl rfl rfl rfl Pc) rfl ?_|refine aq.y (Yl.idx rfl rfl rfl rfl rfl rfl Pc) rfl ?_))|refine aq.y (Yl.len rfl rfl rfl) rfl ?_|refine aq.y (Yl.extract rfl rfl) rfl ?_|refine aq.y (Yl.fR rfl rfl) rfl ?_|refine aq.y (Yl.fQ rfl rfl) rfl ?_|refine aq.y (Yl.nilCheck rfl) rfl ?_|refine aq.y (Yl.not rfl) rfl ?_|refine aq.y (Yl.makeFunc rfl rfl) rfl ?_))|(refine Cd.is ?_;(first|refine Cd.seq ?_|refine Cd.region ?_|refine Cd.block ?_|refine Cd.jf rfl ?_|refine Cd.je rfl ?_|refine Cd.skip ?_|refine Cd.scope ?_|refine Cd.ret ?_|refine Cd.exit ?_|refine Cd.label ?_))|(refine Fin.is ?_;(first|refine Fin.lf ?_|refine Fin.pK ?_|refine Fin.lg ?_|refine Fin.pM ?_|refine Fin.lh ?_|refine Fin.J4 ?_|refine Fin.pN ?_|refine Fin.xQ rfl ?_)))|(refine aq.is ?_;(first|(refine aq.CC ?_;(first|(refine aq.aG ?_;(first|refine aq.yg rfl (Yl.xe rfl rfl) rfl ?_|refine aq.yg rfl (Yl.nO rfl rfl) rfl ?_|refine aq.yg rfl (Yl.nM rfl rfl Pc) rfl ?_))|refine aq.yg rfl (Yl.gD rfl rfl rfl rfl) rfl ?_|refine aq.yg rfl (Yl.ec Tryz.underlying9 rfl rfl rfl Pc) rfl ?_|refine aq.yg rfl (Yl.dC Tryz.underlying9 rfl rfl rfl Pc) rfl ?_|refine aq.yg rfl (Yl.eV Tryz.underlying9 rfl rfl rfl rfl rfl Pc Pc) rfl ?_|refine aq.yg rfl (Yl.cZ rfl rfl rfl rfl rfl rfl Pc) rfl ?_|refine aq.yg rfl (Yl.nN Tryz.underlying9 rfl) rfl ?_))|(refine aq.aG ?_;(first|refine aq.y (Yl.xe rfl rfl) rfl ?_|refine aq.y (Yl.nO rfl rfl) rfl ?_|refine aq.y (Yl.nM rfl rfl Pc) rfl ?_))|refine aq.y (Yl.gD rfl rfl rfl rfl) rfl ?_|refine aq.y (Yl.ec Tryz.underlying9 rfl rfl rfl Pc) rfl ?_|refine aq.y (Yl.dC Tryz.underlying9 rfl rfl rfl Pc) rfl ?_|refine aq.y (Yl.eV Tryz.underlying9 rfl rfl rfl rfl rfl Pc Pc) rfl ?_|refine aq.y (Yl.cZ rfl rfl rfl rfl rfl rfl Pc) rfl ?_|refine aq.y (Yl.nN Tryz.underlying9 rfl) rfl ?_))));exact hk_.out)):g:=hw ⟨h⟩
section
variable {fn:Func} {R:Ending→World→Prop} {n:Nat} {E:Env} {w:World} {a T t b Tb s:Nat} {ti:TI} {v:Value} {cs:List Value}
theorem rI (hT:G.ty T=some ti) (hag:ti.agg=true) (hsz:ti.size=s) (hb:gO w b cs Tb) (hl:cs.length=s):(loadVar T ⟨b,0,none⟩).run G.P w=.ok (.agg cs.toArray) w:=by
 have h1:=(G.iR T ti hT).agg w
 have h2:=(G.iR T ti hT).size w
 rw[hag]at h1
 subst hl
 have h3:=run_loadCells (P:=G.P) (w:=w) (bk:=b) cs 0 0 #[] (fun j hj=>by
  have:=hb.cell (j:=j) (List.getElem?_eq_getElem hj)
  rw[List.getElem?_eq_getElem hj,←this];simp)
 simp[loadVar,h1,h2,hsz,loadCells,h3]
theorem Fin.bB {e:Exit} (he:e=.ret∨e=.normal) (hr:fn.results=#[.cell a T]) (ha:lk E a=some (.pointer (some ⟨b,0,none⟩))) (hT:G.ty T=some ti) (hag:ti.agg=true) (hsz:ti.size=s) (hb:gO w b cs Tb) (hl:cs.length=s) (hR:R (.returned (.agg cs.toArray)) w):Fin (bodyPost G.P fn R) n e E w:=
 Fin.qG he (fun ac hac=>by
  have h3:=rI hT hag hsz hb hl
  have g1:ac.tmps[a]?.getD undef=.pointer (some ⟨b,0,none⟩):=by have:=(hac.eq a _ ha).2;simpa using this
  simp[results,hr,g1,asAddr,h3]) hR
theorem Fin.aM {e:Exit} (he:e=.ret∨e=.normal) (hr:fn.results=#[.cell a T,.tmp t]) (ha:lk E a=some (.pointer (some ⟨b,0,none⟩))) (hT:G.ty T=some ti) (hag:ti.agg=true) (hsz:ti.size=s) (hb:gO w b cs Tb) (hl:cs.length=s) (hv:lk E t=some v) (hR:R (.returned (.tuple #[.agg cs.toArray,v])) w):Fin (bodyPost G.P fn R) n e E w:=
 Fin.qG he (fun ac hac=>by
  have h3:=rI hT hag hsz hb hl
  have g1:ac.tmps[a]?.getD undef=.pointer (some ⟨b,0,none⟩):=by have:=(hac.eq a _ ha).2;simpa using this
  have g2:ac.tmps[t]?.getD undef=v:=by have:=(hac.eq t _ hv).2;simpa using this
  simp[results,hr,g1,g2,asAddr,h3]) hR
end
def FW (ro:Option Nat):Fence:={Fence.wide with round:=ro}
theorem qm {ro:Option Nat} {m:Nat} {f:FuncId} {args:Array Value} {w:World} {R:Ending→World→Prop} (h:Calls G.P f args w R):CallsIn (FW ro) m G.P f args w R:=by
 have h1:CallsIn Fence.wide m G.P f args w R:=callsIn_wide.2 h
 cases ro with
 |none=>exact h1
 |some l=>exact h1.inRound l
structure td (n:Nat) (D:List Deferred) (a:Act) (E:Env):Prop where
 ag:Ag n {a with defers:=[]} E
 df:a.defers=D
variable {Q:Exit→Act→World→Prop} {n:Nat} {D:List Deferred} {a:Act} {E:Env}
theorem td.of (h:Ag n a E):td n [] a E:=⟨⟨h.sz,rfl,h.eq⟩,h.df⟩
theorem td.Hg (h:td n [] a E):Ag n a E:=⟨h.ag.sz,h.df,h.ag.eq⟩
theorem zE (a:Act):({a with defers:=[]}:Act).eval=a.eval:=by funext x;cases x<;>rfl
theorem td.eval (h:td n D a E) {x:Operand} {v:Value} (hx:ev E x=some v):a.eval x=v:=by rw[←zE];exact h.ag.eval hx
theorem td.put (h:td n D a E) {d:Nat} (hd:d<n) (v:Value):td n D (a.put (some d) v) ((d,v)::E):=⟨h.ag.put hd v,by simp[Act.put,h.df]⟩
theorem td.sub {E E':Env} (h:td n D a E) (hs:Sub E E'):td n D a E':=⟨h.ag.sub hs,h.df⟩
structure eA (ro:Option Nat) (m:Nat) (D:List Deferred) (ops:Array Oper) (Q:Exit→Act→World→Prop) (n:Nat) (l:List Oper) (E:Env) (w:World):Prop where
 h:∀a,td n D a E→wpListIn (FW ro) m G.P ops Q l a w
structure kx (ro:Option Nat) (m:Nat) (D:List Deferred) (Q:Exit→Act→World→Prop) (n:Nat) (c:Code) (E:Env) (w:World):Prop where
 h:∀a,td n D a E→c.wpIn (FW ro) m G.P Q a w
structure fh (D:List Deferred) (Q:Exit→Act→World→Prop) (n:Nat) (e:Exit) (E:Env) (w:World):Prop where
 h:∀a,td n D a E→Q e a w
section
variable {ro:Option Nat} {m:Nat} {D:List Deferred} {Q:Exit→Act→World→Prop} {n:Nat} {E:Env} {w:World} {ops:Array Oper} {rest:List Oper} {op:Op} {d:Nat} {ty:TypeId} {pos:String} {aft:Array Edge} {v:Value} {K:Value→World→Prop}
theorem kx.seq {x y:Code} (h:kx ro m D (Exit.then (y.wpIn (FW ro) m G.P Q) Q) n x E w):kx ro m D Q n (.seq x y) E w:=⟨fun a ha=>wpIn_seq (h.h a ha)⟩
theorem kx.block {id:Nat} {c:Code} (h:kx ro m D (Exit.inBlock id Q) n c E w):kx ro m D Q n (.block id c) E w:=⟨fun a ha=>wpIn_block (h.h a ha)⟩
theorem kx.skip (h:fh D Q n .normal E w):kx ro m D Q n .skip E w:=⟨fun a ha=>wpIn_skip (h.h a ha)⟩
theorem kx.exit {id:Nat} (h:fh D Q n (.exit id) E w):kx ro m D Q n (.exit id) E w:=⟨fun a ha=>wpIn_exit (h.h a ha)⟩
theorem kx.ret (h:fh D Q n .ret E w):kx ro m D Q n .ret E w:=⟨fun a ha=>wpIn_ret (h.h a ha)⟩
theorem kx.region {id:Nat} {l:List Oper} (h:eA ro m D l.toArray Q n l E w):kx ro m D Q n (.region id l.toArray false) E w:=⟨fun a ha=>wpIn_region_lit (h.h a ha)⟩
theorem kx.jf {c:Operand} {x y:Code} (hc:ev E c=some (.bool true)) (h:kx ro m D Q n x E w):kx ro m D Q n (.cond c x y) E w:=⟨fun a ha=>wpIn_cond_true (ha.eval hc) (h.h a ha)⟩
theorem kx.je {c:Operand} {x y:Code} (hc:ev E c=some (.bool false)) (h:kx ro m D Q n y E w):kx ro m D Q n (.cond c x y) E w:=⟨fun a ha=>wpIn_cond_false (ha.eval hc) (h.h a ha)⟩
theorem fh.lf {y:Code} (h:kx ro m D Q n y E w):fh D (Exit.then (y.wpIn (FW ro) m G.P Q) Q) n .normal E w:=⟨fun a ha=>h.h a ha⟩
theorem fh.HF {K:Act→World→Prop} (h:∀a,td n D a E→K a w):fh D (Exit.then K Q) n .normal E w:=⟨fun a ha=>h a ha⟩
theorem fh.lg {K:Act→World→Prop} (h:fh D Q n .ret E w):fh D (Exit.then K Q) n .ret E w:=⟨fun a ha=>h.h a ha⟩
theorem fh.lh {K:Act→World→Prop} {id:Nat} (h:fh D Q n (.exit id) E w):fh D (Exit.then K Q) n (.exit id) E w:=⟨fun a ha=>h.h a ha⟩
theorem fh.pK {id:Nat} (h:fh D Q n .normal E w):fh D (Exit.inBlock id Q) n .normal E w:=⟨fun a ha=>h.h a ha⟩
theorem fh.pM {id:Nat} (h:fh D Q n .ret E w):fh D (Exit.inBlock id Q) n .ret E w:=⟨fun a ha=>h.h a ha⟩
theorem fh.pN {id:Nat} (h:fh D Q n .normal E w):fh D (Exit.inBlock id Q) n (.exit id) E w:=⟨fun a ha=>by simp only[Exit.inBlock,if_true];exact h.h a ha⟩
theorem eA.nil (h:fh D Q n .normal E w):eA ro m D ops Q n [] E w:=⟨fun a ha=>h.h a ha⟩
theorem qZ {a:Act} {o:Oper} (hg:o.guard=none) (h:o.wpIn (FW ro) m G.P a w (wpListIn (FW ro) m G.P ops Q rest) Q):wpListIn (FW ro) m G.P ops Q (o::rest) a w:=by
 have hw:Region.wanted o (yielded ops a.tmps)=true:=by simp[Region.wanted,hg]
 show(if Region.wanted o (yielded ops a.tmps)then _ else _)
 rw[if_pos hw];exact h
def kB:Op→Bool
 |.defer _=>false
 |_=>true
theorem zK {op:Op} (h:qi op=true):∀c,op≠.defer c:=by rintro c rfl;simp[qi]at h
theorem eA.y (hy:Yl G n op E (fun w'=>w'=w) v) (hd:(qi op && Pn d n)=true) (h:eA ro m D ops Q n rest ((d,v)::E) w):eA ro m D ops Q n (⟨some d,op,ty,pos,aft,none⟩::rest) E w:=⟨fun a ha=>by
 rw[Bool.and_eq_true]at hd
 have hr:=hy.h w rfl _ ha.ag (some d) ty pos aft none
 rw[zE]at hr
 have hs:Oper.semAt (FW ro).round a.eval ⟨some d,op,ty,pos,aft,none⟩=execOp a.eval ⟨some d,op,ty,pos,aft,none⟩:=Oper.semAt_eq _ _ _ (zK hd.1)
 refine qZ rfl ⟨fun _ _=>trivial,?_⟩
 rw[hs,hr]
 exact h.h _ (ha.put (by simpa using hd.2) v)⟩
theorem AQ {a:Act} {o:Oper} {next:Act→World→Prop} {r:Result Next} (h:lS G.P (fun v w'=>next (a.put o.dst v) w') r):o.uponIn (FW ro) m G.P a next Q r:=by
 cases r with
 |ok x w'=>
  cases x<;>simp only[lS]at h
  case value v=>exact h
  case skip=>exact h
  case enter f args=>
   refine⟨fun e=>?_,(qm h).mono ?_⟩
   ·cases e
   ·rintro e w'' ⟨v,rfl,hv⟩;exact hv
 |halt x w'=>exact h.elim
theorem eA.e (he:bU G n op E w K) (hn:kB op=true) (hd:Pn d n=true) (h:∀v w',K v w'→eA ro m D ops Q n rest ((d,v)::E) w'):eA ro m D ops Q n (⟨some d,op,ty,pos,aft,none⟩::rest) E w:=⟨fun a ha=>by
 have hr:=he.h _ ha.ag (some d) ty pos aft none
 rw[zE]at hr
 have hs:Oper.semAt (FW ro).round a.eval ⟨some d,op,ty,pos,aft,none⟩=execOp a.eval ⟨some d,op,ty,pos,aft,none⟩:=Oper.semAt_eq _ _ _ (by rintro c rfl;simp[kB]at hn)
 refine qZ rfl ⟨fun _ _=>trivial,?_⟩
 rw[hs]
 exact AQ (dx hr (fun v w' hk=>(h v w' hk).h _ (ha.put (by simpa using hd) v)))⟩
theorem eA.e0 (he:bU G n op E w K) (hn:kB op=true) (h:∀v w',K v w'→eA ro m D ops Q n rest E w'):eA ro m D ops Q n (⟨none,op,ty,pos,aft,none⟩::rest) E w:=⟨fun a ha=>by
 have hr:=he.h _ ha.ag none ty pos aft none
 rw[zE]at hr
 have hs:Oper.semAt (FW ro).round a.eval ⟨none,op,ty,pos,aft,none⟩=execOp a.eval ⟨none,op,ty,pos,aft,none⟩:=Oper.semAt_eq _ _ _ (by rintro c rfl;simp[kB]at hn)
 refine qZ rfl ⟨fun _ _=>trivial,?_⟩
 rw[hs]
 exact AQ (dx hr (fun v w' hk=>(h v w' hk).h a ha))⟩
theorem eA.round {l:Nat} {y:Operand} {args:List Operand} {tys:Array TypeId} {vs:List Value} {R:Ending→World→Prop} (hf:ev E y=some (.func (.yield l) #[] #[])) (ha:kI E args=some vs) (hd:Pn d n=true)
  (hY:YieldAt (FW ro) (m - 1) G.P l vs.toArray w R) (h:∀e w',R e w'→∃v,e=.returned v∧eA ro m D ops Q n rest ((d,v)::E) w'):
  eA ro m D ops Q n (⟨some d,.call ⟨.value y,args.toArray,tys⟩,ty,pos,aft,none⟩::rest) E w:=⟨fun a hag=>by
 obtain⟨fn,tmps,assign,body,hrun,hR⟩:=hY
 have e1:args.map a.eval=vs:=by rw[←zE];exact hag.ag.pf ha
 have hs:Oper.semAt (FW ro).round a.eval ⟨some d,.call ⟨.value y,args.toArray,tys⟩,ty,pos,aft,none⟩=execOp a.eval ⟨some d,.call ⟨.value y,args.toArray,tys⟩,ty,pos,aft,none⟩:=Oper.semAt_eq _ _ _ (by rintro c e;cases e)
 refine qZ rfl ⟨fun _ _=>trivial,?_⟩
 have hx:(execOp a.eval ⟨some d,.call ⟨.value y,args.toArray,tys⟩,ty,pos,aft,none⟩).run G.P w=.ok (.round l fn tmps assign body) w:=by
  simp[execOp,resolve,invoke,Deferred.ofValue,hag.eval hf,e1,hrun]
 rw[hs,hx]
 refine⟨fun e=>(by cases e),hR.mono ?_⟩
 rintro e w' hRe
 obtain⟨v,rfl,hv⟩:=h e w' hRe
 exact hv.h _ (hag.put (by simpa using hd) v)⟩
theorem Cd.CN {id:Nat} {l:List Oper} (m:Nat) (h:eA none m [] l.toArray Q n l E w):Cd G Q n (.region id l.toArray false) E w:=⟨fun a ha=>wpIn_wide.1 (wpIn_region_lit (h.h a (td.of ha)))⟩
def FM (l:List (Nat×Value)) (E:Env):Env:=l.foldl (fun E pv=>pv::E) E
theorem xM:∀(l:List (Nat×Value)) {t:Array Value} {E:Env},Ag n ⟨t,[]⟩ E→(∀pv∈l,pv.1<n)→Ag n ⟨l.foldl (fun t pv=>t.setIfInBounds pv.1 pv.2) t,[]⟩ (FM l E)
 |[],_,_,h,_=>h
 |(p,v)::r,t,E,h,hl=>xM r (t:=t.setIfInBounds p v) (E:=(p,v)::E) (h.put (hl (p,v) Pd) v) (fun pv hp=>hl pv (by simp[hp]))
theorem kx.rangeFunc {α:Type} {g:Operand} {ps:List Nat} {assign body:Code} {gf:Nat} {lb:List Value} (hg:ev E g=some (.func (.func gf) #[] lb.toArray)) (hf:G.fb[gf]?=some true) (hm:1≤m)
  {encs:α→List Value} {Kp:World→World→Prop} {S Sp:List α→Prop} {N:Nat} (hseq:SeqStopsK (FW none) (m - 1) G.P gf lb.toArray (fun x=>(encs x).toArray) Kp S Sp N w)
  (hKt:∀{A B C:World},Kp A B→Kp B C→Kp A C) (hKb:∀(W:World) (l:Nat) (o o':Obj),w.heap.size≤l→W.heap[l]?=some o→o.isCells=false→o.isWalk=false→Kp W (W.putObj l o')) (hKr:∀W,Kp W W) (hps:∀x,(encs x).length=ps.length) (hpn:(ps.all fun p=>Pn p n)=true)
  (I:List α→World→Prop) (Ix:Code→List α→World→Prop) (hI:OwnFrom w.heap.size I) (hIx:∀c,OwnFrom w.heap.size (Ix c)) (h0:I [] w) (E1:α→Env)
  (hassign:∀(l:Nat) (x:α) (W:World) (K:Act→World→Prop),(∀a,td n [] a (E1 x)→K a W)→kx (some l) (m - 1 - 1) [] (Exit.then K (fun _ _ _=>False)) n assign (FM (ps.zip (encs x)) E) W)
  (hbody:∀(l:Nat) (pre:List α) (x:α) (W:World),I pre W→pre.length<N→kx (some l) (m - 1 - 1) [] (ownPostG w.heap.size Kp I Ix (pre++[x]) W) n body (E1 x) W)
  (hdone:∀(Dn:Nat) (xs:List α) (W:World),w.heap.size≤Dn→S xs→I xs W→W.heap[Dn]?=some (.deferred (some []))→fh ({target:=.collected Dn,args:=#[]}::D) Q n .normal E W)
  (hstop:∀(Dn:Nat) (c:Code) (pre:List α) (W:World),w.heap.size≤Dn→Sp pre→Ix c pre W→W.heap[Dn]?=some (.deferred (some []))→kx none m ({target:=.collected Dn,args:=#[]}::D) Q n c E W):
  kx none m D Q n (.rangeFunc g ps.toArray assign body) E w:=⟨fun a ha=>by
 refine wpIn_rangeFunc_ownH (F:=FW none) rfl hm (ha.eval hg) trivial (G.Dk gf hf) hseq hKt hKb (Below.refl _ _) (fun x=>by simpa using hps x) I Ix hI hIx h0 (fun x a' _=>td n [] a' (E1 x)) (fun x a' _ W W' row h _ _=>h) ?_ ?_ ?_ ?_
 ·intro l pre x W K hi hK
  refine(hassign l x W K (fun a' h'=>hK a' W (KeepsFrom.refl _ _) (hKr W) hi h')).h _ ⟨?_,rfl⟩
  have e:(ps.toArray.zip (encs x).toArray).foldl (fun t (p,v)=>t.setIfInBounds p v) a.tmps=(ps.zip (encs x)).foldl (fun t pv=>t.setIfInBounds pv.1 pv.2) a.tmps:=by
   rw[←Array.foldl_toList];simp
  rw[e]
  refine xM _ ⟨ha.ag.sz,rfl,ha.ag.eq⟩ (fun pv hp=>?_)
  have:=List.all_eq_true.1 hpn pv.1 (List.of_mem_zip (show(pv.1,pv.2)∈_ from hp)).1
  simpa using this
 ·intro l pre x a' W _ _ hi hax hN
  exact(hbody l pre x W hi hN).h a' hax
 ·intro Dn xs W h1 h2 h3 h4
  exact(hdone Dn xs W h1 h2 h3 h4).h _ ⟨⟨ha.ag.sz,rfl,ha.ag.eq⟩,by simp[ha.df]⟩
 ·intro Dn c pre W h1 h2 h3 h4
  exact(hstop Dn c pre W h1 h2 h3 h4).h _ ⟨⟨ha.ag.sz,rfl,ha.ag.eq⟩,by simp[ha.df]⟩⟩
theorem fh.G7 {fn:Func} {R:Ending→World→Prop} {e:Exit} {Dn:Nat} (he:e=.ret∨e=.normal) (hK:w.heap[Dn]?=some (.deferred (some [])))
  (hr:∀a,Ag n a E→(results fn a.tmps).run G.P (w.putObj Dn (.deferred none))=.ok v (w.putObj Dn (.deferred none))) (hR:R (.returned v) (w.putObj Dn (.deferred none))):fh [{target:=.collected Dn,args:=#[]}] (bodyPostM (FW none) m G.P fn R) n e E w:=⟨fun a ha=>by
 have h1:=hr _ ha.ag
 have key:LeavesInM (FW none) m G.P fn a.tmps R a.defers .returning w:=by
  rw[ha.df]
  exact⟨by simp,.inl ⟨_,_,rfl,run_takeDeferred hK,⟨v,h1,hR⟩⟩⟩
 rcases he with rfl|rfl<;>exact key⟩
theorem E8 {f:FuncId} {fn:Func} {c:Code} {l:List Value} {R:Ending→World→Prop} (m:Nat) (hf:G.P.funcs[f]?=some fn) (hb:fn.body=some c) (hn:fn.ntmps=n) (hl:PF l.length n=true)
  (h:kx none m [] (bodyPostM (FW none) m G.P fn R) n c (A1 0 l) w):Calls G.P f l.toArray w R:=by
 refine callsIn_wide.1 (callsIn_of_wp_marks (F:=Fence.wide) (n:=m) hf hb trivial (h.h _ (td.of ?_)))
 have hl':l.length≤n:=PQ hl
 refine⟨by simp[hn];omega,rfl,fun t v ht=>?_⟩
 obtain⟨_,h2⟩:=yk l 0 t v ht
 rw[Nat.sub_zero]at h2
 obtain⟨h3,h4⟩:=List.getElem?_eq_some_iff.1 h2
 refine⟨by omega,?_⟩
 have:t<(l.toArray++Array.replicate (fn.ntmps - l.toArray.size) undef).size:=by simp;omega
 simp only[Array.getD,this,dite_true]
 rw[Array.getInternal_eq_getElem,Array.getElem_append_left (by simpa using h3)]
 simpa using h4
end
theorem fh.ofFin {e:Exit} {E:Env} {w:World} (h:Fin Q n e E w):fh [] Q n e E w:=⟨fun a ha=>h.h a ha.Hg⟩
def Hz:List Oper→Bool
 |[]=>true
 |⟨_,.call ⟨.value (.tmp _),_,_⟩,_,_,_,_⟩::_=>false
 |_::r=>Hz r
theorem Cd.G6 {w:World} {id:Nat} {l:List Oper} (_:Hz l=true) (h:aq G l.toArray (.list Q w) n l E):Cd G Q n (.region id l.toArray false) E w:=Cd.region h
theorem Ch {g g':Prop} (h:g') (hw:eI g'→g:=by(intro hk_;(repeat(first|(first|refine aq.y (Yl.move rfl) rfl ?_|refine aq.y (Yl.assign rfl) rfl ?_|(refine aq.is ?_;(first|(refine aq.CC ?_;(first|refine aq.gs rfl rfl rfl ?_|refine aq.gu rfl rfl ?_|refine aq.yg rfl (Yl.move rfl) rfl ?_|refine aq.yg rfl (Yl.assign rfl) rfl ?_|(refine aq.aG ?_;(first|(refine aq.aG (bo:=.lss) ?_;(first|refine aq.yg rfl (Yl.lH rfl rfl Pc) rfl ?_|refine aq.yg rfl (Yl.lG rfl rfl Pc) rfl ?_))|(refine aq.aG (bo:=.eql) ?_;(first|refine aq.yg rfl (Yl.ly rfl rfl Pc) rfl ?_|refine aq.yg rfl (Yl.lx rfl rfl Pc) rfl ?_))|(refine aq.aG (bo:=.neq) ?_;(first|refine aq.yg rfl (Yl.lK rfl rfl Pc) rfl ?_|refine aq.yg rfl (Yl.lJ rfl rfl Pc) rfl ?_))|(refine aq.aG (bo:=.leq) ?_;(first|refine aq.yg rfl (Yl.lF rfl rfl Pc) rfl ?_|refine aq.yg rfl (Yl.lE rfl rfl Pc) rfl ?_))|(refine aq.aG (bo:=.gtr) ?_;(first|refine aq.yg rfl (Yl.lC rfl rfl Pc) rfl ?_|refine aq.yg rfl (Yl.lB rfl rfl Pc) rfl ?_))|(refine aq.aG (bo:=.geq) ?_;(first|refine aq.yg rfl (Yl.lA rfl rfl Pc) rfl ?_|refine aq.yg rfl (Yl.lz rfl rfl Pc) rfl ?_))|refine aq.yg rfl (Yl.add rfl rfl Pc) rfl ?_|refine aq.yg rfl (Yl.sub rfl rfl Pc) rfl ?_|refine aq.yg rfl (Yl.jh rfl rfl rfl rfl) rfl ?_|refine aq.yg rfl (Yl.mn Tryz.underlying4 rfl rfl) rfl ?_|fail))|(refine aq.isField ?_;(first|refine aq.yg rfl (Yl.gG rfl rfl rfl) rfl ?_|refine aq.yg rfl (Yl.field rfl rfl rfl) rfl ?_))|(refine aq.dn ?_;(first|refine aq.yg rfl (Yl.load rfl rfl rfl OK) rfl ?_|refine aq.yg rfl (Yl.load rfl rfl rfl (rZ eG)) rfl ?_|refine aq.yg rfl (Yl.load rfl rfl rfl eG) rfl ?_))|(refine aq.eM ?_;(first|refine aq.yg rfl (Yl.gn rfl rfl rfl rfl rfl rfl Pc) rfl ?_|refine aq.yg rfl (Yl.idx rfl rfl rfl rfl rfl rfl Pc) rfl ?_))|refine aq.yg rfl (Yl.len rfl rfl rfl) rfl ?_|refine aq.yg rfl (Yl.extract rfl rfl) rfl ?_|refine aq.yg rfl (Yl.fR rfl rfl) rfl ?_|refine aq.yg rfl (Yl.fQ rfl rfl) rfl ?_|refine aq.yg rfl (Yl.nilCheck rfl) rfl ?_|refine aq.yg rfl (Yl.not rfl) rfl ?_|refine aq.yg rfl (Yl.makeFunc rfl rfl) rfl ?_))|refine aq.nil ?_|refine aq.GX ?_|refine aq.DN ?_|(refine aq.aG ?_;(first|(refine aq.aG (bo:=.lss) ?_;(first|refine aq.y (Yl.lH rfl rfl Pc) rfl ?_|refine aq.y (Yl.lG rfl rfl Pc) rfl ?_))|(refine aq.aG (bo:=.eql) ?_;(first|refine aq.y (Yl.ly rfl rfl Pc) rfl ?_|refine aq.y (Yl.lx rfl rfl Pc) rfl ?_))|(refine aq.aG (bo:=.neq) ?_;(first|refine aq.y (Yl.lK rfl rfl Pc) rfl ?_|refine aq.y (Yl.lJ rfl rfl Pc) rfl ?_))|(refine aq.aG (bo:=.leq) ?_;(first|refine aq.y (Yl.lF rfl rfl Pc) rfl ?_|refine aq.y (Yl.lE rfl rfl Pc) rfl ?_))|(refine aq.aG (bo:=.gtr) ?_;(first|refine aq.y (Yl.lC rfl rfl Pc) rfl ?_|refine aq.y (Yl.lB rfl rfl Pc) rfl ?_))|(refine aq.aG (bo:=.geq) ?_;(first|refine aq.y (Yl.lA rfl rfl Pc) rfl ?_|refine aq.y (Yl.lz rfl rfl Pc) rfl ?_))|refine aq.y (Yl.add rfl rfl Pc) rfl ?_|refine aq.y (Yl.sub rfl rfl Pc) rfl ?_|refine aq.y (Yl.jh rfl rfl rfl rfl) rfl ?_|refine aq.y (Yl.mn Tryz.underlying4 rfl rfl) rfl ?_|fail))|(refine aq.isField ?_;(first|refine aq.y (Yl.gG rfl rfl rfl) rfl ?_|refine aq.y (Yl.field rfl rfl rfl) rfl ?_))|(refine aq.dn ?_;(first|refine aq.y (Yl.load rfl rfl rfl OK) rfl ?_|refine aq.y (Yl.load rfl rfl rfl (rZ eG)) rfl ?_|refine aq.y (Yl.load rfl rfl rfl eG) rfl ?_))|(refine aq.eM ?_;(first|refine aq.y (Yl.gn rfl rfl rfl rfl rfl rfl Pc) rfl ?_|refine aq.y (Yl.idx rfl rfl rfl rfl rfl rfl Pc) rfl ?_))|refine aq.y (Yl.len rfl rfl rfl) rfl ?_|refine aq.y (Yl.extract rfl rfl) rfl ?_|refine aq.y (Yl.fR rfl rfl) rfl ?_|refine aq.y (Yl.fQ rfl rfl) rfl ?_|refine aq.y (Yl.nilCheck rfl) rfl ?_|refine aq.y (Yl.not rfl) rfl ?_|refine aq.y (Yl.makeFunc rfl rfl) rfl ?_))|(refine Cd.is ?_;(first|refine Cd.seq ?_|refine Cd.G6 rfl ?_|refine Cd.block ?_|refine Cd.jf rfl ?_|refine Cd.je rfl ?_|refine Cd.skip ?_|refine Cd.scope ?_|refine Cd.ret ?_|refine Cd.exit ?_|refine Cd.label ?_))|(refine Fin.is ?_;(first|refine Fin.lf ?_|refine Fin.pK ?_|refine Fin.lg ?_|refine Fin.pM ?_|refine Fin.lh ?_|refine Fin.J4 ?_|refine Fin.pN ?_|refine Fin.xQ rfl ?_)))|(refine aq.is ?_;(first|(refine aq.CC ?_;(first|(refine aq.aG ?_;(first|refine aq.yg rfl (Yl.xe rfl rfl) rfl ?_|refine aq.yg rfl (Yl.nO rfl rfl) rfl ?_|refine aq.yg rfl (Yl.nM rfl rfl Pc) rfl ?_))|refine aq.yg rfl (Yl.gD rfl rfl rfl rfl) rfl ?_|refine aq.yg rfl (Yl.ec Tryz.underlying9 rfl rfl rfl Pc) rfl ?_|refine aq.yg rfl (Yl.dC Tryz.underlying9 rfl rfl rfl Pc) rfl ?_|refine aq.yg rfl (Yl.eV Tryz.underlying9 rfl rfl rfl rfl rfl Pc Pc) rfl ?_|refine aq.yg rfl (Yl.cZ rfl rfl rfl rfl rfl rfl Pc) rfl ?_|refine aq.yg rfl (Yl.nN Tryz.underlying9 rfl) rfl ?_))|(refine aq.aG ?_;(first|refine aq.y (Yl.xe rfl rfl) rfl ?_|refine aq.y (Yl.nO rfl rfl) rfl ?_|refine aq.y (Yl.nM rfl rfl Pc) rfl ?_))|refine aq.y (Yl.gD rfl rfl rfl rfl) rfl ?_|refine aq.y (Yl.ec Tryz.underlying9 rfl rfl rfl Pc) rfl ?_|refine aq.y (Yl.dC Tryz.underlying9 rfl rfl rfl Pc) rfl ?_|refine aq.y (Yl.eV Tryz.underlying9 rfl rfl rfl rfl rfl Pc Pc) rfl ?_|refine aq.y (Yl.cZ rfl rfl rfl rfl rfl rfl Pc) rfl ?_|refine aq.y (Yl.nN Tryz.underlying9 rfl) rfl ?_))));exact hk_.out)):g:=hw ⟨h⟩
theorem AT {g g':Prop} (h:g') (hw:eI g'→g:=by(intro hk_;(repeat(first|refine eA.nil ?_|refine eA.y (Yl.move rfl) rfl ?_|refine eA.y (Yl.assign rfl) rfl ?_|refine eA.y (Yl.lH rfl rfl Pc) rfl ?_|refine eA.y (Yl.lG rfl rfl Pc) rfl ?_|refine eA.y (Yl.ly rfl rfl Pc) rfl ?_|refine eA.y (Yl.lx rfl rfl Pc) rfl ?_|refine eA.y (Yl.lK rfl rfl Pc) rfl ?_|refine eA.y (Yl.lJ rfl rfl Pc) rfl ?_|refine eA.y (Yl.lF rfl rfl Pc) rfl ?_|refine eA.y (Yl.lE rfl rfl Pc) rfl ?_|refine eA.y (Yl.lC rfl rfl Pc) rfl ?_|refine eA.y (Yl.lB rfl rfl Pc) rfl ?_|refine eA.y (Yl.lA rfl rfl Pc) rfl ?_|refine eA.y (Yl.lz rfl rfl Pc) rfl ?_|refine eA.y (Yl.add rfl rfl Pc) rfl ?_|refine eA.y (Yl.sub rfl rfl Pc) rfl ?_|refine eA.y (Yl.xe rfl rfl) rfl ?_|refine eA.y (Yl.nO rfl rfl) rfl ?_|refine eA.y (Yl.nM rfl rfl Pc) rfl ?_|refine eA.y (Yl.gG rfl rfl rfl) rfl ?_|refine eA.y (Yl.field rfl rfl rfl) rfl ?_|refine eA.y (Yl.load rfl rfl rfl OK) rfl ?_|refine eA.y (Yl.gn rfl rfl rfl rfl rfl rfl Pc) rfl ?_|refine eA.y (Yl.idx rfl rfl rfl rfl rfl rfl Pc) rfl ?_|refine eA.y (Yl.len rfl rfl rfl) rfl ?_|refine eA.y (Yl.nN Tryz.underlying9 rfl) rfl ?_|refine eA.y (Yl.extract rfl rfl) rfl ?_|refine eA.y (Yl.fR rfl rfl) rfl ?_|refine eA.y (Yl.fQ rfl rfl) rfl ?_|refine eA.y (Yl.not rfl) rfl ?_|refine kx.seq ?_|refine kx.region ?_|refine kx.block ?_|refine kx.skip ?_|refine kx.ret ?_|refine kx.exit ?_|refine kx.jf rfl ?_|refine kx.je rfl ?_|refine fh.lf ?_|refine fh.pK ?_|refine fh.lg ?_|refine fh.pM ?_|refine fh.lh ?_|refine fh.pN ?_|fail));exact hk_.out)):g:=hw ⟨h⟩
def QN (Q:Exit→Act→World→Prop):Exit→Act→World→Prop:=fun e a w=>e=.normal∧Q e a w
structure eh (ops:Array Oper) (Q:Exit→Act→World→Prop) (n f:Nat) (listed:Array Bool) (E:Env) (w:World):Prop where
 h:∀a,Ag n a E→wpAny G.P .any ops (QN Q) f listed a w
section
variable {ops:Array Oper} {Q:Exit→Act→World→Prop} {n f:Nat} {listed:Array Bool} {E:Env} {w:World} {d:Nat} {op:Op} {ty:TypeId} {pos:String} {aft:Array Edge} {v:Value} {K:Value→World→Prop}
theorem Cd.qO {id:Nat} {l:List Oper} (h:eh l.toArray Q n l.length (Array.replicate l.length false) E w.drew):Cd G Q n (.region id l.toArray true) E w:=⟨fun a ha=>by
 refine Code.wp_mono ?_ (wp_region_any (Q:=QN Q) G.mixed (by simpa using h.h a ha))
 rintro e a' w' ⟨rfl,hq⟩;exact hq⟩
theorem eh.done (hr:Region.ready .any ops listed=[]) (h:Fin Q n .normal E w):eh ops Q n f listed E w:=⟨fun a ha=>wpAny_done hr ⟨rfl,h.h a ha⟩ f⟩
theorem eh.take (i:Nat) (hi:ops[i]?=some ⟨some d,op,ty,pos,aft,none⟩) (hc:(Region.noSelect ops && Region.free .any ops listed i && (Region.ready .any ops listed).contains i && qi op && Pn d n)=true) (hy:Yl G n op E (fun _=>True) v) (h:eh ops Q n f (listed.setIfInBounds i true) ((d,v)::E) w):eh ops Q n (f+1) listed E w:=⟨fun a ha=>by
 simp only[Bool.and_eq_true]at hc
 obtain⟨⟨⟨⟨h1,h2⟩,h3⟩,h4⟩,h5⟩:=hc
 refine wpAny_take (v:=v) hi h1 h2 h3 (fun c a w hq=>by cases hq.1) ?_ (h.h _ (ha.put (by simpa using h5) v))
 exact .inl ⟨by simp[Region.wanted],fun w'=>hy.h w' trivial a ha _ _ _ _ _⟩⟩
theorem CU {a:Act} {o:Oper} {next:Act→World→Prop} {r:Result Next} (h:lS G.P (fun v w'=>next (a.put o.dst v) w') r):o.upon G.P a next Q r:=by
 cases r with
 |ok x w'=>
  cases x<;>simp only[lS]at h
  case value v=>exact h
  case skip=>exact h
  case enter f args=>exact h.mono (by rintro e w'' ⟨v,rfl,hv⟩;exact hv)
 |halt x w'=>exact h.elim
theorem eh.one (i:Nat) (hr:Region.ready .any ops listed=[i]) (hi:ops[i]?=some ⟨some d,op,ty,pos,aft,none⟩) (hd:Pn d n=true) (he:bU G n op E w K) (h:∀v w',K v w'→eh ops Q n f (listed.setIfInBounds i true) ((d,v)::E) w'):eh ops Q n (f+1) listed E w:=⟨fun a ha=>by
 refine wpAny_all hr Pd (fun j hj=>?_)
 rw[List.mem_singleton]at hj;subst hj
 unfold wpOp
 rw[hi]
 have hw:Region.wanted ⟨some d,op,ty,pos,aft,none⟩ (yielded ops a.tmps)=true:=by simp[Region.wanted]
 show(if Region.wanted _ _ then _ else _)
 rw[if_pos hw]
 exact .inl (CU (dx (he.h a ha _ _ _ _ _) (fun v w' hk=>(h v w' hk).h _ (ha.put (by simpa using hd) v))))⟩
theorem eh.Jb (i:Nat) (hr:Region.ready .any ops listed=[i]) (hi:ops[i]?=some ⟨none,op,ty,pos,aft,none⟩) (he:bU G n op E w K) (h:∀v w',K v w'→eh ops Q n f (listed.setIfInBounds i true) E w'):eh ops Q n (f+1) listed E w:=⟨fun a ha=>by
 refine wpAny_all hr Pd (fun j hj=>?_)
 rw[List.mem_singleton]at hj;subst hj
 unfold wpOp
 rw[hi]
 have hw:Region.wanted ⟨none,op,ty,pos,aft,none⟩ (yielded ops a.tmps)=true:=by simp[Region.wanted]
 show(if Region.wanted _ _ then _ else _)
 rw[if_pos hw]
 exact .inl (CU (dx (he.h a ha _ _ _ _ _) (fun v w' hk=>(h v w' hk).h a ha)))⟩
theorem eh.FB (i:Nat) (hr:Region.ready .any ops listed=[i]) (hi:ops[i]?=some ⟨some d,op,ty,pos,aft,none⟩) (hd:Pn d n=true) (hy:Yl G n op E (fun w'=>w'=w) v) (h:eh ops Q n f (listed.setIfInBounds i true) ((d,v)::E) w):eh ops Q n (f+1) listed E w:=
 eh.one (K:=fun v' w'=>v'=v∧w'=w) i hr hi hd ⟨fun a ha d ty pos aft gd=>by rw[hy.h w rfl a ha d ty pos aft gd];exact⟨rfl,rfl⟩⟩ (by rintro _ _ ⟨rfl,rfl⟩;exact h)
end
end Go.Proofs.YtdkcljdfbemnbaaGreatDoor
