import Derived.Scope
import Derived.Shelf.Strings.Fields
import Derived.Shelf.Strings.Search3
import Derived.KernelRfl
import Derived.Test.YtdkcljdfbemnbaaGreatDoorJR6
import Derived.RangeFuncNested
import Derived.RangeFuncBound
import Derived.RangeFuncCalls
import Derived.RangeFuncLeaves
import Derived.RangeFuncFrom
namespace Go.Proofs.YtdkcljdfbemnbaaGreatDoor
section
set_option maxRecDepth 100000

def qS (pg:List Nat) (size:Nat):List (Nat×Nat):=(List.range pg.length).map fun k=>(pg.getD k 0,(pg++[size]).getD (k+1) 0 - pg.getD k 0)
def Gx (i:TI) (parts:Array (Nat×Value)):Sem Value:=do
 let some cells:=Instr.fill ((qS i.pg i.size).toArray[·]?) i.zero.cells parts.toList|stuck "build: no such field, or a part of the wrong size"
 pure (.agg cells)
theorem Gy {i:TI} {parts:Array (Nat×Value)} {c:Array Value} (h:Instr.fill ((qS i.pg i.size).toArray[·]?) i.zero.cells parts.toList=some c) (P:Program) (w:World):(Gx i parts).run P w=.ok (.agg c) w:=by
 unfold Gx;rw[h];rfl

def IX (P:Program) (t:Nat) (i:TI):Prop:=i.agg=true→i.pg≠[]→∀parts w,(Instr.build t parts).run P w=(Gx i parts).run P w
def nI (P:Program):List (Option TI)→Nat→Prop
 |[],_=>True
 |none::r,k=>nI P r (k+1)
 |some i::r,k=>IX P k i∧nI P r (k+1)
theorem nI.get {P:Program}:∀(l:List (Option TI)) (k:Nat),nI P l k→∀t i,(l[t]?).bind id=some i→IX P (k+t) i
 |[],_,_,t,i,h=>by simp at h
 |none::r,k,ha,t,i,h=>by
  cases t with
  |zero=>simp at h
  |succ t=>
   have:=nI.get r (k+1) ha t i Pa
   rwa[show k+(t+1)=k+1+t by omega]
 |some j::r,k,ha,t,i,h=>by
  cases t with
  |zero=>simp at h;subst h;exact ha.1
  |succ t=>
   have:=nI.get r (k+1) ha.2 t i Pa
   rwa[show k+(t+1)=k+1+t by omega]
theorem nI.skip {P:Program} {r:List (Option TI)} {k:Nat} (h:nI P r (k+1)):nI P (none::r) k:=h
theorem Iy:nI Tryz.prog Js 0:=by
 repeat(first|exact trivial|refine⟨fun a b=>(by first|(exact absurd rfl b)|(cases a;done)|(intro parts w;kernel_rfl)),?_⟩|refine nI.skip ?_)
theorem H0 (t:Nat) (i:TI) (h:G.ty t=some i) (ha:i.agg=true) (ho:i.pg≠[]) (parts:Array (Nat×Value)) (w:World):(Instr.build t parts).run G.P w=(Gx i parts).run G.P w:=by
 have:=nI.get Js 0 Iy t i h
 rw[Nat.zero_add]at this
 exact this ha ho parts w
end
section
open Go.RowKit _root_.Go.Proofs.Tryz
section
variable {G:zc} {Q:Exit→Act→World→Prop} {n:Nat} {E:Env} {w:World}
theorem Cd.scope {c:Code} (h:Cd G (Exit.noGoto Q) n c E w):Cd G Q n (.scope c) E w:=⟨fun a ha=>wp_scope_straight (h.h a ha)⟩
theorem Fin.Kb (h:Fin Q n .ret E w):Fin (Exit.noGoto Q) n .ret E w:=⟨fun a ha=>h.h a ha⟩
end
open Go.Shelf
set_option maxRecDepth 100000
def yo:Go.Shelf.Ren:=⟨fun|157=>187|229=>206|199=>207|261=>213|311=>216|312=>217|n=>n,fun|9=>9|31=>248|3=>3|5=>5|4=>4|119=>277|0=>0|40=>279|152=>284|21=>21|154=>286|51=>287|141=>289|196=>295|193=>292|198=>298|49=>296|194=>293|201=>301|226=>303|46=>283|227=>304|n=>n,fun|0=>0|6=>2|n=>n⟩
theorem Fs:Go.Proofs.Lays.n157 prog yo:={
 mixed:=by kernel_rfl
 f157:=func187.trans (congrArg some Pb)
 f199:=func207.trans (congrArg some Pb)
 f229:=func206.trans (congrArg some Pb)
 f261:=func213.trans (congrArg some Pb)
 f311:=func216.trans (congrArg some Pb)
 f312:=func217.trans (congrArg some Pb)
 t0:=underlying0
 a0:=isAgg0
 z0:=sizeOf0
 v0:=zeroValue0
 t3:=underlying3
 a3:=isAgg3
 z3:=sizeOf3
 v3:=zeroValue3
 t4:=underlying4
 a4:=isAgg4
 z4:=sizeOf4
 v4:=zeroValue4
 t5:=underlying5
 a5:=isAgg5
 z5:=sizeOf5
 v5:=zeroValue5
 t9:=underlying9
 a9:=isAgg9
 z9:=sizeOf9
 v9:=zeroValue9
 t21:=underlying21
 a21:=isAgg21
 z21:=sizeOf21
 v21:=zeroValue21
 t31:=underlying248
 a31:=isAgg248
 z31:=sizeOf248
 v31:=zeroValue248
 t40:=underlying279
 a40:=isAgg279
 z40:=sizeOf279
 v40:=zeroValue279
 t46:=underlying283
 a46:=isAgg283
 z46:=sizeOf283
 v46:=zeroValue283
 t49:=underlying296
 a49:=isAgg296
 z49:=sizeOf296
 v49:=zeroValue296
 t51:=underlying287
 a51:=isAgg287
 z51:=sizeOf287
 v51:=zeroValue287
 t119:=underlying277
 a119:=isAgg277
 z119:=sizeOf277
 t141:=underlying289
 a141:=isAgg289
 z141:=sizeOf289
 v141:=zeroValue289
 t152:=underlying284
 a152:=isAgg284
 z152:=sizeOf284
 v152:=zeroValue284
 t154:=underlying286
 a154:=isAgg286
 z154:=sizeOf286
 v154:=zeroValue286
 t193:=underlying292
 a193:=isAgg292
 z193:=sizeOf292
 v193:=zeroValue292
 t194:=underlying293
 a194:=isAgg293
 z194:=sizeOf293
 v194:=zeroValue293
 t196:=underlying295
 a196:=isAgg295
 z196:=sizeOf295
 v196:=zeroValue295
 t198:=underlying298
 a198:=isAgg298
 z198:=sizeOf298
 v198:=zeroValue298
 t201:=underlying301
 a201:=isAgg301
 z201:=sizeOf301
 v201:=zeroValue301
 t226:=underlying303
 a226:=isAgg303
 z226:=sizeOf303
 v226:=zeroValue303
 t227:=underlying304
 a227:=isAgg304
 z227:=sizeOf304
 v227:=zeroValue304
 g0:=by kernel_rfl
 g6:=by kernel_rfl}
open Go.RowKit Go.Lib in
theorem Ej (s:ByteArray) (w:World) (hs:s.size<4294967281) (hascii:∀(j:Nat) b,s.data.toList[j]?=some b→b.toNat<128) (hT:∀c:Nat,c<256→w.cell? ⟨0,c,none⟩=some (.int .u8 (if Lib.isSp (UInt8.ofNat c)then 1 else 0))):
  Calls prog 187 #[.string s] w fun e w'=>e=.returned (.slice (some ⟨w.heap.size,0,none⟩) (Lib.fields s.data.toList).length (Lib.fields s.data.toList).length)∧w'=w.alloc (.cells ((Lib.fields s.data.toList).map fun l=>Value.string ⟨l.toArray⟩).toArray 9):=Any.strings_Fields_core Fs Pb s w hs hascii hT
def yn:Go.Shelf.Ren:=⟨fun|144=>166|143=>184|219=>205|217=>209|225=>210|224=>211|267=>212|266=>214|314=>215|n=>n,fun|9=>9|4=>4|3=>3|5=>5|46=>283|146=>290|51=>287|n=>n,fun|1=>1|n=>n⟩
theorem Fq:Go.Proofs.Lays.n144 prog yn:={
 mixed:=by kernel_rfl
 f143:=func184.trans (congrArg some Pb)
 f144:=func166.trans (congrArg some Pb)
 f217:=func209.trans (congrArg some Pb)
 f219:=func205.trans (congrArg some Pb)
 f224:=func211.trans (congrArg some Pb)
 f225:=func210.trans (congrArg some Pb)
 f266:=func214.trans (congrArg some Pb)
 f267:=func212.trans (congrArg some Pb)
 f314:=func215.trans (congrArg some Pb)
 t3:=underlying3
 a3:=isAgg3
 z3:=sizeOf3
 v3:=zeroValue3
 t4:=underlying4
 a4:=isAgg4
 z4:=sizeOf4
 v4:=zeroValue4
 t5:=underlying5
 a5:=isAgg5
 z5:=sizeOf5
 v5:=zeroValue5
 t9:=underlying9
 a9:=isAgg9
 z9:=sizeOf9
 v9:=zeroValue9
 t46:=underlying283
 a46:=isAgg283
 z46:=sizeOf283
 v46:=zeroValue283
 t51:=underlying287
 a51:=isAgg287
 z51:=sizeOf287
 v51:=zeroValue287
 t146:=underlying290
 a146:=isAgg290
 z146:=sizeOf290
 v146:=zeroValue290
 g1:=by kernel_rfl}
theorem iX (s sub:ByteArray) (m:Int) (w:World) (hs:s.size<4294967281) (hm:w.cell? ⟨1,0,none⟩=some (.int .i64 m)):
  Calls prog 166 #[.string s,.string sub] w fun e w'=>e=.returned (.bool (Lib.contains s.data.toList sub.data.toList))∧w'=w:=Any.strings_Contains Fq s sub m w hs hm
end
section
open Go.RowKit _root_.Go.Proofs.Tryz
open Bool renaming and_eq_true→PD
open List renaming all_eq_true→PC,eq_nil_of_length_eq_zero→Qc,getElem?_eq_getElem→Pw,getElem?_eq_some_iff→PR,mem_cons→PF,mem_singleton→PO,pairwise_cons→P0
open Nat renaming beq→PK,ble→PM,blt→Pt,eq_of_beq_eq_true→PW,le_of_ble_eq_true→PX,le_refl→Px,lt_of_lt_of_le→PB,zero_add→Ps
section
variable {n:Nat} {E:Env} {C:World→Prop} {x y z:Operand} {t t2:TypeId} {v:Value} {w:World} {ops:Array Oper} {M:Mode} {rest:List Oper} {d:Nat} {ty:TypeId} {pos:String} {aft:Array Edge}
def DE:List Value→Nat→List Value→List Value
 |cs,_,[]=>cs
 |cs,o,c::r=>DE (cs.set o c) (o+1) r
def nM (pl:List (Nat×Nat)):List Value→List (Nat×Value)→Option (List Value)
 |cs,[]=>some cs
 |cs,(i,v)::r=>
  match pl[i]? with
  |none=>none
  |some (off,size)=>bif (PK v.cells.toList.length size && PM (off+v.cells.toList.length) cs.length)then nM pl (DE cs off v.cells.toList) r else none
theorem ym:∀(l:List Value) (cs:List Value) (o k:Nat),(DE cs (o+k) l).toArray=(l.zipIdx k).foldl (fun a p=>a.setIfInBounds (o+p.2) p.1) cs.toArray
 |[],cs,o,k=>rfl
 |c::r,cs,o,k=>by
  rw[DE,List.zipIdx_cons,List.foldl_cons,Nat.add_assoc,ym r _ o (k+1)]
  simp
theorem CB {pl:List (Nat×Nat)}:∀{parts:List (Nat×Value)} {cs c:List Value},nM pl cs parts=some c→Instr.fill (pl.toArray[·]?) cs.toArray parts=some c.toArray
 |[],cs,c,h=>by simp only[nM,Option.some.injEq]at h;subst h;rfl
 |(i,v)::r,cs,c,h=>by
  simp only[nM]at h
  unfold Instr.fill
  have e0:pl.toArray[i]?=pl[i]?:=by simp
  rw[e0]
  cases hp:pl[i]? with
  |none=>simp[hp]at h
  |some p=>
   obtain⟨off,size⟩:=p
   rw[hp]at h
   dsimp only at h ⊢
   cases hb:(PK v.cells.toList.length size && PM (off+v.cells.toList.length) cs.length)with
   |false=>rw[hb]at h;cases h
   |true=>
    rw[hb]at h
    simp only[PD]at hb
    have h1:=PW hb.1
    have h2:=PX hb.2
    have e1:v.cells.size=size:=by simpa using h1
    have e2:¬off+v.cells.size>cs.toArray.size:=by simpa using h2
    rw[if_neg (by simp[e1];rw[e1]at e2;simpa using e2)]
    have h3:=CB h
    rw[←h3]
    congr 1
    have:=ym v.cells.toList cs off 0
    rw[Nat.add_zero]at this
    rw[this,←Array.foldl_toList,Array.toList_zipIdx]
theorem Yl.gH {s bt:Nat} {el:Option Nat} {os:List Nat} {zs:List Value} {ik:Option IntKind} {parts:List (Nat×Operand)} {vs:List Value} (ht:G.ty t=some ⟨s,bt,true,el,os,.agg zs.toArray,ik⟩) (ho:os.isEmpty=false) (hv:kJ E (parts.map (·.2))=some vs) (hf:(nM (qS os s) zs ((parts.map (·.1)).zip vs)).isSome=true):
  Yl G n (.build t parts.toArray) E C (.agg ((nM (qS os s) zs ((parts.map (·.1)).zip vs)).getD []).toArray):=by
 refine Yl.build hv (fun w=>?_)
 rw[H0 t _ ht rfl (by simpa using ho)]
 refine Gy ?_ _ _
 obtain⟨c,hc⟩:=Option.isSome_iff_exists.1 hf
 rw[hc]
 have:=CB hc
 simpa[Value.cells]using this
theorem Yl.Cb {bo:BinOp} {a b:ByteArray} (hx:ev E x=some (.string a)) (hy:ev E y=some (.string b)) (hr:∀w,(Op.stringOp bo a b).run G.P w=.ok v w):Yl G n (.binOp bo t x y t2) E C v:=
 ⟨fun w _ ac ha d ty pos aft gd=>by
  have hg:∀p q:Operand,(eqGuard bo t p q (.string a) (.string b)).run G.P w=.ok () w:=by
   intro p q;unfold eqGuard;split<;>simp
  simp[execOp,ha.eval hx,ha.eval hy,hg,binOp,hr]⟩
theorem Yl.xj {a b:ByteArray} (hx:ev E x=some (.string a)) (hy:ev E y=some (.string b)):Yl G n (.binOp .eql t x y t2) E C (.bool (a.data.toList==b.data.toList)):=Yl.Cb hx hy (fun w=>by simp[Op.stringOp,ByteArray.toList_eq])
theorem Yl.nV {a b:ByteArray} (hx:ev E x=some (.string a)) (hy:ev E y=some (.string b)):Yl G n (.binOp .neq t x y t2) E C (.bool (!(a.data.toList==b.data.toList))):=Yl.Cb hx hy (fun w=>by simp[Op.stringOp,ByteArray.toList_eq])
theorem Yl.nS {a b:ByteArray} (hx:ev E x=some (.string a)) (hy:ev E y=some (.string b)) (h:a.size+b.size≤9223372036854775807):Yl G n (.binOp .add t x y t2) E C (.string (a++b)):=Yl.Cb hx hy (fun w=>run_string_add_sum w a b h)
theorem Yl.nT {a:ByteArray} (ht:G.P.underlying t=some .string) (hx:ev E x=some (.string a)):Yl G n (.call ⟨.builtin .len,#[x],#[t]⟩) E C (.int .i64 a.size):=
 ⟨fun w _ ac ha d ty pos aft gd=>by simp[execOp,resolve,invoke,builtin,Builtin.len_,ha.eval hx,run_underlying ht,goInt]⟩
theorem Yl.ed {k:IntKind} {p:Int} {a:ByteArray} {i:Nat} (ht:G.P.underlying t=some .string) (hx:ev E x=some (.string a)) (hi:ev E y=some (.int k p)) (hp:p=(i:Int)) (hc:i≤a.size):Yl G n (.slice t x none (some y) none) E C (.string (a.extract 0 i)):=
 ⟨fun w _ ac ha d ty pos aft gd=>by subst hp;simp[execOp,ha.eval hx,ha.eval hi,Instr.sliceAt,Instr.slice,Instr.sliceBounds,Instr.sliceBound,asIntOf,run_underlying ht,hc]⟩
theorem Yl.dC {k:IntKind} {p:Int} {a:ByteArray} {i:Nat} (ht:G.P.underlying t=some .string) (hx:ev E x=some (.string a)) (hi:ev E y=some (.int k p)) (hp:p=(i:Int)) (hc:i≤a.size):Yl G n (.slice t x (some y) none none) E C (.string (a.extract i a.size)):=
 ⟨fun w _ ac ha d ty pos aft gd=>by subst hp;simp[execOp,ha.eval hx,ha.eval hi,Instr.sliceAt,Instr.slice,Instr.sliceBounds,Instr.sliceBound,asIntOf,run_underlying ht,hc]⟩
theorem Yl.eW {k k':IntKind} {p q:Int} {a:ByteArray} {i j:Nat} (ht:G.P.underlying t=some .string) (hx:ev E x=some (.string a)) (hi:ev E y=some (.int k p)) (hj:ev E z=some (.int k' q)) (hp:p=(i:Int)) (hq:q=(j:Int)) (hc:i≤j) (hc2:j≤a.size):Yl G n (.slice t x (some y) (some z) none) E C (.string (a.extract i j)):=
 ⟨fun w _ ac ha d ty pos aft gd=>by subst hp;subst hq;simp[execOp,ha.eval hx,ha.eval hi,ha.eval hj,Instr.sliceAt,Instr.slice,Instr.sliceBounds,Instr.sliceBound,asIntOf,run_underlying ht,hc,hc2]⟩
theorem Yl.quo {p q r:Int} (hx:ev E x=some (.int .i64 p)) (hy:ev E y=some (.int .i64 q)) (hr:∀w,(binOp .quo t (.int .i64 p) (.int .i64 q)).run G.P w=.ok (.int .i64 r) w):Yl G n (.binOp .quo t x y t2) E C (.int .i64 r):=Yl.bin hx hy hr
end
theorem cA {g g':Prop} (h:g') (hw:eA g'→g:=by(intro hk_;(repeat(first|(first|refine aq.y (Yl.move rfl) rfl ?_|refine aq.y (Yl.assign rfl) rfl ?_|(refine aq.is ?_;(first|(refine aq.CF ?_;(first|refine aq.gs rfl rfl rfl ?_|refine aq.gu rfl rfl ?_|refine aq.yg rfl (Yl.move rfl) rfl ?_|refine aq.yg rfl (Yl.assign rfl) rfl ?_|(refine aq.aE ?_;(first|(refine aq.aE (bo:=.lss) ?_;(first|refine aq.yg rfl (Yl.lH rfl rfl Pi) rfl ?_|refine aq.yg rfl (Yl.lG rfl rfl Pi) rfl ?_))|(refine aq.aE (bo:=.eql) ?_;(first|refine aq.yg rfl (Yl.ly rfl rfl Pi) rfl ?_|refine aq.yg rfl (Yl.lx rfl rfl Pi) rfl ?_))|(refine aq.aE (bo:=.neq) ?_;(first|refine aq.yg rfl (Yl.lK rfl rfl Pi) rfl ?_|refine aq.yg rfl (Yl.lJ rfl rfl Pi) rfl ?_))|(refine aq.aE (bo:=.leq) ?_;(first|refine aq.yg rfl (Yl.lF rfl rfl Pi) rfl ?_|refine aq.yg rfl (Yl.lE rfl rfl Pi) rfl ?_))|(refine aq.aE (bo:=.gtr) ?_;(first|refine aq.yg rfl (Yl.lC rfl rfl Pi) rfl ?_|refine aq.yg rfl (Yl.lB rfl rfl Pi) rfl ?_))|(refine aq.aE (bo:=.geq) ?_;(first|refine aq.yg rfl (Yl.lA rfl rfl Pi) rfl ?_|refine aq.yg rfl (Yl.lz rfl rfl Pi) rfl ?_))|refine aq.yg rfl (Yl.add rfl rfl Pi) rfl ?_|refine aq.yg rfl (Yl.sub rfl rfl Pi) rfl ?_|refine aq.yg rfl (Yl.jh rfl rfl rfl rfl) rfl ?_|refine aq.yg rfl (Yl.mr Tryz.underlying4 rfl rfl) rfl ?_|refine aq.yg rfl (Yl.mq Tryz.underlying4 rfl rfl) rfl ?_))|(refine aq.isField ?_;(first|refine aq.yg rfl (Yl.gJ rfl rfl rfl) rfl ?_|refine aq.yg rfl (Yl.field rfl rfl rfl) rfl ?_))|(refine aq.dn ?_;(first|refine aq.yg rfl (Yl.load rfl rfl rfl OQ) rfl ?_|refine aq.yg rfl (Yl.load rfl rfl rfl (sa eJ)) rfl ?_|refine aq.yg rfl (Yl.load rfl rfl rfl eJ) rfl ?_))|(refine aq.eN ?_;(first|refine aq.yg rfl (Yl.gn rfl rfl rfl rfl rfl rfl Pi) rfl ?_|refine aq.yg rfl (Yl.idx rfl rfl rfl rfl rfl rfl Pi) rfl ?_))|refine aq.yg rfl (Yl.len rfl rfl rfl) rfl ?_|refine aq.yg rfl (Yl.extract rfl rfl) rfl ?_|refine aq.yg rfl (Yl.fT rfl rfl) rfl ?_|refine aq.yg rfl (Yl.fS rfl rfl) rfl ?_|refine aq.yg rfl (Yl.nilCheck rfl) rfl ?_|refine aq.yg rfl (Yl.not rfl) rfl ?_|refine aq.yg rfl (Yl.makeFunc rfl rfl) rfl ?_))|refine aq.nil ?_|refine aq.G2 ?_|refine aq.DR ?_|(refine aq.aE ?_;(first|(refine aq.aE (bo:=.lss) ?_;(first|refine aq.y (Yl.lH rfl rfl Pi) rfl ?_|refine aq.y (Yl.lG rfl rfl Pi) rfl ?_))|(refine aq.aE (bo:=.eql) ?_;(first|refine aq.y (Yl.ly rfl rfl Pi) rfl ?_|refine aq.y (Yl.lx rfl rfl Pi) rfl ?_))|(refine aq.aE (bo:=.neq) ?_;(first|refine aq.y (Yl.lK rfl rfl Pi) rfl ?_|refine aq.y (Yl.lJ rfl rfl Pi) rfl ?_))|(refine aq.aE (bo:=.leq) ?_;(first|refine aq.y (Yl.lF rfl rfl Pi) rfl ?_|refine aq.y (Yl.lE rfl rfl Pi) rfl ?_))|(refine aq.aE (bo:=.gtr) ?_;(first|refine aq.y (Yl.lC rfl rfl Pi) rfl ?_|refine aq.y (Yl.lB rfl rfl Pi) rfl ?_))|(refine aq.aE (bo:=.geq) ?_;(first|refine aq.y (Yl.lA rfl rfl Pi) rfl ?_|refine aq.y (Yl.lz rfl rfl Pi) rfl ?_))|refine aq.y (Yl.add rfl rfl Pi) rfl ?_|refine aq.y (Yl.sub rfl rfl Pi) rfl ?_|refine aq.y (Yl.jh rfl rfl rfl rfl) rfl ?_|refine aq.y (Yl.mr Tryz.underlying4 rfl rfl) rfl ?_|refine aq.y (Yl.mq Tryz.underlying4 rfl rfl) rfl ?_))|(refine aq.isField ?_;(first|refine aq.y (Yl.gJ rfl rfl rfl) rfl ?_|refine aq.y (Yl.field rfl rfl rfl) rfl ?_))|(refine aq.dn ?_;(first|refine aq.y (Yl.load rfl rfl rfl OQ) rfl ?_|refine aq.y (Yl.load rfl rfl rfl (sa eJ)) rfl ?_|refine aq.y (Yl.load rfl rfl rfl eJ) rfl ?_))|(refine aq.eN ?_;(first|refine aq.y (Yl.gn rfl rfl rfl rfl rfl rfl Pi) rfl ?_|refine aq.y (Yl.idx rfl rfl rfl rfl rfl rfl Pi) rfl ?_))|refine aq.y (Yl.len rfl rfl rfl) rfl ?_|refine aq.y (Yl.extract rfl rfl) rfl ?_|refine aq.y (Yl.fT rfl rfl) rfl ?_|refine aq.y (Yl.fS rfl rfl) rfl ?_|refine aq.y (Yl.nilCheck rfl) rfl ?_|refine aq.y (Yl.not rfl) rfl ?_|refine aq.y (Yl.makeFunc rfl rfl) rfl ?_))|(refine Cd.is ?_;(first|refine Cd.seq ?_|refine Cd.region ?_|refine Cd.block ?_|refine Cd.jf rfl ?_|refine Cd.je rfl ?_|refine Cd.skip ?_|refine Cd.scope ?_|refine Cd.ret ?_|refine Cd.exit ?_|refine Cd.label ?_))|(refine Fin.is ?_;(first|refine Fin.lf ?_|refine Fin.pR ?_|refine Fin.lg ?_|refine Fin.pS ?_|refine Fin.lh ?_|refine Fin.Kb ?_|refine Fin.pT ?_|refine Fin.xV rfl ?_)))|(refine aq.is ?_;(first|(refine aq.CF ?_;(first|(refine aq.aE ?_;(first|refine aq.yg rfl (Yl.xj rfl rfl) rfl ?_|refine aq.yg rfl (Yl.nV rfl rfl) rfl ?_|refine aq.yg rfl (Yl.nS rfl rfl Pi) rfl ?_))|refine aq.yg rfl (Yl.gH rfl rfl rfl rfl) rfl ?_|refine aq.yg rfl (Yl.ed Tryz.underlying9 rfl rfl rfl Pi) rfl ?_|refine aq.yg rfl (Yl.dC Tryz.underlying9 rfl rfl rfl Pi) rfl ?_|refine aq.yg rfl (Yl.eW Tryz.underlying9 rfl rfl rfl rfl rfl Pi Pi) rfl ?_|refine aq.yg rfl (Yl.cZ rfl rfl rfl rfl rfl rfl Pi) rfl ?_|refine aq.yg rfl (Yl.nT Tryz.underlying9 rfl) rfl ?_))|(refine aq.aE ?_;(first|refine aq.y (Yl.xj rfl rfl) rfl ?_|refine aq.y (Yl.nV rfl rfl) rfl ?_|refine aq.y (Yl.nS rfl rfl Pi) rfl ?_))|refine aq.y (Yl.gH rfl rfl rfl rfl) rfl ?_|refine aq.y (Yl.ed Tryz.underlying9 rfl rfl rfl Pi) rfl ?_|refine aq.y (Yl.dC Tryz.underlying9 rfl rfl rfl Pi) rfl ?_|refine aq.y (Yl.eW Tryz.underlying9 rfl rfl rfl rfl rfl Pi Pi) rfl ?_|refine aq.y (Yl.cZ rfl rfl rfl rfl rfl rfl Pi) rfl ?_|refine aq.y (Yl.nT Tryz.underlying9 rfl) rfl ?_))));exact hk_.out)):g:=hw ⟨h⟩
section
variable {fn:Func} {R:Ending→World→Prop} {n:Nat} {E:Env} {w:World} {a T t b Tb s:Nat} {ti:TI} {v:Value} {cs:List Value}
theorem rM (hT:G.ty T=some ti) (hag:ti.agg=true) (hsz:ti.size=s) (hb:gQ w b cs Tb) (hl:cs.length=s):(loadVar T ⟨b,0,none⟩).run G.P w=.ok (.agg cs.toArray) w:=by
 have h1:=(G.iT T ti hT).agg w
 have h2:=(G.iT T ti hT).size w
 rw[hag]at h1
 subst hl
 have h3:=run_loadCells (P:=G.P) (w:=w) (bk:=b) cs 0 0 #[] (fun j hj=>by
  have:=hb.cell (j:=j) (Pw hj)
  rw[Pw hj,←this];simp)
 simp[loadVar,h1,h2,hsz,loadCells,h3]
theorem Fin.bB {e:Exit} (he:e=.ret∨e=.normal) (hr:fn.results=#[.cell a T]) (ha:lk E a=some (.pointer (some ⟨b,0,none⟩))) (hT:G.ty T=some ti) (hag:ti.agg=true) (hsz:ti.size=s) (hb:gQ w b cs Tb) (hl:cs.length=s) (hR:R (.returned (.agg cs.toArray)) w):Fin (bodyPost G.P fn R) n e E w:=
 Fin.qN he (fun ac hac=>by
  have h3:=rM hT hag hsz hb hl
  have g1:ac.tmps[a]?.getD undef=.pointer (some ⟨b,0,none⟩):=by have:=(hac.eq a _ ha).2;simpa using this
  simp[results,hr,g1,asAddr,h3]) hR
theorem Fin.aM {e:Exit} (he:e=.ret∨e=.normal) (hr:fn.results=#[.cell a T,.tmp t]) (ha:lk E a=some (.pointer (some ⟨b,0,none⟩))) (hT:G.ty T=some ti) (hag:ti.agg=true) (hsz:ti.size=s) (hb:gQ w b cs Tb) (hl:cs.length=s) (hv:lk E t=some v) (hR:R (.returned (.tuple #[.agg cs.toArray,v])) w):Fin (bodyPost G.P fn R) n e E w:=
 Fin.qN he (fun ac hac=>by
  have h3:=rM hT hag hsz hb hl
  have g1:ac.tmps[a]?.getD undef=.pointer (some ⟨b,0,none⟩):=by have:=(hac.eq a _ ha).2;simpa using this
  have g2:ac.tmps[t]?.getD undef=v:=by have:=(hac.eq t _ hv).2;simpa using this
  simp[results,hr,g1,g2,asAddr,h3]) hR
end
structure bu where
 F:Nat→Prop
 P:World→Prop
 st:∀{S:Nat→Prop} {w w':World},P w→bX S w w'→(∀k,k<w.heap.size→F k→¬S k)→P w'
def Mb (M:List bu) (k:Nat):Prop:=∃q,q∈M∧q.F k
structure Ok (M:List bu) (R:List (World→Prop)) (w:World):Prop where
 m:∀q,q∈M→q.P w∧∀k,q.F k→k<w.heap.size
 d:M.Pairwise fun a b=>∀k,a.F k→¬b.F k
 r:∀p,p∈R→∀w',bX (Mb M) w w'→p w'
section
variable {M M':List bu} {R R':List (World→Prop)} {w w':World} {q q':bu} {p:World→Prop}
theorem Ok.step (h:Ok M R w) (hc:bX (Mb M) w w') (hm:∀q,q∈M'→q.P w'∧∀k,q.F k→k<w'.heap.size) (hd:M'.Pairwise fun a b=>∀k,a.F k→¬b.F k) (hs:∀k,Mb M' k→k<w.heap.size→Mb M k):Ok M' R w':=
 ⟨hm,hd,fun p hp w2 h2=>h.r p hp w2 (hc.trans' h2 fun i hi hm=>hs i hm hi)⟩
theorem Ok.ext (h:Ok M R w) (hx:Ext w w'):Ok M R w':=
 h.step hx.any (fun q hq=>⟨q.st (h.m q hq).1 hx (fun _ _ _ e=>e),fun k hk=>PB ((h.m q hq).2 k hk) hx.size⟩) h.d (fun _ hk _=>hk)
theorem Ok.drew (h:Ok M R w):Ok M R w.drew:=h.ext ((bX.refl _ w).drew)
theorem Ok.get (h:Ok M R w) (hp:p∈R):p w:=h.r p hp w (bX.refl _ _)
theorem Ok.add (h:Ok M R w) (hp:∀w',bX (Mb M) w w'→p w'):Ok M (p::R) w:=
 ⟨h.m,h.d,fun x hx=>by exact(PF.1 hx).elim (fun e=>e ▸ hp) (h.r x)⟩
theorem Ok.lj (h:Ok M R w) (hp:∀w',(∀r,r∈R→r w')→p w'):Ok M (p::R) w:=h.add fun w' hc=>hp w' fun r hr=>h.r r hr w' hc
theorem Ok.push (h:Ok M R w) (hx:Ext w w') (hq:q.P w') (hl:∀k,q.F k→w.heap.size≤k∧k<w'.heap.size):Ok (q::M) R w':=by
 refine h.step hx.any (fun x hx'=>?_) (P0.2 ⟨fun x hx' k hk hk'=>?_,h.d⟩) (fun k hk hlt=>?_)
 ·rcases PF.1 hx' with rfl|hx'
  ·exact⟨hq,fun k hk=>(hl k hk).2⟩
  ·exact⟨x.st (h.m x hx').1 hx (fun _ _ _ e=>e),fun k hk=>PB ((h.m x hx').2 k hk) hx.size⟩
 ·have:=(h.m x hx').2 k hk';have:=(hl k hk).1;omega
 ·obtain⟨x,hx',hk⟩:=hk
  rcases PF.1 hx' with rfl|hx'
  ·have:=(hl k hk).1;omega
  ·exact⟨x,hx',hk⟩
theorem Ok.sub (h:Ok M R w) (hM:M'.Sublist M) (hR:∀p,p∈R'→p∈R):Ok M' R' w:=by
 have h1:Ok M' R w:=h.step (bX.refl _ w) (fun q hq=>h.m q (hM.subset hq)) (h.d.sublist hM) (fun k ⟨q,hq,hk⟩ _=>⟨q,hM.subset hq,hk⟩)
 exact⟨h1.m,h1.d,fun p hp=>h1.r p (hR p hp)⟩
end
inductive Up (q q':bu):List bu→List bu→Prop
 |head {l:List bu}:Up q q' (q::l) (q'::l)
 |tail {a:bu} {l l':List bu}:Up q q' l l'→Up q q' (a::l) (a::l')
inductive Rm (q:bu):List bu→List bu→Prop
 |head {l:List bu}:Rm q (q::l) l
 |tail {a:bu} {l l':List bu}:Rm q l l'→Rm q (a::l) (a::l')
section
variable {M M':List bu} {R R':List (World→Prop)} {w w':World} {q q':bu} {p:World→Prop}
theorem Up.mem (h:Up q q' M M'):q∈M:=by induction h with|head=>simp|tail _ ih=>simp[ih]
theorem Ok.qj (h:Ok M R w) (hu:Up q q' M M') (hc:bX q.F w w') (hq:q'.P w') (hl:∀k,q'.F k→k<w'.heap.size∧(k<w.heap.size→q.F k)):Ok M' R w':=by
  have hqm:=h.m q hu.mem
 -- footprint kept within the old one or new
  have key:∀x:bu,(∀k,x.F k→k<w.heap.size)→(∀k,q.F k→¬x.F k)→∀k,q'.F k→¬x.F k:=fun x hx hd k hk hk'=>hd k ((hl k hk).2 (hx k hk')) hk'
  have hd2:M.Pairwise fun a b=>((∀k,a.F k→k<w.heap.size)∨a=q')∧True:=by
    exact List.pairwise_of_forall_mem_list (fun a ha b hb=>⟨.inl (h.m a ha).2,trivial⟩)
  have hpw:M'.Pairwise (fun a b=>∀k,a.F k→¬b.F k)∧∀x,x∈M'→x=q'∨(x∈M∧∀k,q.F k→¬x.F k):=by
    have:=hu
    clear hd2
    have hm:=h.m
    have hd:=h.d
    clear h hqm
    induction hu with
    |head=>
      rw[P0]at hd ⊢
      refine⟨⟨fun x hx=>key x (hm x (by simp[hx])).2 (hd.1 x hx),hd.2⟩,fun x hx=>?_⟩
      rcases PF.1 hx with rfl|hx
      · exact .inl rfl
      · exact .inr ⟨by simp[hx],hd.1 x hx⟩
    |@tail a l l' hu ih=>
      rw[P0]at hd ⊢
      obtain⟨h1,h2⟩:=ih hu (fun q hq=>hm q (by simp[hq])) hd.2
      have haq:∀k,q.F k→¬a.F k:=fun k h1 h2=>hd.1 q hu.mem k h2 h1
      refine⟨⟨fun x hx=>?_,h1⟩,fun x hx=>?_⟩
      · rcases h2 x hx with rfl|⟨hx,_⟩
        · exact fun k h1 h2=>key a (hm a Pj).2 haq k h2 h1
        · exact hd.1 x hx
      · rcases PF.1 hx with rfl|hx
        · exact .inr ⟨by simp,haq⟩
        · rcases h2 x hx with rfl|⟨hx,hr⟩
          · exact .inl rfl
          · exact .inr ⟨by simp[hx],hr⟩
  refine h.step (hc.mono fun k _ hk=>⟨q,hu.mem,hk⟩) (fun x hx=>?_) hpw.1 (fun k ⟨x,hx,hk⟩ hlt=>?_)
  · rcases hpw.2 x hx with rfl|⟨hx,hd⟩
    · exact⟨hq,fun k hk=>(hl k hk).1⟩
    · exact⟨x.st (h.m x hx).1 hc (fun k _ h1 h2=>hd k h2 h1),fun k hk=>PB ((h.m x hx).2 k hk) hc.size⟩
  · rcases hpw.2 x hx with rfl|⟨hx,_⟩
    · exact⟨q,hu.mem,(hl k hk).2 hlt⟩
    · exact⟨x,hx,hk⟩
theorem Rm.sub (h:Rm q M M'):M'.Sublist M:=by
 induction h with
 |head=>exact List.sublist_cons_self _ _
 |tail _ ih=>exact ih.cons_cons _
theorem Rm.mem (h:Rm q M M'):q∈M:=by induction h with|head=>simp|tail _ ih=>simp[ih]
theorem Rm.Ku (h:Rm q M M') (hd:M.Pairwise fun a b=>∀k,a.F k→¬b.F k):∀x,x∈M'→∀k,q.F k→¬x.F k:=by
 induction h with
 |head=>exact(P0.1 hd).1
 |tail hr ih=>
  rw[P0]at hd
  intro x hx k h1 h2
  rcases PF.1 hx with rfl|hx
  ·exact hd.1 q hr.mem k h2 h1
  ·exact ih hd.2 x hx k h1 h2
theorem Ok.freeze (h:Ok M R w) (hr:Rm q M M') (hp:∀w',q.P w'→p w'):Ok M' (p::R) w:=by
 have h1:=h.sub hr.sub (fun p hp=>hp)
 refine h1.add fun w' hc=>hp w' (q.st (h.m q hr.mem).1 hc fun k _ hk ⟨x,hx,hk'⟩=>hr.Ku h.d x hx k hk hk')
theorem Ok.ni (h:Ok M R w) (hr:Rm q M M') (hp:∀w',q.P w'→(∀r,r∈R→r w')→p w'):Ok M' (p::R) w:=by
 have h1:=h.freeze hr (p:=q.P) (fun _ h=>h)
 have h2:=h1.lj (p:=p) (fun w' hw=>hp w' (hw _ Pj) (fun r hr=>hw r (by simp[hr])))
 exact h2.sub (List.Sublist.refl _) (fun x hx=>by rcases PF.1 hx with rfl|hx<;>simp[*])
end
def bu.aW (b:Nat) (cs:List Value) (T:TypeId):bu:=⟨fun k=>k=b,fun w=>gQ w b cs T,fun h hc hd=>h.aN hc (hd b h.lt rfl)⟩
def bu.own (B T s:Nat) (v:Value) (n:Nat) (cs:List Value):bu:=⟨fun k=>v.ownBlock=some k,fun w=>w.ownsRow B T s v n cs,fun h hc hd=>cm h hc (fun k hk=>hd k (h.lt k hk).2 hk)⟩
def cl (b o:Nat) (v:Value):World→Prop:=fun w=>w.cell? ⟨b,o,none⟩=some v
def Cs (b o:Nat) (cs:List Value):World→Prop:=fun w=>∀j,j<cs.length→w.cell? ⟨b,o+j,none⟩=cs[j]?
inductive Ld (w:World) (b o:Nat) (v:Value):List bu→List (World→Prop)→Prop
 |aW {cs:List Value} {T:TypeId} {M:List bu} {R:List (World→Prop)} (h:cs[o]?=some v):Ld w b o v (.aW b cs T::M) R
 |mh {a:bu} {M:List bu} {R:List (World→Prop)}:Ld w b o v M R→Ld w b o v (a::M) R
 |cl {R:List (World→Prop)}:Ld w b o v [] (cl b o v::R)
 |cs {o':Nat} {cs:List Value} {R:List (World→Prop)} (j:Nat) (e:o'+j=o) (h:cs[j]?=some v):Ld w b o v [] (Cs b o' cs::R)
 |CA {w0:World} {R:List (World→Prop)} (h:w0.cell? ⟨b,o,none⟩=some v):Ld w b o v [] (Ext w0::R)
 |mi {p:World→Prop} {R:List (World→Prop)}:Ld w b o v [] R→Ld w b o v [] (p::R)
variable {Q:Exit→Act→World→Prop} {n:Nat} {D:List Deferred} {a:Act} {E:Env} {w:World}
theorem Ld.ok {b o:Nat} {v:Value} {M:List bu} {R:List (World→Prop)} (h:Ld w b o v M R) (hM:∀q,q∈M→q.P w) (hR:∀p,p∈R→p w):w.cell? ⟨b,o,none⟩=some v:=by
 induction h with
 |@aW cs T M R h=>exact gQ.cell (hM (.aW b cs T) Pj) h
 |mh _ ih=>exact ih (fun q hq=>hM q (by simp[hq])) hR
 |cl=>exact hR (Go.Proofs.YtdkcljdfbemnbaaGreatDoor.cl b o v) Pj
 |@cs o' cs R j e h=>
  have:=hR (Cs b o' cs) Pj
  rw[←e,←h];exact this j (PR.1 h).1
 |@CA w0 _ h=>exact(show Ext w0 w from hR (Ext w0) Pj).cell h
 |mi _ ih=>exact ih hM (fun q hq=>hR q (by simp[hq]))
inductive fX (v:Value):List Value→Nat→List Value→Prop
 |zero {a:Value} {l:List Value}:fX v (a::l) 0 (v::l)
 |succ {a:Value} {l l':List Value} {j:Nat}:fX v l j l'→fX v (a::l) (j+1) (a::l')
theorem fX.eq {v:Value} {l l':List Value} {j:Nat} (h:fX v l j l'):l.set j v=l'∧j<l.length:=by
 induction h with
 |zero=>simp
 |succ _ ih=>simp[ih.1,ih.2]
structure aa (ops:Array Oper) (Q:Exit→Act→World→Prop) (n:Nat) (l:List Oper) (E:Env) (M:List bu) (R:List (World→Prop)):Prop where
 h:∀w,Ok M R w→aq G ops (.list Q w) n l E
structure bh (Q:Exit→Act→World→Prop) (n:Nat) (c:Code) (E:Env) (M:List bu) (R:List (World→Prop)):Prop where
 h:∀w,Ok M R w→Cd G Q n c E w
structure ah (Q:Exit→Act→World→Prop) (n:Nat) (e:Exit) (E:Env) (M:List bu) (R:List (World→Prop)):Prop where
 h:∀w,Ok M R w→Fin Q n e E w
theorem Yl.mono {op:Op} {E:Env} {C C':World→Prop} {v:Value} (h:Yl G n op E C v) (hc:∀w,C' w→C w):Yl G n op E C' v:=⟨fun w hw=>h.h w (hc w hw)⟩
section
variable {ops:Array Oper} {Q:Exit→Act→World→Prop} {n:Nat} {E:Env} {M M':List bu} {R R':List (World→Prop)} {rest l:List Oper} {op:Op} {d:Nat} {ty:TypeId} {pos:String} {aft:Array Edge} {v:Value} {x y z:Operand} {t:TypeId}
theorem bh.seq {x y:Code} (h:bh (Exit.then (y.wp G.P Q) Q) n x E M R):bh Q n (.seq x y) E M R:=⟨fun w hw=>Cd.seq (h.h w hw)⟩
theorem bh.block {id:Nat} {c:Code} (h:bh (Exit.inBlock id Q) n c E M R):bh Q n (.block id c) E M R:=⟨fun w hw=>Cd.block (h.h w hw)⟩
theorem bh.skip (h:ah Q n .normal E M R):bh Q n .skip E M R:=⟨fun w hw=>Cd.skip (h.h w hw)⟩
theorem bh.exit {id:Nat} (h:ah Q n (.exit id) E M R):bh Q n (.exit id) E M R:=⟨fun w hw=>Cd.exit (h.h w hw)⟩
theorem bh.ret (h:ah Q n .ret E M R):bh Q n .ret E M R:=⟨fun w hw=>Cd.ret (h.h w hw)⟩
theorem bh.region {id:Nat} {l:List Oper} (h:aa l.toArray Q n l E M R):bh Q n (.region id l.toArray false) E M R:=⟨fun w hw=>Cd.region (h.h w hw)⟩
theorem bh.jf {c:Operand} {x y:Code} (hc:ev E c=some (.bool true)) (h:bh Q n x E M R):bh Q n (.cond c x y) E M R:=⟨fun w hw=>Cd.jf hc (h.h w hw)⟩
theorem bh.je {c:Operand} {x y:Code} (hc:ev E c=some (.bool false)) (h:bh Q n y E M R):bh Q n (.cond c x y) E M R:=⟨fun w hw=>Cd.je hc (h.h w hw)⟩
theorem bh.Cx {b:Bool} {c:Operand} {x y:Code} (hc:ev E c=some (.bool b)) (hx:b=true→bh Q n x E M R) (hy:b=false→bh Q n y E M R):bh Q n (.cond c x y) E M R:=by
 cases b with
 |true=>exact bh.jf hc (hx rfl)
 |false=>exact bh.je hc (hy rfl)
theorem ah.lf {y:Code} (h:bh Q n y E M R):ah (Exit.then (y.wp G.P Q) Q) n .normal E M R:=⟨fun w hw=>Fin.lf (h.h w hw)⟩
theorem ah.lg {K:Act→World→Prop} (h:ah Q n .ret E M R):ah (Exit.then K Q) n .ret E M R:=⟨fun w hw=>Fin.lg (h.h w hw)⟩
theorem ah.lh {K:Act→World→Prop} {id:Nat} (h:ah Q n (.exit id) E M R):ah (Exit.then K Q) n (.exit id) E M R:=⟨fun w hw=>Fin.lh (h.h w hw)⟩
theorem ah.pR {id:Nat} (h:ah Q n .normal E M R):ah (Exit.inBlock id Q) n .normal E M R:=⟨fun w hw=>Fin.pR (h.h w hw)⟩
theorem ah.pS {id:Nat} (h:ah Q n .ret E M R):ah (Exit.inBlock id Q) n .ret E M R:=⟨fun w hw=>Fin.pS (h.h w hw)⟩
theorem ah.pT {id:Nat} (h:ah Q n .normal E M R):ah (Exit.inBlock id Q) n (.exit id) E M R:=⟨fun w hw=>Fin.pT (h.h w hw)⟩
theorem ah.xV {id id':Nat} (hne:PK id' id=false) (h:ah Q n (.exit id') E M R):ah (Exit.inBlock id Q) n (.exit id') E M R:=⟨fun w hw=>Fin.xV hne (h.h w hw)⟩
theorem aa.nil (h:ah Q n .normal E M R):aa ops Q n [] E M R:=⟨fun w hw=>aq.nil (h.h w hw)⟩
theorem aa.y_ (hy:Yl G n op E (Ok M R) v) (hd:(qo op && Pt d n)=true) (h:aa ops Q n rest ((d,v)::E) M R):aa ops Q n (⟨some d,op,ty,pos,aft,none⟩::rest) E M R:=
 ⟨fun w hw=>aq.y (M:=.list Q w) (hy.mono (by rintro _ rfl;exact hw)) hd (h.h w hw)⟩
theorem aa.yg {j:Nat} {b:Bool} (hg:qn ops E j=some b) (hy:Yl G n op E (Ok M R) v) (hd:(qo op && Pt d n)=true) (h:aa ops Q n rest ((d,v)::E) M R):aa ops Q n (⟨some d,op,ty,pos,aft,some (j,b)⟩::rest) E M R:=
 ⟨fun w hw=>aq.yg (M:=.list Q w) hg (hy.mono (by rintro _ rfl;exact hw)) hd (h.h w hw)⟩
theorem aa.gs {j:Nat} {b b':Bool} (hg:qn ops E j=some b') (hb:b'=!b) (hd:Pt d n=true) (h:aa ops Q n rest ((d,undef)::E) M R):aa ops Q n (⟨some d,op,ty,pos,aft,some (j,b)⟩::rest) E M R:=⟨fun w hw=>aq.gs hg hb hd (h.h w hw)⟩
theorem aa.gu {j:Nat} {b:Bool} (hg:JF ops E j=true) (hd:Pt d n=true) (h:aa ops Q n rest ((d,undef)::E) M R):aa ops Q n (⟨some d,op,ty,pos,aft,some (j,b)⟩::rest) E M R:=⟨fun w hw=>aq.gu hg hd (h.h w hw)⟩
theorem aa.e {K:World→Value→World→Prop} (he:∀w,Ok M R w→bU G n op E w (K w)) (hd:Pt d n=true) (h:∀w v w',Ok M R w→K w v w'→aq G ops (.list Q w') n rest ((d,v)::E)):aa ops Q n (⟨some d,op,ty,pos,aft,none⟩::rest) E M R:=⟨fun w hw=>aq.e (he w hw) hd fun v w' hk=>h w v w' hw hk⟩
theorem aa.e0 {K:World→Value→World→Prop} (he:∀w,Ok M R w→bU G n op E w (K w)) (h:∀w v w',Ok M R w→K w v w'→aq G ops (.list Q w') n rest E):aa ops Q n (⟨none,op,ty,pos,aft,none⟩::rest) E M R:=⟨fun w hw=>aq.e0 (he w hw) fun v w' hk=>h w v w' hw hk⟩
theorem aa.lj (p:World→Prop) (hp:∀w',(∀r,r∈R→r w')→p w') (h:aa ops Q n l E M (p::R)):aa ops Q n l E M R:=⟨fun w hw=>h.h w (hw.lj hp)⟩
theorem bh.lj {c:Code} (p:World→Prop) (hp:∀w',(∀r,r∈R→r w')→p w') (h:bh Q n c E M (p::R)):bh Q n c E M R:=⟨fun w hw=>h.h w (hw.lj hp)⟩
theorem aa.sub {E':Env} (hE:Sub E E') (hM:M'.Sublist M) (hR:∀p,p∈R'→p∈R) (h:aa ops Q n l E' M' R'):aa ops Q n l E M R:=⟨fun w hw=>aq.sub hE (h.h w (hw.sub hM hR))⟩
structure HE {β:Type} (n:Nat) (op:Op) (E:Env) (M:List bu) (R:List (World→Prop)) (φ:β→Prop) (vf:β→Value) (Mf:β→List bu) (Rf:β→List (World→Prop)):Prop where
 h:∀w,Ok M R w→bU G n op E w (fun v w'=>∃x,φ x∧v=vf x∧Ok (Mf x) (Rf x) w')
structure gj {β:Type} (n:Nat) (op:Op) (E:Env) (M:List bu) (R:List (World→Prop)) (φ:β→Prop) (Mf:β→List bu) (Rf:β→List (World→Prop)):Prop where
 h:∀w,Ok M R w→bU G n op E w (fun _ w'=>∃x,φ x∧Ok (Mf x) (Rf x) w')
section
variable {β:Type} {φ:β→Prop} {vf:β→Value} {Mf:β→List bu} {Rf:β→List (World→Prop)}
theorem aa.he (he:HE n op E M R φ vf Mf Rf) (hd:Pt d n=true) (h:∀x,φ x→aa ops Q n rest ((d,vf x)::E) (Mf x) (Rf x)):aa ops Q n (⟨some d,op,ty,pos,aft,none⟩::rest) E M R:=
 aa.e (fun w hw=>he.h w hw) hd fun w v w' hw ⟨x,h1,h2,h3⟩=>by subst h2;exact(h x h1).h w' h3
theorem aa.jO (he:gj n op E M R φ Mf Rf) (h:∀x,φ x→aa ops Q n rest E (Mf x) (Rf x)):aa ops Q n (⟨none,op,ty,pos,aft,none⟩::rest) E M R:=
 aa.e0 (fun w hw=>he.h w hw) fun _w _v w' _hw ⟨x,h1,h3⟩=>(h x h1).h w' h3
theorem aa.J0 {j:Nat} {b:Bool} (hg:qn ops E j=some b) (he:HE n op E M R φ vf Mf Rf) (hd:Pt d n=true) (h:∀x,φ x→aa ops Q n rest ((d,vf x)::E) (Mf x) (Rf x)):aa ops Q n (⟨some d,op,ty,pos,aft,some (j,b)⟩::rest) E M R:=
 ⟨fun w hw=>aq.eg hg (he.h w hw) hd fun v w' ⟨x,h1,h2,h3⟩=>by subst h2;exact(h x h1).h w' h3⟩
end
theorem tw {w w':World} {cs:List Value} {T:TypeId} (hn:zk w w' cs T):∀k,(bu.aW w.heap.size cs T).F k→w.heap.size≤k∧k<w'.heap.size:=fun k hk=>by
 have:k=w.heap.size:=hk
 have:=hn.size;omega
theorem HE.alloc {ti:TI} (cs:List Value) (ht:G.ty t=some ti) (hz:ti.zero.cells.toList=cs):HE n (.alloc t) E M R (fun _:Nat=>True) (fun b=>.pointer (some ⟨b,0,none⟩)) (fun b=>.aW b cs t::M) (fun _=>R):=
 ⟨fun w hw=>(bU.alloc ht).mono fun v w' ⟨e,hn⟩=>by rw[hz]at hn;exact⟨w.heap.size,trivial,e,hw.push hn.ext hn.aW (tw hn)⟩⟩
theorem HE.box (cs:List Value) (hx:ev E x=some v) (hcs:v.cells=cs.toArray):HE n (.box t x) E M R (fun _:Nat=>True) (fun b=>.pointer (some ⟨b,0,none⟩)) (fun b=>.aW b cs t::M) (fun _=>R):=
 ⟨fun w hw=>(bU.box hx hcs).mono fun _v _w' ⟨e,hn⟩=>⟨w.heap.size,trivial,e,hw.push hn.ext hn.aW (tw hn)⟩⟩
theorem HE.H2 {e len:Nat} {parts:List (Nat×Operand)} {vs:List Value} (cs:List Value) (hv:kJ E (parts.map (·.2))=some vs)
  (hr:∀w,(Instr.buildSlice t len ((parts.map (·.1)).zip vs).toArray).run G.P w=.ok (.slice (some ⟨w.heap.size,0,none⟩) len len) (w.alloc (.cells cs.toArray e))):
  HE n (.buildSlice t len parts.toArray) E M R (fun _:Nat=>True) (fun b=>.slice (some ⟨b,0,none⟩) len len) (fun b=>.aW b cs e::M) (fun _=>R):=
 ⟨fun w hw=>(bU.buildSlice hv (hr w)).mono fun _v _w' ⟨e1,hn⟩=>⟨w.heap.size,trivial,e1,hw.push hn.ext hn.aW (tw hn)⟩⟩
theorem aa.alloc {ti:TI} (cs:List Value) (ht:G.ty t=some ti) (hz:ti.zero.cells.toList=cs) (hd:Pt d n=true) (h:∀b,aa ops Q n rest ((d,.pointer (some ⟨b,0,none⟩))::E) (.aW b cs t::M) R):aa ops Q n (⟨some d,.alloc t,ty,pos,aft,none⟩::rest) E M R:=
 aa.he (HE.alloc cs ht hz) hd fun b _=>h b
theorem aa.box (cs:List Value) (hx:ev E x=some v) (hcs:v.cells=cs.toArray) (hd:Pt d n=true) (h:∀b,aa ops Q n rest ((d,.pointer (some ⟨b,0,none⟩))::E) (.aW b cs t::M) R):aa ops Q n (⟨some d,.box t x,ty,pos,aft,none⟩::rest) E M R:=
 aa.he (HE.box cs hx hcs) hd fun b _=>h b
theorem xW {w w':World} {b T:Nat} {old cs:List Value} (hw:Ok M R w) (hM:Up (.aW b old T) (.aW b cs T) M M') (hb:gQ w' b cs T) (hc:bX (fun k=>k=b) w w'):Ok M' R w':=
 hw.qj hM hc hb (fun k hk=>by
  have:k=b:=hk
  have:=(hw.m _ hM.mem).2 b rfl
  have:=hc.size
  exact⟨by omega,fun _=>hk⟩)
theorem gj.bn {ti:TI} {b T:Nat} {old:List Value} (cs:List Value) (ht:G.ty t=some ti) (hx:ev E x=some (.pointer (some ⟨b,0,none⟩))) (hy:ev E y=some v) (hcs:v.cells=cs.toArray) (hs:ti.size=cs.length) (hv:(cs.all fun u=>u.oneCell')=true)
  (hM:Up (.aW b old T) (.aW b cs T) M M') (hl:PK old.length cs.length=true):gj n (.store t x y) E M R (fun _:Unit=>True) (fun _=>M') (fun _=>R):=
 ⟨fun _w hw=>(bU.bn ht hx hy hcs hs (fun u hu=>PC.1 hv u hu) (hw.m _ hM.mem).1 (PW hl)).mono fun _ _w' ⟨hb,hc,_⟩=>⟨(),trivial,xW hw hM hb hc⟩⟩
theorem aa.bn {ti:TI} {b T:Nat} {old:List Value} (cs:List Value) (ht:G.ty t=some ti) (hx:ev E x=some (.pointer (some ⟨b,0,none⟩))) (hy:ev E y=some v) (hcs:v.cells=cs.toArray) (hs:ti.size=cs.length) (hv:(cs.all fun u=>u.oneCell')=true)
  (hM:Up (.aW b old T) (.aW b cs T) M M') (hl:PK old.length cs.length=true) (h:aa ops Q n rest E M' R):aa ops Q n (⟨none,.store t x y,ty,pos,aft,none⟩::rest) E M R:=
 aa.jO (gj.bn cs ht hx hy hcs hs hv hM hl) fun _ _=>h
theorem gj.gz {ti:TI} {b j T:Nat} {old cs:List Value} (ht:G.ty t=some ti) (hs:ti.size=1) (hx:ev E x=some (.pointer (some ⟨b,j,none⟩))) (hy:ev E y=some v) (hv:v.oneCell'=true)
  (hM:Up (.aW b old T) (.aW b cs T) M M') (hcs:fX v old j cs):gj n (.store t x y) E M R (fun _:Unit=>True) (fun _=>M') (fun _=>R):=
 ⟨fun w hw=>(bU.B9 ht hs hx hy hv (hw.m _ hM.mem).1 hcs.eq.2).mono fun _ w' ⟨hb,hc,_⟩=>by
  rw[hcs.eq.1]at hb;exact⟨(),trivial,xW hw hM hb hc⟩⟩
theorem aa.gz {ti:TI} {b j T:Nat} {old cs:List Value} (ht:G.ty t=some ti) (hs:ti.size=1) (hx:ev E x=some (.pointer (some ⟨b,j,none⟩))) (hy:ev E y=some v) (hv:v.oneCell'=true)
  (hM:Up (.aW b old T) (.aW b cs T) M M') (hcs:fX v old j cs) (h:aa ops Q n rest E M' R):aa ops Q n (⟨none,.store t x y,ty,pos,aft,none⟩::rest) E M R:=
 aa.jO (gj.gz ht hs hx hy hv hM hcs) fun _ _=>h
theorem HE.app {Mf:Value→List bu} {ti te:TI} {B T s m bk Tb:Nat} {xs cs:List Value} (hx:ev E x=some v) (hy:ev E y=some (.slice (some ⟨bk,0,none⟩) 1 1)) (hM:∀v',Up (.own B T s v m xs) (.own B T s v' (m+1) (xs++cs)) M (Mf v')) (hb:Up (.aW bk cs Tb) (.aW bk cs Tb) M M')
  (ht:G.ty t=some ti) (he:ti.elem=some T) (hte:G.ty T=some te) (hs:te.size=s) (hzs:PK te.zero.cells.size te.size=true) (hsz:Pt 0 te.size=true) (hbt:PM te.bytes 1000=true) (hcl:PK cs.length s=true) (h1:(cs.all fun u=>u.oneCell')=true) (_hlen:m≤100000000000) (hB:∀w,Ok M R w→B≤w.heap.size):
  HE n (.call ⟨.builtin .append,#[x,y],#[t,t]⟩) E M R (fun _:Value=>True) (fun v'=>v') Mf (fun _=>R):=
 ⟨fun w hw=>by
  subst hs
  have hm:=(hw.m _ (hM undef).mem)
  have hbk:gQ w bk cs Tb:=(hw.m _ hb.mem).1
  have hcl':=PW hcl
  have hbt':=PX hbt
  refine(bU.oT (G:=G) (news:=cs) ht he hte (PW hzs) (by simpa using hsz) hx hm.1 hy (by rw[hcl'];omega) (fun j u hj=>by rw[Ps];exact hbk.cell hj) (fun u hu=>PC.1 h1 u hu) O4 (by have:=Nat.mul_le_mul (show m+1≤100000000001 by omega) hbt';omega) (hB w hw)).mono
   fun v' w' ⟨ho,hc,hob⟩=>⟨v',trivial,rfl,hw.qj (hM v') hc ho fun k hk=>⟨(ho.lt k hk).2,fun hlt=>?_⟩⟩
  rcases hob with e|e
  ·show v.ownBlock=some k
   rw[←e];exact hk
  ·have hk':v'.ownBlock=some k:=hk
   rw[e]at hk';cases hk';omega⟩
theorem Yl.mN {ti:TI} {b o:Nat} (ht:G.ty t=some ti) (ha:ti.agg=false) (hx:ev E x=some (.pointer (some ⟨b,o,none⟩))) (h:∀w,Ld w b o v M R):Yl G n (.load t x) E (Ok M R) v:=
 Yl.load ht ha hx fun w hw=>(h w).ok (fun q hq=>(hw.m q hq).1) (fun _p hp=>hw.get hp)
theorem Yl.mL {ti:TI} {b T:Nat} {cs:List Value} (ht:G.ty t=some ti) (ha:ti.agg=true) (hx:ev E x=some (.pointer (some ⟨b,0,none⟩))) (hs:PK cs.length ti.size=true) (hM:Up (.aW b cs T) (.aW b cs T) M M'):Yl G n (.load t x) E (Ok M R) (.agg cs.toArray):=
 Yl.rZ ht ha rfl hx (PW hs) fun w hw j hj=>by
  have hb:gQ w b cs T:=(hw.m _ hM.mem).1
  have hl:j<cs.length:=by rw[PW hs];exact hj
  rw[Ps,Pw hl]
  exact hb.cell (Pw hl)
theorem Yl.mM {ti:TI} {b o:Nat} {cs:List Value} (ht:G.ty t=some ti) (ha:ti.agg=true) (hx:ev E x=some (.pointer (some ⟨b,o,none⟩))) (hR:Cs b o cs∈R) (hs:PK cs.length ti.size=true):Yl G n (.load t x) E (Ok M R) (.agg cs.toArray):=
 Yl.rZ ht ha rfl hx (PW hs) fun w hw j hj=>hw.get hR j (by rw[PW hs];exact hj)
theorem Yl.ji {ti:TI} {b o s:Nat} {cs:List Value} {w0:World} (ht:G.ty t=some ti) (ha:ti.agg=true) (hx:ev E x=some (.pointer (some ⟨b,o,none⟩))) (hR:Ext w0∈R) (hs:ti.size=s) (hl:cs.length=s) (hc:∀j,j<s→w0.cell? ⟨b,o+j,none⟩=cs[j]?):Yl G n (.load t x) E (Ok M R) (.agg cs.toArray):=
 Yl.rZ ht ha hs hx hl fun w hw j hj=>by
  have h1:=hc j hj
  rw[Pw Pi]at h1 ⊢
  exact(show Ext w0 w from hw.get hR).cell h1
theorem aa.av {f:Nat} {args:List Operand} {tys:Array TypeId} {vs:List Value} (hf:G.fb[f]?=some true) (ha:kJ E args=some vs) (hd:Pt d n=true)
  (hc:∀w,Ok M R w→Calls G.P f vs.toArray w (fun e w'=>e=.returned v∧Ext w w'))
  (h:aa ops Q n rest ((d,v)::E) M R):aa ops Q n (⟨some d,.call ⟨.value (.func f),args.toArray,tys⟩,ty,pos,aft,none⟩::rest) E M R:=
 ⟨fun w hw=>aq.call hf ha hd (hc w hw) fun _e w' ⟨e1,hx⟩=>⟨v,e1,h.h w' (hw.ext hx)⟩⟩
theorem aa.cB {f j:Nat} {b:Bool} {args:List Operand} {tys:Array TypeId} {vs:List Value} (hg:qn ops E j=some b) (hf:G.fb[f]?=some true) (ha:kJ E args=some vs) (hd:Pt d n=true)
  (hc:∀w,Ok M R w→Calls G.P f vs.toArray w (fun e w'=>e=.returned v∧Ext w w'))
  (h:aa ops Q n rest ((d,v)::E) M R):aa ops Q n (⟨some d,.call ⟨.value (.func f),args.toArray,tys⟩,ty,pos,aft,some (j,b)⟩::rest) E M R:=
 ⟨fun w hw=>aq.xg hg hf ha hd (hc w hw) fun _e w' ⟨e1,hx⟩=>⟨v,e1,h.h w' (hw.ext hx)⟩⟩
def Hv {β:Type} (V:Nat→World→β→Prop):Prop:=∀{lo:Nat} {x:β} {S:Nat→Prop} {w w':World},V lo w x→bX S w w'→(∀k,k<w.heap.size→lo≤k→¬S k)→V lo w' x
theorem HE.IZ {β:Type} {V:Nat→World→β→Prop} (tf:β→Value) {f:Nat} {args:List Operand} {tys:Array TypeId} {vs:List Value} (hV:Hv V) (hf:G.fb[f]?=some true) (ha:kJ E args=some vs)
  (hc:∀w,Ok M R w→Calls G.P f vs.toArray w (fun e w'=>(∃x,e=.returned (tf x)∧V w.heap.size w' x)∧Ext w w')):
  HE n (.call ⟨.value (.func f),args.toArray,tys⟩) E M R (fun x:Nat×β=>∃w,Ok M R w∧x.1=w.heap.size) (fun x=>tf x.2) (fun _=>M) (fun x=>(fun w=>V x.1 w x.2)::R):=
 ⟨fun w hw=>(bU.call hf ha (hc w hw) (fun e w' h=>by obtain⟨⟨x,e1,_⟩,_⟩:=h;exact⟨_,e1⟩)).mono fun v w' ⟨⟨x,e1,hv⟩,hx⟩=>by
  cases e1
  refine⟨(w.heap.size,x),⟨w,hw,rfl⟩,rfl,(hw.ext hx).add fun w2 h2=>hV hv h2 fun k _ hk ⟨q,hq,hk'⟩=>?_⟩
  have:=(hw.m q hq).2 k hk';omega⟩
theorem HE.call {β:Type} {φ:β→Prop} {Mf:β→List bu} {Rf:β→List (World→Prop)} (tf:β→Value) {f:Nat} {args:List Operand} {tys:Array TypeId} {vs:List Value} (hf:G.fb[f]?=some true) (ha:kJ E args=some vs)
  (hc:∀w,Ok M R w→Calls G.P f vs.toArray w (fun e w'=>∃x,e=.returned (tf x)∧φ x∧Ok (Mf x) (Rf x) w')):HE n (.call ⟨.value (.func f),args.toArray,tys⟩) E M R φ tf Mf Rf:=
 ⟨fun w hw=>(bU.call hf ha (hc w hw) (fun e w' h=>by obtain⟨x,e1,_⟩:=h;exact⟨_,e1⟩)).mono fun v w' ⟨x,e1,h1,h2⟩=>by cases e1;exact⟨x,h1,rfl,h2⟩⟩
theorem aa.pure {φ:Prop} (hp:∀w,Ok M R w→φ) (h:φ→aa ops Q n l E M R):aa ops Q n l E M R:=⟨fun w hw=>(h (hp w hw)).h w hw⟩
theorem bh.pure {φ:Prop} {c:Code} (hp:∀w,Ok M R w→φ) (h:φ→bh Q n c E M R):bh Q n c E M R:=⟨fun w hw=>(h (hp w hw)).h w hw⟩
theorem aa.freeze {q:bu} (p:World→Prop) (hr:Rm q M M') (hp:∀w',q.P w'→(∀r,r∈R→r w')→p w') (h:aa ops Q n l E M' (p::R)):aa ops Q n l E M R:=⟨fun w hw=>h.h w (hw.ni hr hp)⟩
theorem bh.freeze {q:bu} {c:Code} (p:World→Prop) (hr:Rm q M M') (hp:∀w',q.P w'→(∀r,r∈R→r w')→p w') (h:bh Q n c E M' (p::R)):bh Q n c E M R:=⟨fun w hw=>h.h w (hw.ni hr hp)⟩
structure bF (ops:Array Oper) (Q:Exit→Act→World→Prop) (Mc:List bu) (Rc:List (World→Prop)) (n:Nat) (l:List Oper) (E:Env) (M:List bu) (R:List (World→Prop)):Prop where
 h:∀w,Ok M R w→aq G ops (.mix true Q (Ok Mc Rc) w) n l E
theorem bh.dQ {id:Nat} {l:List Oper} (ord:List Nat) (z:Nat) (Mc:List bu) (Rc:List (World→Prop)) (hB:CI l ord z=true) (hM:Mc.Sublist M) (hR:∀p,p∈Rc→p∈R) (h:bF l.toArray Q Mc Rc n (pick l (ord++[z])) E M R):bh Q n (.region id l.toArray true) E M R:=
 ⟨fun w hw=>Cd.dQ ord z (Ok Mc Rc) hB (hw.drew.sub hM hR) (h.h w.drew hw.drew)⟩
section
variable {Mc:List bu} {Rc:List (World→Prop)} {β:Type} {φ:β→Prop} {vf:β→Value} {Mf:β→List bu} {Rf:β→List (World→Prop)}
theorem bF.y_ (hy:Yl G n op E (Ok Mc Rc) v) (hd:(qo op && Pt d n)=true) (h:bF ops Q Mc Rc n rest ((d,v)::E) M R):bF ops Q Mc Rc n (⟨some d,op,ty,pos,aft,none⟩::rest) E M R:=
 ⟨fun w hw=>aq.y (M:=.mix true Q (Ok Mc Rc) w) hy hd (h.h w hw)⟩
theorem bF.he (he:HE n op E M R φ vf Mf Rf) (hd:(!qo op && Pt d n)=true) (hM:∀x,Mc.Sublist (Mf x)) (hR:∀x p,p∈Rc→p∈Rf x) (h:∀x,φ x→bF ops Q Mc Rc n rest ((d,vf x)::E) (Mf x) (Rf x)):bF ops Q Mc Rc n (⟨some d,op,ty,pos,aft,none⟩::rest) E M R:=
 ⟨fun w hw=>aq.m (he.h w hw) hd fun v w' ⟨x,h1,h2,h3⟩=>by subst h2;exact⟨h3.sub (hM x) (hR x),(h x h1).h w' h3⟩⟩
theorem bF.JG (he:HE n op E M R φ vf Mf Rf) (hd:(!qo op && Pt d n)=true) (h:∀x,φ x→ah Q n .normal ((d,vf x)::E) (Mf x) (Rf x)):bF ops Q Mc Rc n [⟨some d,op,ty,pos,aft,none⟩] E M R:=
 ⟨fun w hw=>aq.mz (he.h w hw) hd fun v w' ⟨x,h1,h2,h3⟩=>by subst h2;exact aq.DR ((h x h1).h w' h3)⟩
theorem bF.iO (he:gj n op E M R φ Mf Rf) (hd:qo op=false) (h:∀x,φ x→ah Q n .normal E (Mf x) (Rf x)):bF ops Q Mc Rc n [⟨none,op,ty,pos,aft,none⟩] E M R:=
 ⟨fun w hw=>aq.Lj (he.h w hw) hd fun _v w' ⟨x,h1,h3⟩=>aq.DR ((h x h1).h w' h3)⟩
variable {gd:Option (Nat×Bool)} {dd:Option Nat} {t2:TypeId}
theorem bF.aE {bo:BinOp} (h:bF ops Q Mc Rc n (⟨dd,.binOp bo t x y t2,ty,pos,aft,gd⟩::rest) E M R):bF ops Q Mc Rc n (⟨dd,.binOp bo t x y t2,ty,pos,aft,gd⟩::rest) E M R:=h
theorem bF.isField {f:Nat} (h:bF ops Q Mc Rc n (⟨dd,.fieldAddr t x f,ty,pos,aft,gd⟩::rest) E M R):bF ops Q Mc Rc n (⟨dd,.fieldAddr t x f,ty,pos,aft,gd⟩::rest) E M R:=h
theorem bF.dn (h:bF ops Q Mc Rc n (⟨dd,.load t x,ty,pos,aft,gd⟩::rest) E M R):bF ops Q Mc Rc n (⟨dd,.load t x,ty,pos,aft,gd⟩::rest) E M R:=h
end
theorem bh.cY {id:Nat} {l:List Oper} (hB:Region.lexB .any l.toArray=true) (h:aq G l.toArray (.quiet (fun a'=>∀w',Ok M R w'→Q .normal a' w') (Ok M R)) n l E):bh Q n (.region id l.toArray true) E M R:=
 ⟨fun _w hw=>Cd.Hb (Ok M R) hB hw.drew h⟩
theorem bh.oJ {id:Nat} {l:List Oper} (_:(l.all fun o=>qo o.op)=true) (hB:Region.lexB .any l.toArray=true) (h:aq G l.toArray (.quiet (fun a'=>∀w',Ok M R w'→Q .normal a' w') (Ok M R)) n l E):bh Q n (.region id l.toArray true) E M R:=bh.cY hB h
theorem aq.Kc (h:ah Q n .normal E M R):aq G ops (.quiet (fun a'=>∀w',Ok M R w'→Q .normal a' w') (Ok M R)) n [] E:=⟨fun a ha w' hw=>(h.h w' hw).h a ha⟩
theorem aq.oc {K:Act→Prop} {f:Nat} {args:List Operand} {tys:Array TypeId} {vs:List Value} (hf:G.fb[f]?=some true) (ha:kJ E args=some vs) (hd:Pt d n=true) (hc:∀w,Ok M R w→Calls G.P f vs.toArray w (fun e w'=>e=.returned v∧Ext w w'))
  (h:aq G ops (.quiet K (Ok M R)) n rest ((d,v)::E)):aq G ops (.quiet K (Ok M R)) n (⟨some d,.call ⟨.value (.func f),args.toArray,tys⟩,ty,pos,aft,none⟩::rest) E:=
 aq.I0 hf ha hd (fun w hw=>(hc w hw).mono fun _e _w' ⟨e1,hx⟩=>⟨e1,hw.ext hx⟩) h
theorem aq.kR {K:Act→Prop} {f j:Nat} {b:Bool} {args:List Operand} {tys:Array TypeId} {vs:List Value} (hg:qn ops E j=some b) (hf:G.fb[f]?=some true) (ha:kJ E args=some vs) (hd:Pt d n=true) (hc:∀w,Ok M R w→Calls G.P f vs.toArray w (fun e w'=>e=.returned v∧Ext w w'))
  (h:aq G ops (.quiet K (Ok M R)) n rest ((d,v)::E)):aq G ops (.quiet K (Ok M R)) n (⟨some d,.call ⟨.value (.func f),args.toArray,tys⟩,ty,pos,aft,some (j,b)⟩::rest) E:=
 aq.H4 hg hf ha hd (fun w hw=>(hc w hw).mono fun _e _w' ⟨e1,hx⟩=>⟨e1,hw.ext hx⟩) h
def Cr {σ:Type} (n:Nat) (Ei:σ→Env) (Mi:σ→List bu) (Ri:σ→List (World→Prop)) (I:σ→Prop) (μ:σ→Nat) (s:σ):Act→World→Prop:=
 tm n Ei (fun s w=>I s∧Ok (Mi s) (Ri s) w) μ s
theorem bh.loop {σ:Type} {c:Code} (Ei:σ→Env) (Mi:σ→List bu) (Ri:σ→List (World→Prop)) (I:σ→Prop) (μ:σ→Nat) (s0:σ) (hE:Sub E (Ei s0)) (hM:(Mi s0).Sublist M) (hR:∀p,p∈Ri s0→p∈R) (hI:I s0)
  (round:∀s,I s→bh (Exit.then (Cr n Ei Mi Ri I μ s) Q) n c (Ei s) (Mi s) (Ri s)):bh Q n (.loop c) E M R:=
 ⟨fun _w hw=>Cd.loop Ei (fun s w=>I s∧Ok (Mi s) (Ri s) w) μ s0 hE ⟨hI,hw.sub hM hR⟩ fun s w ⟨h1,h2⟩=>(round s h1).h w h2⟩
theorem ah.next {σ:Type} {Ei:σ→Env} {Mi:σ→List bu} {Ri:σ→List (World→Prop)} {I:σ→Prop} {μ:σ→Nat} {s:σ} (s':σ) (hE:Sub E (Ei s')) (hM:(Mi s').Sublist M) (hR:∀p,p∈Ri s'→p∈R) (hI:I s') (hμ:μ s'<μ s):
  ah (Exit.then (Cr n Ei Mi Ri I μ s) Q) n .normal E M R:=⟨fun _w hw=>Fin.next s' hE ⟨hI,hw.sub hM hR⟩ hμ⟩
end
section
variable {fn:Func} {Rp:Ending→World→Prop} {n:Nat} {E:Env} {M M':List bu} {R:List (World→Prop)} {v x:Value} {t u:Nat}
theorem ah.F5 (hr:fn.results=#[]) (hR:∀w,Ok M R w→Rp (.returned (.tuple #[])) w):ah (bodyPost G.P fn Rp) n .ret E M R:=⟨fun w hw=>Fin.F5 hr (hR w hw)⟩
theorem ah.oe (hr:fn.results=#[]) (hR:∀w,Ok M R w→Rp (.returned (.tuple #[])) w):ah (bodyPost G.P fn Rp) n .normal E M R:=⟨fun w hw=>Fin.oe hr (hR w hw)⟩
theorem ah.aG (hr:fn.results=#[.tmp t]) (hv:lk E t=some v) (hR:∀w,Ok M R w→Rp (.returned v) w):ah (bodyPost G.P fn Rp) n .ret E M R:=⟨fun w hw=>Fin.aG hr hv (hR w hw)⟩
theorem ah.ie (hr:fn.results=#[.tmp t,.tmp u]) (hv:lk E t=some v) (hx:lk E u=some x) (hR:∀w,Ok M R w→Rp (.returned (.tuple #[v,x])) w):ah (bodyPost G.P fn Rp) n .ret E M R:=⟨fun w hw=>Fin.ie hr hv hx (hR w hw)⟩
theorem ah.bB {e:Exit} {a T Tb b s:Nat} {ti:TI} {cs:List Value} (he:e=.ret∨e=.normal) (hr:fn.results=#[.cell a T]) (ha:lk E a=some (.pointer (some ⟨b,0,none⟩))) (hT:G.ty T=some ti) (hag:ti.agg=true) (hsz:ti.size=s) (hM:Up (.aW b cs Tb) (.aW b cs Tb) M M') (hl:cs.length=s) (hR:∀w,Ok M R w→Rp (.returned (.agg cs.toArray)) w):ah (bodyPost G.P fn Rp) n e E M R:=
 ⟨fun w hw=>Fin.bB he hr ha hT hag hsz (hw.m _ hM.mem).1 hl (hR w hw)⟩
theorem ah.aM {e:Exit} {a T Tb b s:Nat} {ti:TI} {cs:List Value} (he:e=.ret∨e=.normal) (hr:fn.results=#[.cell a T,.tmp t]) (ha:lk E a=some (.pointer (some ⟨b,0,none⟩))) (hT:G.ty T=some ti) (hag:ti.agg=true) (hsz:ti.size=s) (hM:Up (.aW b cs Tb) (.aW b cs Tb) M M') (hl:cs.length=s) (hv:lk E t=some v) (hR:∀w,Ok M R w→Rp (.returned (.tuple #[.agg cs.toArray,v])) w):ah (bodyPost G.P fn Rp) n e E M R:=
 ⟨fun w hw=>Fin.aM he hr ha hT hag hsz (hw.m _ hM.mem).1 hl hv (hR w hw)⟩
end
theorem ae {f:FuncId} {fn:Func} {c:Code} {n:Nat} {l:List Value} {w:World} {Rp:Ending→World→Prop} {M:List bu} {R:List (World→Prop)} (hf:G.P.funcs[f]?=some fn) (hb:fn.body=some c) (hn:fn.ntmps=n) (hl:PM l.length n=true) (hw:Ok M R w)
  (h:bh (bodyPost G.P fn Rp) n c (A7 0 l) M R):Calls G.P f l.toArray w Rp:=enter (G:=G) hf hb hn hl (h.h w hw)
theorem vz {R:List (World→Prop)}:∀p,p∈([]:List (World→Prop))→p∈R:=fun _ h=>by cases h
theorem rO {p:World→Prop} {R R':List (World→Prop)} (h:p∈R) (hr:∀x,x∈R'→x∈R):∀x,x∈p::R'→x∈R:=fun x hx=>(PF.1 hx).elim (fun e=>e ▸ h) (hr x)
section
variable {ops:Array Oper} {Q:Exit→Act→World→Prop} {n:Nat} {E:Env} {M M':List bu} {R:List (World→Prop)} {rest l:List Oper} {op:Op} {d:Option Nat} {ty:TypeId} {pos:String} {aft:Array Edge} {gd:Option (Nat×Bool)} {v:Value} {x y z:Operand} {t t2:TypeId} {C:World→Prop}
theorem Yl.kS {ti:TI} {f o bk:Nat} (ht:G.ty t=some ti) (ho:ti.pg[f]?=some o) (hx:ev E x=some (.pointer (some ⟨bk,0,none⟩))):Yl G n (.fieldAddr t x f) E C (.pointer (some ⟨bk,o,none⟩)):=by
 have:=Yl.field (G:=G) (n:=n) (E:=E) (C:=C) ht ho hx
 rwa[Ps]at this
theorem aa.is (h:aa ops Q n l E M R):aa ops Q n l E M R:=h
theorem bh.is {c:Code} (h:bh Q n c E M R):bh Q n c E M R:=h
theorem ah.is {e:Exit} (h:ah Q n e E M R):ah Q n e E M R:=h
theorem aa.CF {jb:Nat×Bool} (h:aa ops Q n (⟨d,op,ty,pos,aft,some jb⟩::rest) E M R):aa ops Q n (⟨d,op,ty,pos,aft,some jb⟩::rest) E M R:=h
theorem aa.aE {bo:BinOp} (h:aa ops Q n (⟨d,.binOp bo t x y t2,ty,pos,aft,gd⟩::rest) E M R):aa ops Q n (⟨d,.binOp bo t x y t2,ty,pos,aft,gd⟩::rest) E M R:=h
theorem aa.eN (h:aa ops Q n (⟨d,.indexAddr t x y,ty,pos,aft,gd⟩::rest) E M R):aa ops Q n (⟨d,.indexAddr t x y,ty,pos,aft,gd⟩::rest) E M R:=h
theorem aa.isField {f:Nat} (h:aa ops Q n (⟨d,.fieldAddr t x f,ty,pos,aft,gd⟩::rest) E M R):aa ops Q n (⟨d,.fieldAddr t x f,ty,pos,aft,gd⟩::rest) E M R:=h
theorem aa.dn (h:aa ops Q n (⟨d,.load t x,ty,pos,aft,gd⟩::rest) E M R):aa ops Q n (⟨d,.load t x,ty,pos,aft,gd⟩::rest) E M R:=h
theorem aa.yh (h:aa ops Q n (⟨none,.store t x y,ty,pos,aft,gd⟩::rest) E M R):aa ops Q n (⟨none,.store t x y,ty,pos,aft,gd⟩::rest) E M R:=h
end
theorem Ok.start (w:World):Ok [] [Ext w] w:=
 ⟨fun q h=>absurd h Pj,List.Pairwise.nil,fun p hp w' hc=>by
  rw[PO]at hp;subst hp;exact hc.mono (fun k _ ⟨q,hq,_⟩=>absurd hq Pj)⟩
inductive App:List Value→List Value→List Value→Prop
 |nil {b:List Value}:App [] b b
 |cons {x:Value} {a b c:List Value}:App a b c→App (x::a) b (x::c)
inductive Cells:List Value→List Value→Prop
 |nil:Cells [] []
 |agg {l vs cs out:List Value}:Cells vs cs→App l cs out→Cells (.agg l.toArray::vs) out
 |one {v:Value} {vs cs:List Value}:Cells vs cs→Cells (v::vs) (v::cs)
def tD (s:Nat):List Value→List (Nat×Value)→Option (List Value)
 |cs,[]=>some cs
 |cs,(i,v)::r=>bif (PK v.cells.toList.length s && PM (i*s+v.cells.toList.length) cs.length)then tD s (DE cs (i*s) v.cells.toList) r else none
theorem zK {s:Nat}:∀{parts:List (Nat×Value)} {cs c:List Value},tD s cs parts=some c→Instr.fill (fun i=>some (i*s,s)) cs.toArray parts=some c.toArray
 |[],cs,c,h=>by simp only[tD,Option.some.injEq]at h;subst h;rfl
 |(i,v)::r,cs,c,h=>by
  simp only[tD]at h
  unfold Instr.fill
  dsimp only at h ⊢
  cases hb:(PK v.cells.toList.length s && PM (i*s+v.cells.toList.length) cs.length)with
  |false=>rw[hb]at h;cases h
  |true=>
   rw[hb]at h
   simp only[PD]at hb
   have h1:=PW hb.1
   have h2:=PX hb.2
   have e1:v.cells.size=s:=by simpa using h1
   have e2:¬i*s+v.cells.size>cs.toArray.size:=by simpa using h2
   rw[if_neg (by simp[e1];rw[e1]at e2;simpa using e2)]
   have h3:=zK h
   rw[←h3]
   congr 1
   have:=ym v.cells.toList cs (i*s) 0
   rw[Nat.add_zero]at this
   rw[this,←Array.foldl_toList,Array.toList_zipIdx]
def Cn (len s:Nat) (zs:List Value):List Value:=(List.range (len*s)).map fun i=>zs.getD (i % zs.length) default
theorem vo {t e len s:Nat} {ti te:TI} {parts:List (Nat×Value)} {cs:List Value} (w:World) (ht:G.ty t=some ti) (he:ti.elem=some e) (hte:G.ty e=some te) (hs:te.size=s) (hlen:PM (len*s) 16777216=true) (hf:tD s (Cn len s te.zero.cells.toList) parts=some cs):
  (Instr.buildSlice t len parts.toArray).run G.P w=.ok (.slice (some ⟨w.heap.size,0,none⟩) len len) (w.alloc (.cells cs.toArray e)):=by
 have h1:=(G.iT t ti ht).elem e he
 have h2:=(G.iT e te hte).size w
 have h3:=(G.iT e te hte).zeroV w
 rw[hs]at h2
 have h4:=zK hf
 have h5:¬len*s>2 ^ 24:=by have:=PX hlen;omega
 by_cases h0:len*s=0
 ·have e0:(Cn len s te.zero.cells.toList).toArray=(Array.range (len*s)).map ((#[]:Array Value)[·% (#[]:Array Value).size]!):=by simp[Cn,h0]
  rw[e0]at h4
  simp[Instr.buildSlice,run_underlying h1,h2,h0,newRow]at h4 ⊢
  simp[h4]
 ·have e0:(Cn len s te.zero.cells.toList).toArray=(Array.range (len*s)).map (te.zero.cells[·% te.zero.cells.size]!):=by
   apply Array.ext'
   simp[Cn,List.getD_eq_getElem?_getD,Array.getElem!_eq_getD]
   skip
  rw[e0]at h4
  simp[Instr.buildSlice,run_underlying h1,h2,h0,h3,newRow,Nat.not_lt.2 (PX hlen)]at h4 ⊢
  rw[h4];simp
section
variable {ops:Array Oper} {Q:Exit→Act→World→Prop} {n:Nat} {E:Env} {M M':List bu} {R:List (World→Prop)} {rest l:List Oper} {op:Op} {d:Nat} {ty:TypeId} {pos:String} {aft:Array Edge} {v:Value} {x y z:Operand} {t:TypeId} {C:World→Prop}
theorem Yl.jX {s bt:Nat} {el:Option Nat} {os:List Nat} {zs cs:List Value} {ik:Option IntKind} {parts:List (Nat×Operand)} {vs:List Value} (ht:G.ty t=some ⟨s,bt,true,el,os,.agg zs.toArray,ik⟩) (ho:os.isEmpty=false) (hv:kJ E (parts.map (·.2))=some vs) (_hc:Cells vs cs) (hf:nM (qS os s) zs ((parts.map (·.1)).zip vs)=some cs):
  Yl G n (.build t parts.toArray) E C (.agg cs.toArray):=by
 have:=Yl.gH (n:=n) (E:=E) (C:=C) (parts:=parts) ht ho hv (by rw[hf];rfl)
 rw[hf]at this;exact this
theorem Yl.jW {s bt:Nat} {el:Option Nat} {os:List Nat} {zs:List Value} {ik:Option IntKind} (ht:G.ty t=some ⟨s,bt,true,el,os,.agg zs.toArray,ik⟩) (ho:os.isEmpty=false):Yl G n (.build t #[]) E C (.agg zs.toArray):=
 Yl.gH (n:=n) (E:=E) (C:=C) (parts:=[]) (vs:=[]) ht ho rfl rfl
theorem Yl.GP {k:IntKind} {p q:Int} {t2:TypeId} (hx:ev E x=some (.int k p)) (hy:ev E y=some (.int k q)):Yl G n (.binOp .gtr t x y t2) E C (.bool (decide (q<p))):=Yl.bin hx hy (fun w=>by simp[binOp,Op.intCmp])
theorem Yl.GX {k:IntKind} {p q:Int} {t2:TypeId} (hx:ev E x=some (.int k p)) (hy:ev E y=some (.int k q)):Yl G n (.binOp .lss t x y t2) E C (.bool (decide (p<q))):=Yl.bin hx hy (fun w=>by simp[binOp,Op.intCmp])
theorem Yl.GS {k:IntKind} {p q:Int} {t2:TypeId} (hx:ev E x=some (.int k p)) (hy:ev E y=some (.int k q)):Yl G n (.binOp .leq t x y t2) E C (.bool (decide (p≤q))):=Yl.bin hx hy (fun w=>by simp[binOp,Op.intCmp])
theorem Yl.GO {k:IntKind} {p q:Int} {t2:TypeId} (hx:ev E x=some (.int k p)) (hy:ev E y=some (.int k q)):Yl G n (.binOp .geq t x y t2) E C (.bool (decide (q≤p))):=Yl.bin hx hy (fun w=>by simp[binOp,Op.intCmp])
inductive jc:List Value→Nat→List Value→Prop
 |zero {l:List Value}:jc l 0 []
 |succ {a:Value} {l out:List Value} {s:Nat}:jc l s out→jc (a::l) (s+1) (a::out)
inductive ja:List Value→Nat→Nat→List Value→Prop
 |here {l out:List Value} {s:Nat}:jc l s out→ja l 0 s out
 |drop {a:Value} {l out:List Value} {o s:Nat}:ja l o s out→ja (a::l) (o+1) s out
theorem jc.get {l out:List Value} {s:Nat} (h:jc l s out):out.length=s∧∀j,j<s→out[j]?=l[j]?∧j<l.length:=by
 induction h with
 |zero=>exact⟨rfl,fun j hj=>by omega⟩
 |succ _ ih=>
  refine⟨by simp[ih.1],fun j hj=>?_⟩
  cases j with
  |zero=>simp
  |succ j=>have:=ih.2 j Pi;simpa using this
theorem ja.get {l out:List Value} {o s:Nat} (h:ja l o s out):out.length=s∧∀j,j<s→out[j]?=l[o+j]?∧o+j<l.length:=by
 induction h with
 |here h=>simpa using h.get
 |drop _ ih=>
  refine⟨ih.1,fun j hj=>?_⟩
  have:=ih.2 j hj
  rw[show∀o:Nat,o+1+j=o+j+1 from fun o=>by omega]
  simpa using this
theorem Yl.mO {ti:TI} {b o T s:Nat} {cs out:List Value} (ht:G.ty t=some ti) (ha:ti.agg=true) (hx:ev E x=some (.pointer (some ⟨b,o,none⟩))) (hs:ti.size=s) (hM:Up (.aW b cs T) (.aW b cs T) M M') (hc:ja cs o s out):Yl G n (.load t x) E (Ok M R) (.agg out.toArray):=
 Yl.rZ ht ha hs hx hc.get.1 fun w hw j hj=>by
  have hb:gQ w b cs T:=(hw.m _ hM.mem).1
  obtain⟨h1,h2⟩:=hc.get.2 j hj
  rw[h1,Pw h2]
  exact hb.cell (Pw h2)
theorem mG {pl:List (Nat×Nat)} {cs:List Value}:nM pl cs []=some cs:=rfl
theorem Jc {cs:List Value} {o:Nat} {v:Value}:DE cs o [v]=cs.set o v:=rfl
theorem mH {os:List Nat} {s i o:Nat} {zs cs' out:List Value} {v:Value} {r:List (Nat×Value)} (_h:os[i]?=some o) (hp:(qS os s)[i]?=some (o,1)) (hv:v.cells=#[v]) (hs:fX v zs o cs') (hr:nM (qS os s) cs' r=some out):nM (qS os s) zs ((i,v)::r)=some out:=by
 have:=hs.eq
 rw[nM,hp]
 simp only[hv]
 have hb:PM (o+1) zs.length=true:=Nat.ble_eq_true_of_le this.2
 simp[Jc,this.1,hb,hr]
theorem Yl.jY {s bt:Nat} {el:Option Nat} {os:List Nat} {zs cs:List Value} {ik:Option IntKind} {parts:List (Nat×Operand)} {vs:List Value} (ht:G.ty t=some ⟨s,bt,true,el,os,.agg zs.toArray,ik⟩) (ho:os.isEmpty=false) (hv:kJ E (parts.map (·.2))=some vs) (hf:nM (qS os s) zs ((parts.map (·.1)).zip vs)=some cs):
  Yl G n (.build t parts.toArray) E C (.agg cs.toArray):=by
 have:=Yl.gH (n:=n) (E:=E) (C:=C) (parts:=parts) ht ho hv (by rw[hf];rfl)
 rw[hf]at this;exact this
theorem HE.jG {e len s:Nat} {ti te:TI} {parts:List (Nat×Operand)} {vs cs:List Value} (ht:G.ty t=some ti) (he:ti.elem=some e) (hte:G.ty e=some te) (hs:te.size=s) (hv:kJ E (parts.map (·.2))=some vs) (_hc:Cells vs cs) (hlen:PM (len*s) 16777216=true) (hf:tD s (Cn len s te.zero.cells.toList) ((parts.map (·.1)).zip vs)=some cs):
  HE n (.buildSlice t len parts.toArray) E M R (fun _:Nat=>True) (fun b=>.slice (some ⟨b,0,none⟩) len len) (fun b=>.aW b cs e::M) (fun _=>R):=
 HE.H2 cs hv fun w=>vo w ht he hte hs hlen hf
theorem HE.eU {f:Nat} {args:List Operand} {tys:Array TypeId} {vs:List Value} (hf:G.fb[f]?=some true) (ha:kJ E args=some vs)
  (hc:∀w,Ok M R w→Calls G.P f vs.toArray w (fun e w'=>e=.returned v∧Ext w w')):HE n (.call ⟨.value (.func f),args.toArray,tys⟩) E M R (fun _:Unit=>True) (fun _=>v) (fun _=>M) (fun _=>R):=
 HE.call (fun _=>v) hf ha fun w hw=>(hc w hw).mono fun _e _w' ⟨e1,hx⟩=>⟨(),e1,trivial,hw.ext hx⟩
theorem Ok.iP {w:World} (h:Ok M R w) (B T s:Nat):Ok (.own B T s (.slice none 0 0) 0 []::M) R w:=
 h.push (bX.refl _ w) (World.ownsRow_nil w B T s) (fun k hk=>by cases(show(none:Option Nat)=some k from hk))
theorem aa.iP (B T s:Nat) (h:aa ops Q n l E (.own B T s (.slice none 0 0) 0 []::M) R):aa ops Q n l E M R:=⟨fun w hw=>h.h w (hw.iP B T s)⟩
theorem bh.iP {c:Code} (B T s:Nat) (h:bh Q n c E (.own B T s (.slice none 0 0) 0 []::M) R):bh Q n c E M R:=⟨fun w hw=>h.h w (hw.iP B T s)⟩
theorem HE.lQ {B T s m f:Nat} {xs:List Value} {args:List Operand} {tys:Array TypeId} {vs:List Value} (hf:G.fb[f]?=some true) (ha:kJ E args=some vs) (hB:∀w,Ok M R w→B≤w.heap.size)
  (hc:∀w,Ok M R w→Calls G.P f vs.toArray w (fun e w'=>(∃v,e=.returned v∧w'.ownsRow w.heap.size T s v m xs)∧Ext w w')):
  HE n (.call ⟨.value (.func f),args.toArray,tys⟩) E M R (fun _:Value=>True) (fun u=>u) (fun u=>.own B T s u m xs::M) (fun _=>R):=
 ⟨fun w hw=>(bU.call hf ha (hc w hw) (fun e w' h=>by obtain⟨⟨x,e1,_⟩,_⟩:=h;exact⟨_,e1⟩)).mono fun v w' ⟨⟨x,e1,hv⟩,hx⟩=>by
  cases e1
  exact⟨_,trivial,rfl,hw.push hx (ox hv fun k hk=>Nat.le_trans (hB w hw) (hv.lt k hk).1) (fun k hk=>hv.lt k hk)⟩⟩
theorem dP {w:World} {B T s m g cap:Nat} {xs:List Value} (h:w.ownsRow B T s (.slice (some ⟨g,0,none⟩) m cap) m xs) {j:Nat} {u:Value} (hj:xs[j]?=some u):w.cell? ⟨g,j,none⟩=some u:=by
 have:=World.ownsRow.cells h (g:=g) rfl j u hj
 have e:(⟨g,0,none⟩:Addr).add j=⟨g,j,none⟩:=by
  unfold Addr.add;split
  ·rename_i h0;rw[h0]
  ·simp
 rwa[e]at this
theorem HE.nc {Mf:Value→List bu} {ti te:TI} {B B2 T s m k:Nat} {xs ys:List Value} {u:Value} (hx:ev E x=some v) (hy:ev E y=some u) (hM:∀v',Up (.own B T s v m xs) (.own B T s v' (m+k) (xs++ys)) M (Mf v')) (hb:Up (.own B2 T s u k ys) (.own B2 T s u k ys) M M')
  (ht:G.ty t=some ti) (he:ti.elem=some T) (hte:G.ty T=some te) (hs:te.size=s) (hzs:PK te.zero.cells.size te.size=true) (hsz:Pt 0 te.size=true) (hbt:PM te.bytes 1000=true) (h1:∀u∈ys,u.oneCell'=true) (hlen:m+k≤100000000000) (hB:∀w,Ok M R w→B≤w.heap.size):
  HE n (.call ⟨.builtin .append,#[x,y],#[t,t]⟩) E M R (fun _:Value=>True) (fun v'=>v') Mf (fun _=>R):=
 ⟨fun w hw=>by
  subst hs
  have hm:=(hw.m _ (hM undef).mem)
  have hu:w.ownsRow B2 T te.size u k ys:=(hw.m _ hb.mem).1
  have ho:w.ownsRow B T te.size v m xs:=hm.1
  have hbt':=PX hbt
  have hsz':0<te.size:=by simpa using hsz
  obtain⟨p2,c2,rfl,_,_,hg⟩:=aw hu
  have key:∀v' w',w'.ownsRow B T te.size v' (m+k) (xs++ys)→bX (fun k=>v.ownBlock=some k) w w'→(v'.ownBlock=v.ownBlock∨v'.ownBlock=some w.heap.size)→∃x:Value,True∧v'=x∧Ok (Mf x) R w':=fun v' w' ho' hc hob=>
   ⟨v',trivial,rfl,hw.qj (hM v') hc ho' fun i hi=>⟨(ho'.lt i hi).2,fun hlt=>by
    rcases hob with e|e
    ·show v.ownBlock=some i
     rw[←e];exact hi
    ·have hk':v'.ownBlock=some i:=hi
     rw[e]at hk';cases hk';omega⟩⟩
  by_cases h0:k=0
  ·subst h0
   obtain⟨po,c,rfl,hc,_⟩:=aw ho
   have hy0:ys=[]:=Qc (by have:=hu.1;simpa using this)
   subst hy0
   refine(bU.xT (G:=G) ht he hte hx hc hy).mono ?_
   rintro _ _ ⟨rfl,rfl⟩
   exact mp
  ·obtain⟨g,rfl,_,_⟩:=hg (Nat.pos_of_ne_zero h0)
   have hfull:w.ownsRow B2 T te.size (.slice (some ⟨g,0,none⟩) k c2) k ys:=hu
   refine(bU.oT (G:=G) (news:=ys) ht he hte (PW hzs) hsz' hx ho hy hu.1 (fun j u hj=>by rw[Ps];exact dP hfull hj) h1 O4 (by have:=Nat.mul_le_mul hlen hbt';omega) (hB w hw)).mono fun v' w' ⟨a,b,c⟩=>key v' w' a b c⟩
theorem HE.IQ {Mf:Value→List bu} {ti te:TI} {B T s m k c:Nat} {po:Option Addr} {xs:List Value} (ys:List Value) (hx:ev E x=some v) (hy:ev E y=some (.slice po k c)) (hM:∀v',Up (.own B T s v m xs) (.own B T s v' (m+k) (xs++ys)) M (Mf v'))
  (hrd:k=0∨∃bk o,po=some ⟨bk,o,none⟩∧∀w,Ok M R w→∀j u,ys[j]?=some u→w.cell? ⟨bk,o+j,none⟩=some u) (hys:ys.length=k*s)
  (ht:G.ty t=some ti) (he:ti.elem=some T) (hte:G.ty T=some te) (hs:te.size=s) (hzs:PK te.zero.cells.size te.size=true) (hsz:Pt 0 te.size=true) (hbt:PM te.bytes 1000=true) (h1:∀u∈ys,u.oneCell'=true) (hlen:m+k≤100000000000) (hB:∀w,Ok M R w→B≤w.heap.size):
  HE n (.call ⟨.builtin .append,#[x,y],#[t,t]⟩) E M R (fun _:Value=>True) (fun v'=>v') Mf (fun _=>R):=
 ⟨fun w hw=>by
  subst hs
  have hm:=(hw.m _ (hM undef).mem)
  have ho:w.ownsRow B T te.size v m xs:=hm.1
  have hbt':=PX hbt
  have hsz':0<te.size:=by simpa using hsz
  have key:∀v' w',w'.ownsRow B T te.size v' (m+k) (xs++ys)→bX (fun k=>v.ownBlock=some k) w w'→(v'.ownBlock=v.ownBlock∨v'.ownBlock=some w.heap.size)→∃x:Value,True∧v'=x∧Ok (Mf x) R w':=fun v' w' ho' hc hob=>
   ⟨v',trivial,rfl,hw.qj (hM v') hc ho' fun i hi=>⟨(ho'.lt i hi).2,fun hlt=>by
    rcases hob with e|e
    ·show v.ownBlock=some i
     rw[←e];exact hi
    ·have hk':v'.ownBlock=some i:=hi
     rw[e]at hk';cases hk';omega⟩⟩
  by_cases h0:k=0
  ·subst h0
   obtain⟨po,c,rfl,hc,_⟩:=aw ho
   have hy0:ys=[]:=Qc (by simpa using hys)
   subst hy0
   refine(bU.xT (G:=G) ht he hte hx hc hy).mono ?_
   rintro _ _ ⟨rfl,rfl⟩
   exact mp
  ·obtain⟨bk,o,rfl,hr⟩:=hrd.resolve_left h0
   refine(bU.oT (G:=G) (news:=ys) ht he hte (PW hzs) hsz' hx ho hy hys (fun j u hj=>hr w hw j u hj) h1 O4 (by have:=Nat.mul_le_mul hlen hbt';omega) (hB w hw)).mono fun v' w' ⟨a,b,c⟩=>key v' w' a b c⟩
theorem BG {w:World} {b _e s len:Nat} {cs:List Value} {T:TypeId} (h:gQ w b cs T) (hs:cs.length=len*s) (hl:len≤maxLen) (B:Nat) (hB:B≤b):w.ownsRow B T s (.slice (some ⟨b,0,none⟩) len len) len cs:=
 ⟨hs,.inr ⟨b,len,cs.toArray,rfl,hB,h,Px _,hl,by simpa using hs,by simp[←hs]⟩⟩
theorem Ok.jN {w:World} {b s len:Nat} {cs:List Value} {T:TypeId} (h:Ok M R w) (hM:Up (.aW b cs T) (.own 0 T s (.slice (some ⟨b,0,none⟩) len len) len cs) M M') (hs:cs.length=len*s) (hl:len≤maxLen):Ok M' R w:=
 h.qj hM (bX.refl _ w) (BG (_e:=0) (h.m _ hM.mem).1 hs hl 0 (Nat.zero_le _)) (fun k hk=>by
  have hk':some b=some k:=hk
  cases hk'
  exact⟨(h.m _ hM.mem).2 b rfl,fun _=>rfl⟩)
theorem aa.jN {b len:Nat} {cs:List Value} {T:TypeId} (s:Nat) (hM:Up (.aW b cs T) (.own 0 T s (.slice (some ⟨b,0,none⟩) len len) len cs) M M') (hs:cs.length=len*s) (hl:len≤maxLen) (h:aa ops Q n l E M' R):aa ops Q n l E M R:=⟨fun w hw=>h.h w (hw.jN hM hs hl)⟩
theorem nC {B T s n n':Nat} {v v':Value} {xs xs':List Value} (h1:v'=v) (h2:n'=n) (h3:xs'=xs) (h:M'.Sublist M):(bu.own B T s v' n' xs'::M').Sublist (bu.own B T s v n xs::M):=by subst h1;subst h2;subst h3;exact h.cons_cons _
end
def FW (ro:Option Nat):Fence:={Fence.wide with round:=ro}
theorem qt {ro:Option Nat} {m:Nat} {f:FuncId} {args:Array Value} {w:World} {R:Ending→World→Prop} (h:Calls G.P f args w R):CallsIn (FW ro) m G.P f args w R:=by
 have h1:CallsIn Fence.wide m G.P f args w R:=callsIn_wide.2 h
 cases ro with
 |none=>exact h1
 |some l=>exact h1.inRound l
structure tk (n:Nat) (D:List Deferred) (a:Act) (E:Env):Prop where
 ag:Ag n {a with defers:=[]} E
 df:a.defers=D
theorem tk.of (h:Ag n a E):tk n [] a E:=⟨⟨h.sz,rfl,h.eq⟩,h.df⟩
theorem tk.Ho (h:tk n [] a E):Ag n a E:=⟨h.ag.sz,h.df,h.ag.eq⟩
theorem zJ (a:Act):({a with defers:=[]}:Act).eval=a.eval:=by funext x;cases x<;>rfl
theorem tk.eval (h:tk n D a E) {x:Operand} {v:Value} (hx:ev E x=some v):a.eval x=v:=by rw[←zJ];exact h.ag.eval hx
theorem tk.put (h:tk n D a E) {d:Nat} (hd:d<n) (v:Value):tk n D (a.put (some d) v) ((d,v)::E):=⟨h.ag.put hd v,by simp[Act.put,h.df]⟩
theorem tk.sub {E E':Env} (h:tk n D a E) (hs:Sub E E'):tk n D a E':=⟨h.ag.sub hs,h.df⟩
structure eE (ro:Option Nat) (m:Nat) (D:List Deferred) (ops:Array Oper) (Q:Exit→Act→World→Prop) (n:Nat) (l:List Oper) (E:Env) (w:World):Prop where
 h:∀a,tk n D a E→wpListIn (FW ro) m G.P ops Q l a w
structure kx (ro:Option Nat) (m:Nat) (D:List Deferred) (Q:Exit→Act→World→Prop) (n:Nat) (c:Code) (E:Env) (w:World):Prop where
 h:∀a,tk n D a E→c.wpIn (FW ro) m G.P Q a w
structure fh (D:List Deferred) (Q:Exit→Act→World→Prop) (n:Nat) (e:Exit) (E:Env) (w:World):Prop where
 h:∀a,tk n D a E→Q e a w
section
variable {ro:Option Nat} {m:Nat} {D:List Deferred} {Q:Exit→Act→World→Prop} {n:Nat} {E:Env} {w:World} {ops:Array Oper} {rest:List Oper} {op:Op} {d:Nat} {ty:TypeId} {pos:String} {aft:Array Edge} {v:Value} {K:Value→World→Prop}
theorem kx.seq {x y:Code} (h:kx ro m D (Exit.then (y.wpIn (FW ro) m G.P Q) Q) n x E w):kx ro m D Q n (.seq x y) E w:=⟨fun a ha=>wpIn_seq (h.h a ha)⟩
theorem kx.block {id:Nat} {c:Code} (h:kx ro m D (Exit.inBlock id Q) n c E w):kx ro m D Q n (.block id c) E w:=⟨fun a ha=>wpIn_block (h.h a ha)⟩
theorem kx.skip (h:fh D Q n .normal E w):kx ro m D Q n .skip E w:=⟨fun a ha=>wpIn_skip (h.h a ha)⟩
theorem kx.exit {id:Nat} (h:fh D Q n (.exit id) E w):kx ro m D Q n (.exit id) E w:=⟨fun a ha=>wpIn_exit (h.h a ha)⟩
theorem kx.ret (h:fh D Q n .ret E w):kx ro m D Q n .ret E w:=⟨fun a ha=>wpIn_ret (h.h a ha)⟩
theorem kx.region {id:Nat} {l:List Oper} (h:eE ro m D l.toArray Q n l E w):kx ro m D Q n (.region id l.toArray false) E w:=⟨fun a ha=>wpIn_region_lit (h.h a ha)⟩
theorem kx.jf {c:Operand} {x y:Code} (hc:ev E c=some (.bool true)) (h:kx ro m D Q n x E w):kx ro m D Q n (.cond c x y) E w:=⟨fun a ha=>wpIn_cond_true (ha.eval hc) (h.h a ha)⟩
theorem kx.je {c:Operand} {x y:Code} (hc:ev E c=some (.bool false)) (h:kx ro m D Q n y E w):kx ro m D Q n (.cond c x y) E w:=⟨fun a ha=>wpIn_cond_false (ha.eval hc) (h.h a ha)⟩
theorem fh.lf {y:Code} (h:kx ro m D Q n y E w):fh D (Exit.then (y.wpIn (FW ro) m G.P Q) Q) n .normal E w:=⟨fun a ha=>h.h a ha⟩
theorem fh.HQ {K:Act→World→Prop} (h:∀a,tk n D a E→K a w):fh D (Exit.then K Q) n .normal E w:=⟨fun a ha=>h a ha⟩
theorem fh.lg {K:Act→World→Prop} (h:fh D Q n .ret E w):fh D (Exit.then K Q) n .ret E w:=⟨fun a ha=>h.h a ha⟩
theorem fh.lh {K:Act→World→Prop} {id:Nat} (h:fh D Q n (.exit id) E w):fh D (Exit.then K Q) n (.exit id) E w:=⟨fun a ha=>h.h a ha⟩
theorem fh.pR {id:Nat} (h:fh D Q n .normal E w):fh D (Exit.inBlock id Q) n .normal E w:=⟨fun a ha=>h.h a ha⟩
theorem fh.pS {id:Nat} (h:fh D Q n .ret E w):fh D (Exit.inBlock id Q) n .ret E w:=⟨fun a ha=>h.h a ha⟩
theorem fh.pT {id:Nat} (h:fh D Q n .normal E w):fh D (Exit.inBlock id Q) n (.exit id) E w:=⟨fun a ha=>by simp only[Exit.inBlock,if_true];exact h.h a ha⟩
theorem eE.nil (h:fh D Q n .normal E w):eE ro m D ops Q n [] E w:=⟨fun a ha=>h.h a ha⟩
theorem rh {a:Act} {o:Oper} (hg:o.guard=none) (h:o.wpIn (FW ro) m G.P a w (wpListIn (FW ro) m G.P ops Q rest) Q):wpListIn (FW ro) m G.P ops Q (o::rest) a w:=by
 have hw:Region.wanted o (yielded ops a.tmps)=true:=by simp[Region.wanted,hg]
 show(if Region.wanted o (yielded ops a.tmps)then _ else _)
 rw[if_pos hw];exact h
def kC:Op→Bool
 |.defer _=>false
 |_=>true
theorem zP {op:Op} (h:qo op=true):∀c,op≠.defer c:=by rintro c rfl;simp[qo]at h
theorem eE.y (hy:Yl G n op E (fun w'=>w'=w) v) (hd:(qo op && Pt d n)=true) (h:eE ro m D ops Q n rest ((d,v)::E) w):eE ro m D ops Q n (⟨some d,op,ty,pos,aft,none⟩::rest) E w:=⟨fun a ha=>by
 rw[PD]at hd
 have hr:=hy.h w rfl _ ha.ag (some d) ty pos aft none
 rw[zJ]at hr
 have hs:Oper.semAt (FW ro).round a.eval ⟨some d,op,ty,pos,aft,none⟩=execOp a.eval ⟨some d,op,ty,pos,aft,none⟩:=Oper.semAt_eq _ _ _ (zP hd.1)
 refine rh rfl ⟨fun _ _=>trivial,?_⟩
 rw[hs,hr]
 exact h.h _ (ha.put (by simpa using hd.2) v)⟩
theorem AU {a:Act} {o:Oper} {next:Act→World→Prop} {r:Result Next} (h:lS G.P (fun v w'=>next (a.put o.dst v) w') r):o.uponIn (FW ro) m G.P a next Q r:=by
 cases r with
 |ok x w'=>
  cases x<;>simp only[lS]at h
  case value v=>exact h
  case skip=>exact h
  case enter f args=>
   refine⟨fun e=>?_,(qt h).mono ?_⟩
   ·cases e
   ·rintro e w'' ⟨v,rfl,hv⟩;exact hv
 |halt x w'=>exact h.elim
theorem eE.e (he:bU G n op E w K) (hn:kC op=true) (hd:Pt d n=true) (h:∀v w',K v w'→eE ro m D ops Q n rest ((d,v)::E) w'):eE ro m D ops Q n (⟨some d,op,ty,pos,aft,none⟩::rest) E w:=⟨fun a ha=>by
 have hr:=he.h _ ha.ag (some d) ty pos aft none
 rw[zJ]at hr
 have hs:Oper.semAt (FW ro).round a.eval ⟨some d,op,ty,pos,aft,none⟩=execOp a.eval ⟨some d,op,ty,pos,aft,none⟩:=Oper.semAt_eq _ _ _ (by rintro c rfl;simp[kC]at hn)
 refine rh rfl ⟨fun _ _=>trivial,?_⟩
 rw[hs]
 exact AU (dx hr (fun v w' hk=>(h v w' hk).h _ (ha.put (by simpa using hd) v)))⟩
theorem eE.e0 (he:bU G n op E w K) (hn:kC op=true) (h:∀v w',K v w'→eE ro m D ops Q n rest E w'):eE ro m D ops Q n (⟨none,op,ty,pos,aft,none⟩::rest) E w:=⟨fun a ha=>by
 have hr:=he.h _ ha.ag none ty pos aft none
 rw[zJ]at hr
 have hs:Oper.semAt (FW ro).round a.eval ⟨none,op,ty,pos,aft,none⟩=execOp a.eval ⟨none,op,ty,pos,aft,none⟩:=Oper.semAt_eq _ _ _ (by rintro c rfl;simp[kC]at hn)
 refine rh rfl ⟨fun _ _=>trivial,?_⟩
 rw[hs]
 exact AU (dx hr (fun v w' hk=>(h v w' hk).h a ha))⟩
theorem eE.round {l:Nat} {y:Operand} {args:List Operand} {tys:Array TypeId} {vs:List Value} {R:Ending→World→Prop} (hf:ev E y=some (.func (.yield l) #[] #[])) (ha:kJ E args=some vs) (hd:Pt d n=true)
  (hY:YieldAt (FW ro) (m - 1) G.P l vs.toArray w R) (h:∀e w',R e w'→∃v,e=.returned v∧eE ro m D ops Q n rest ((d,v)::E) w'):
  eE ro m D ops Q n (⟨some d,.call ⟨.value y,args.toArray,tys⟩,ty,pos,aft,none⟩::rest) E w:=⟨fun a hag=>by
 obtain⟨fn,tmps,assign,body,hrun,hR⟩:=hY
 have e1:args.map a.eval=vs:=by rw[←zJ];exact hag.ag.pA ha
 have hs:Oper.semAt (FW ro).round a.eval ⟨some d,.call ⟨.value y,args.toArray,tys⟩,ty,pos,aft,none⟩=execOp a.eval ⟨some d,.call ⟨.value y,args.toArray,tys⟩,ty,pos,aft,none⟩:=Oper.semAt_eq _ _ _ (by rintro c e;cases e)
 refine rh rfl ⟨fun _ _=>trivial,?_⟩
 have hx:(execOp a.eval ⟨some d,.call ⟨.value y,args.toArray,tys⟩,ty,pos,aft,none⟩).run G.P w=.ok (.round l fn tmps assign body) w:=by
  simp[execOp,resolve,invoke,Deferred.ofValue,hag.eval hf,e1,hrun]
 rw[hs,hx]
 refine⟨fun e=>(by cases e),hR.mono ?_⟩
 rintro e w' hRe
 obtain⟨v,rfl,hv⟩:=h e w' hRe
 exact hv.h _ (hag.put (by simpa using hd) v)⟩
theorem Cd.CR {id:Nat} {l:List Oper} (m:Nat) (h:eE none m [] l.toArray Q n l E w):Cd G Q n (.region id l.toArray false) E w:=⟨fun a ha=>wpIn_wide.1 (wpIn_region_lit (h.h a (tk.of ha)))⟩
def FP (l:List (Nat×Value)) (E:Env):Env:=l.foldl (fun E pv=>pv::E) E
theorem xR:∀(l:List (Nat×Value)) {t:Array Value} {E:Env},Ag n ⟨t,[]⟩ E→(∀pv∈l,pv.1<n)→Ag n ⟨l.foldl (fun t pv=>t.setIfInBounds pv.1 pv.2) t,[]⟩ (FP l E)
 |[],_,_,h,_=>h
 |(p,v)::r,t,E,h,hl=>xR r (t:=t.setIfInBounds p v) (E:=(p,v)::E) (h.put (hl (p,v) Pj) v) (fun pv hp=>hl pv (by simp[hp]))
theorem kx.rangeFunc {α:Type} {g:Operand} {ps:List Nat} {assign body:Code} {gf:Nat} {lb:List Value} (hg:ev E g=some (.func (.func gf) #[] lb.toArray)) (hf:G.fb[gf]?=some true) (hm:1≤m)
  {encs:α→List Value} {Kp:World→World→Prop} {S Sp:List α→Prop} {N:Nat} (hseq:SeqStopsK (FW none) (m - 1) G.P gf lb.toArray (fun x=>(encs x).toArray) Kp S Sp N w)
  (hKt:∀{A B C:World},Kp A B→Kp B C→Kp A C) (hKb:∀(W:World) (l:Nat) (o o':Obj),w.heap.size≤l→W.heap[l]?=some o→o.isCells=false→o.isWalk=false→Kp W (W.putObj l o')) (hKr:∀W,Kp W W) (hps:∀x,(encs x).length=ps.length) (hpn:(ps.all fun p=>Pt p n)=true)
  (I:List α→World→Prop) (Ix:Code→List α→World→Prop) (hI:OwnFrom w.heap.size I) (hIx:∀c,OwnFrom w.heap.size (Ix c)) (h0:I [] w) (E1:α→Env)
  (hassign:∀(l:Nat) (x:α) (W:World) (K:Act→World→Prop),(∀a,tk n [] a (E1 x)→K a W)→kx (some l) (m - 1 - 1) [] (Exit.then K (fun _ _ _=>False)) n assign (FP (ps.zip (encs x)) E) W)
  (hbody:∀(l:Nat) (pre:List α) (x:α) (W:World),I pre W→pre.length<N→kx (some l) (m - 1 - 1) [] (ownPostG w.heap.size Kp I Ix (pre++[x]) W) n body (E1 x) W)
  (hdone:∀(Dn:Nat) (xs:List α) (W:World),w.heap.size≤Dn→S xs→I xs W→W.heap[Dn]?=some (.deferred (some []))→fh ({target:=.collected Dn,args:=#[]}::D) Q n .normal E W)
  (hstop:∀(Dn:Nat) (c:Code) (pre:List α) (W:World),w.heap.size≤Dn→Sp pre→Ix c pre W→W.heap[Dn]?=some (.deferred (some []))→kx none m ({target:=.collected Dn,args:=#[]}::D) Q n c E W):
  kx none m D Q n (.rangeFunc g ps.toArray assign body) E w:=⟨fun a ha=>by
 refine wpIn_rangeFunc_ownH (F:=FW none) rfl hm (ha.eval hg) trivial (G.Dq gf hf) hseq hKt hKb (Below.refl _ _) (fun x=>by simpa using hps x) I Ix hI hIx h0 (fun x a' _=>tk n [] a' (E1 x)) (fun x a' _ W W' row h _ _=>h) ?_ ?_ ?_ ?_
 ·intro l pre x W K hi hK
  refine(hassign l x W K (fun a' h'=>hK a' W (KeepsFrom.refl _ _) (hKr W) hi h')).h _ ⟨?_,rfl⟩
  have e:(ps.toArray.zip (encs x).toArray).foldl (fun t (p,v)=>t.setIfInBounds p v) a.tmps=(ps.zip (encs x)).foldl (fun t pv=>t.setIfInBounds pv.1 pv.2) a.tmps:=by
   rw[←Array.foldl_toList];simp
  rw[e]
  refine xR _ ⟨ha.ag.sz,rfl,ha.ag.eq⟩ (fun pv hp=>?_)
  have:=PC.1 hpn pv.1 (List.of_mem_zip (show(pv.1,pv.2)∈_ from hp)).1
  simpa using this
 ·intro l pre x a' W _ _ hi hax hN
  exact(hbody l pre x W hi hN).h a' hax
 ·intro Dn xs W h1 h2 h3 h4
  exact(hdone Dn xs W h1 h2 h3 h4).h _ ⟨⟨ha.ag.sz,rfl,ha.ag.eq⟩,by simp[ha.df]⟩
 ·intro Dn c pre W h1 h2 h3 h4
  exact(hstop Dn c pre W h1 h2 h3 h4).h _ ⟨⟨ha.ag.sz,rfl,ha.ag.eq⟩,by simp[ha.df]⟩⟩
theorem fh.He {fn:Func} {R:Ending→World→Prop} {e:Exit} {Dn:Nat} (he:e=.ret∨e=.normal) (hK:w.heap[Dn]?=some (.deferred (some [])))
  (hr:∀a,Ag n a E→(results fn a.tmps).run G.P (w.putObj Dn (.deferred none))=.ok v (w.putObj Dn (.deferred none))) (hR:R (.returned v) (w.putObj Dn (.deferred none))):fh [{target:=.collected Dn,args:=#[]}] (bodyPostM (FW none) m G.P fn R) n e E w:=⟨fun a ha=>by
 have h1:=hr _ ha.ag
 have key:LeavesInM (FW none) m G.P fn a.tmps R a.defers .returning w:=by
  rw[ha.df]
  exact⟨by simp,.inl ⟨_,_,rfl,run_takeDeferred hK,⟨v,h1,hR⟩⟩⟩
 rcases he with rfl|rfl<;>exact key⟩
theorem Fb {f:FuncId} {fn:Func} {c:Code} {l:List Value} {R:Ending→World→Prop} (m:Nat) (hf:G.P.funcs[f]?=some fn) (hb:fn.body=some c) (hn:fn.ntmps=n) (hl:PM l.length n=true)
  (h:kx none m [] (bodyPostM (FW none) m G.P fn R) n c (A7 0 l) w):Calls G.P f l.toArray w R:=by
 refine callsIn_wide.1 (callsIn_of_wp_marks (F:=Fence.wide) (n:=m) hf hb trivial (h.h _ (tk.of ?_)))
 have hl':l.length≤n:=PX hl
 refine⟨by simp[hn];omega,rfl,fun t v ht=>?_⟩
 obtain⟨_,h2⟩:=yp l 0 t v ht
 rw[Nat.sub_zero]at h2
 obtain⟨h3,h4⟩:=PR.1 h2
 refine⟨by omega,?_⟩
 have:t<(l.toArray++Array.replicate (fn.ntmps - l.toArray.size) undef).size:=by simp;omega
 simp only[Array.getD,this,dite_true]
 rw[Array.getInternal_eq_getElem,Array.getElem_append_left (by simpa using h3)]
 simpa using h4
end
theorem fh.ofFin {e:Exit} {E:Env} {w:World} (h:Fin Q n e E w):fh [] Q n e E w:=⟨fun a ha=>h.h a ha.Ho⟩
def HJ:List Oper→Bool
 |[]=>true
 |⟨_,.call ⟨.value (.tmp _),_,_⟩,_,_,_,_⟩::_=>false
 |_::r=>HJ r
theorem Cd.Hd {id:Nat} {l:List Oper} (_:HJ l=true) (h:aq G l.toArray (.list Q w) n l E):Cd G Q n (.region id l.toArray false) E w:=Cd.region h
theorem Cl {g g':Prop} (h:g') (hw:eA g'→g:=by(intro hk_;(repeat(first|(first|refine aq.y (Yl.move rfl) rfl ?_|refine aq.y (Yl.assign rfl) rfl ?_|(refine aq.is ?_;(first|(refine aq.CF ?_;(first|refine aq.gs rfl rfl rfl ?_|refine aq.gu rfl rfl ?_|refine aq.yg rfl (Yl.move rfl) rfl ?_|refine aq.yg rfl (Yl.assign rfl) rfl ?_|(refine aq.aE ?_;(first|(refine aq.aE (bo:=.lss) ?_;(first|refine aq.yg rfl (Yl.lH rfl rfl Pi) rfl ?_|refine aq.yg rfl (Yl.lG rfl rfl Pi) rfl ?_))|(refine aq.aE (bo:=.eql) ?_;(first|refine aq.yg rfl (Yl.ly rfl rfl Pi) rfl ?_|refine aq.yg rfl (Yl.lx rfl rfl Pi) rfl ?_))|(refine aq.aE (bo:=.neq) ?_;(first|refine aq.yg rfl (Yl.lK rfl rfl Pi) rfl ?_|refine aq.yg rfl (Yl.lJ rfl rfl Pi) rfl ?_))|(refine aq.aE (bo:=.leq) ?_;(first|refine aq.yg rfl (Yl.lF rfl rfl Pi) rfl ?_|refine aq.yg rfl (Yl.lE rfl rfl Pi) rfl ?_))|(refine aq.aE (bo:=.gtr) ?_;(first|refine aq.yg rfl (Yl.lC rfl rfl Pi) rfl ?_|refine aq.yg rfl (Yl.lB rfl rfl Pi) rfl ?_))|(refine aq.aE (bo:=.geq) ?_;(first|refine aq.yg rfl (Yl.lA rfl rfl Pi) rfl ?_|refine aq.yg rfl (Yl.lz rfl rfl Pi) rfl ?_))|refine aq.yg rfl (Yl.add rfl rfl Pi) rfl ?_|refine aq.yg rfl (Yl.sub rfl rfl Pi) rfl ?_|refine aq.yg rfl (Yl.jh rfl rfl rfl rfl) rfl ?_|refine aq.yg rfl (Yl.mr Tryz.underlying4 rfl rfl) rfl ?_|refine aq.yg rfl (Yl.mq Tryz.underlying4 rfl rfl) rfl ?_))|(refine aq.isField ?_;(first|refine aq.yg rfl (Yl.gJ rfl rfl rfl) rfl ?_|refine aq.yg rfl (Yl.field rfl rfl rfl) rfl ?_))|(refine aq.dn ?_;(first|refine aq.yg rfl (Yl.load rfl rfl rfl OQ) rfl ?_|refine aq.yg rfl (Yl.load rfl rfl rfl (sa eJ)) rfl ?_|refine aq.yg rfl (Yl.load rfl rfl rfl eJ) rfl ?_))|(refine aq.eN ?_;(first|refine aq.yg rfl (Yl.gn rfl rfl rfl rfl rfl rfl Pi) rfl ?_|refine aq.yg rfl (Yl.idx rfl rfl rfl rfl rfl rfl Pi) rfl ?_))|refine aq.yg rfl (Yl.len rfl rfl rfl) rfl ?_|refine aq.yg rfl (Yl.extract rfl rfl) rfl ?_|refine aq.yg rfl (Yl.fT rfl rfl) rfl ?_|refine aq.yg rfl (Yl.fS rfl rfl) rfl ?_|refine aq.yg rfl (Yl.nilCheck rfl) rfl ?_|refine aq.yg rfl (Yl.not rfl) rfl ?_|refine aq.yg rfl (Yl.makeFunc rfl rfl) rfl ?_))|refine aq.nil ?_|refine aq.G2 ?_|refine aq.DR ?_|(refine aq.aE ?_;(first|(refine aq.aE (bo:=.lss) ?_;(first|refine aq.y (Yl.lH rfl rfl Pi) rfl ?_|refine aq.y (Yl.lG rfl rfl Pi) rfl ?_))|(refine aq.aE (bo:=.eql) ?_;(first|refine aq.y (Yl.ly rfl rfl Pi) rfl ?_|refine aq.y (Yl.lx rfl rfl Pi) rfl ?_))|(refine aq.aE (bo:=.neq) ?_;(first|refine aq.y (Yl.lK rfl rfl Pi) rfl ?_|refine aq.y (Yl.lJ rfl rfl Pi) rfl ?_))|(refine aq.aE (bo:=.leq) ?_;(first|refine aq.y (Yl.lF rfl rfl Pi) rfl ?_|refine aq.y (Yl.lE rfl rfl Pi) rfl ?_))|(refine aq.aE (bo:=.gtr) ?_;(first|refine aq.y (Yl.lC rfl rfl Pi) rfl ?_|refine aq.y (Yl.lB rfl rfl Pi) rfl ?_))|(refine aq.aE (bo:=.geq) ?_;(first|refine aq.y (Yl.lA rfl rfl Pi) rfl ?_|refine aq.y (Yl.lz rfl rfl Pi) rfl ?_))|refine aq.y (Yl.add rfl rfl Pi) rfl ?_|refine aq.y (Yl.sub rfl rfl Pi) rfl ?_|refine aq.y (Yl.jh rfl rfl rfl rfl) rfl ?_|refine aq.y (Yl.mr Tryz.underlying4 rfl rfl) rfl ?_|refine aq.y (Yl.mq Tryz.underlying4 rfl rfl) rfl ?_))|(refine aq.isField ?_;(first|refine aq.y (Yl.gJ rfl rfl rfl) rfl ?_|refine aq.y (Yl.field rfl rfl rfl) rfl ?_))|(refine aq.dn ?_;(first|refine aq.y (Yl.load rfl rfl rfl OQ) rfl ?_|refine aq.y (Yl.load rfl rfl rfl (sa eJ)) rfl ?_|refine aq.y (Yl.load rfl rfl rfl eJ) rfl ?_))|(refine aq.eN ?_;(first|refine aq.y (Yl.gn rfl rfl rfl rfl rfl rfl Pi) rfl ?_|refine aq.y (Yl.idx rfl rfl rfl rfl rfl rfl Pi) rfl ?_))|refine aq.y (Yl.len rfl rfl rfl) rfl ?_|refine aq.y (Yl.extract rfl rfl) rfl ?_|refine aq.y (Yl.fT rfl rfl) rfl ?_|refine aq.y (Yl.fS rfl rfl) rfl ?_|refine aq.y (Yl.nilCheck rfl) rfl ?_|refine aq.y (Yl.not rfl) rfl ?_|refine aq.y (Yl.makeFunc rfl rfl) rfl ?_))|(refine Cd.is ?_;(first|refine Cd.seq ?_|refine Cd.Hd rfl ?_|refine Cd.block ?_|refine Cd.jf rfl ?_|refine Cd.je rfl ?_|refine Cd.skip ?_|refine Cd.scope ?_|refine Cd.ret ?_|refine Cd.exit ?_|refine Cd.label ?_))|(refine Fin.is ?_;(first|refine Fin.lf ?_|refine Fin.pR ?_|refine Fin.lg ?_|refine Fin.pS ?_|refine Fin.lh ?_|refine Fin.Kb ?_|refine Fin.pT ?_|refine Fin.xV rfl ?_)))|(refine aq.is ?_;(first|(refine aq.CF ?_;(first|(refine aq.aE ?_;(first|refine aq.yg rfl (Yl.xj rfl rfl) rfl ?_|refine aq.yg rfl (Yl.nV rfl rfl) rfl ?_|refine aq.yg rfl (Yl.nS rfl rfl Pi) rfl ?_))|refine aq.yg rfl (Yl.gH rfl rfl rfl rfl) rfl ?_|refine aq.yg rfl (Yl.ed Tryz.underlying9 rfl rfl rfl Pi) rfl ?_|refine aq.yg rfl (Yl.dC Tryz.underlying9 rfl rfl rfl Pi) rfl ?_|refine aq.yg rfl (Yl.eW Tryz.underlying9 rfl rfl rfl rfl rfl Pi Pi) rfl ?_|refine aq.yg rfl (Yl.cZ rfl rfl rfl rfl rfl rfl Pi) rfl ?_|refine aq.yg rfl (Yl.nT Tryz.underlying9 rfl) rfl ?_))|(refine aq.aE ?_;(first|refine aq.y (Yl.xj rfl rfl) rfl ?_|refine aq.y (Yl.nV rfl rfl) rfl ?_|refine aq.y (Yl.nS rfl rfl Pi) rfl ?_))|refine aq.y (Yl.gH rfl rfl rfl rfl) rfl ?_|refine aq.y (Yl.ed Tryz.underlying9 rfl rfl rfl Pi) rfl ?_|refine aq.y (Yl.dC Tryz.underlying9 rfl rfl rfl Pi) rfl ?_|refine aq.y (Yl.eW Tryz.underlying9 rfl rfl rfl rfl rfl Pi Pi) rfl ?_|refine aq.y (Yl.cZ rfl rfl rfl rfl rfl rfl Pi) rfl ?_|refine aq.y (Yl.nT Tryz.underlying9 rfl) rfl ?_))));exact hk_.out)):g:=hw ⟨h⟩
theorem AX {g g':Prop} (h:g') (hw:eA g'→g:=by(intro hk_;(repeat(first|refine eE.nil ?_|refine eE.y (Yl.move rfl) rfl ?_|refine eE.y (Yl.assign rfl) rfl ?_|refine eE.y (Yl.lH rfl rfl Pi) rfl ?_|refine eE.y (Yl.lG rfl rfl Pi) rfl ?_|refine eE.y (Yl.ly rfl rfl Pi) rfl ?_|refine eE.y (Yl.lx rfl rfl Pi) rfl ?_|refine eE.y (Yl.lK rfl rfl Pi) rfl ?_|refine eE.y (Yl.lJ rfl rfl Pi) rfl ?_|refine eE.y (Yl.lF rfl rfl Pi) rfl ?_|refine eE.y (Yl.lE rfl rfl Pi) rfl ?_|refine eE.y (Yl.lC rfl rfl Pi) rfl ?_|refine eE.y (Yl.lB rfl rfl Pi) rfl ?_|refine eE.y (Yl.lA rfl rfl Pi) rfl ?_|refine eE.y (Yl.lz rfl rfl Pi) rfl ?_|refine eE.y (Yl.add rfl rfl Pi) rfl ?_|refine eE.y (Yl.sub rfl rfl Pi) rfl ?_|refine eE.y (Yl.xj rfl rfl) rfl ?_|refine eE.y (Yl.nV rfl rfl) rfl ?_|refine eE.y (Yl.nS rfl rfl Pi) rfl ?_|refine eE.y (Yl.gJ rfl rfl rfl) rfl ?_|refine eE.y (Yl.field rfl rfl rfl) rfl ?_|refine eE.y (Yl.load rfl rfl rfl OQ) rfl ?_|refine eE.y (Yl.gn rfl rfl rfl rfl rfl rfl Pi) rfl ?_|refine eE.y (Yl.idx rfl rfl rfl rfl rfl rfl Pi) rfl ?_|refine eE.y (Yl.len rfl rfl rfl) rfl ?_|refine eE.y (Yl.nT Tryz.underlying9 rfl) rfl ?_|refine eE.y (Yl.extract rfl rfl) rfl ?_|refine eE.y (Yl.fT rfl rfl) rfl ?_|refine eE.y (Yl.fS rfl rfl) rfl ?_|refine eE.y (Yl.not rfl) rfl ?_|refine kx.seq ?_|refine kx.region ?_|refine kx.block ?_|refine kx.skip ?_|refine kx.ret ?_|refine kx.exit ?_|refine kx.jf rfl ?_|refine kx.je rfl ?_|refine fh.lf ?_|refine fh.pR ?_|refine fh.lg ?_|refine fh.pS ?_|refine fh.lh ?_|refine fh.pT ?_|fail));exact hk_.out)):g:=hw ⟨h⟩
def QN (Q:Exit→Act→World→Prop):Exit→Act→World→Prop:=fun e a w=>e=.normal∧Q e a w
structure ek (ops:Array Oper) (Q:Exit→Act→World→Prop) (n f:Nat) (listed:Array Bool) (E:Env) (w:World):Prop where
 h:∀a,Ag n a E→wpAny G.P .any ops (QN Q) f listed a w
section
variable {ops:Array Oper} {Q:Exit→Act→World→Prop} {n f:Nat} {listed:Array Bool} {E:Env} {w:World} {d:Nat} {op:Op} {ty:TypeId} {pos:String} {aft:Array Edge} {v:Value} {K:Value→World→Prop}
theorem Cd.qV {id:Nat} {l:List Oper} (h:ek l.toArray Q n l.length (Array.replicate l.length false) E w.drew):Cd G Q n (.region id l.toArray true) E w:=⟨fun a ha=>by
 refine Code.wp_mono ?_ (wp_region_any (Q:=QN Q) G.mixed (by simpa using h.h a ha))
 rintro e a' w' ⟨rfl,hq⟩;exact hq⟩
theorem ek.done (hr:Region.ready .any ops listed=[]) (h:Fin Q n .normal E w):ek ops Q n f listed E w:=⟨fun a ha=>wpAny_done hr ⟨rfl,h.h a ha⟩ f⟩
theorem ek.take (i:Nat) (hi:ops[i]?=some ⟨some d,op,ty,pos,aft,none⟩) (hc:(Region.noSelect ops && Region.free .any ops listed i && (Region.ready .any ops listed).contains i && qo op && Pt d n)=true) (hy:Yl G n op E (fun _=>True) v) (h:ek ops Q n f (listed.setIfInBounds i true) ((d,v)::E) w):ek ops Q n (f+1) listed E w:=⟨fun a ha=>by
 simp only[PD]at hc
 obtain⟨⟨⟨⟨h1,h2⟩,h3⟩,h4⟩,h5⟩:=hc
 refine wpAny_take (v:=v) hi h1 h2 h3 (fun c a w hq=>by cases hq.1) ?_ (h.h _ (ha.put (by simpa using h5) v))
 exact .inl ⟨by simp[Region.wanted],fun w'=>hy.h w' trivial a ha _ _ _ _ _⟩⟩
theorem CY {a:Act} {o:Oper} {next:Act→World→Prop} {r:Result Next} (h:lS G.P (fun v w'=>next (a.put o.dst v) w') r):o.upon G.P a next Q r:=by
 cases r with
 |ok x w'=>
  cases x<;>simp only[lS]at h
  case value v=>exact h
  case skip=>exact h
  case enter f args=>exact h.mono (by rintro e w'' ⟨v,rfl,hv⟩;exact hv)
 |halt x w'=>exact h.elim
theorem ek.one (i:Nat) (hr:Region.ready .any ops listed=[i]) (hi:ops[i]?=some ⟨some d,op,ty,pos,aft,none⟩) (hd:Pt d n=true) (he:bU G n op E w K) (h:∀v w',K v w'→ek ops Q n f (listed.setIfInBounds i true) ((d,v)::E) w'):ek ops Q n (f+1) listed E w:=⟨fun a ha=>by
 refine wpAny_all hr Pj (fun j hj=>?_)
 rw[PO]at hj;subst hj
 unfold wpOp
 rw[hi]
 have hw:Region.wanted ⟨some d,op,ty,pos,aft,none⟩ (yielded ops a.tmps)=true:=by simp[Region.wanted]
 show(if Region.wanted _ _ then _ else _)
 rw[if_pos hw]
 exact .inl (CY (dx (he.h a ha _ _ _ _ _) (fun v w' hk=>(h v w' hk).h _ (ha.put (by simpa using hd) v))))⟩
theorem ek.Jk (i:Nat) (hr:Region.ready .any ops listed=[i]) (hi:ops[i]?=some ⟨none,op,ty,pos,aft,none⟩) (he:bU G n op E w K) (h:∀v w',K v w'→ek ops Q n f (listed.setIfInBounds i true) E w'):ek ops Q n (f+1) listed E w:=⟨fun a ha=>by
 refine wpAny_all hr Pj (fun j hj=>?_)
 rw[PO]at hj;subst hj
 unfold wpOp
 rw[hi]
 have hw:Region.wanted ⟨none,op,ty,pos,aft,none⟩ (yielded ops a.tmps)=true:=by simp[Region.wanted]
 show(if Region.wanted _ _ then _ else _)
 rw[if_pos hw]
 exact .inl (CY (dx (he.h a ha _ _ _ _ _) (fun v w' hk=>(h v w' hk).h a ha)))⟩
theorem ek.FE (i:Nat) (hr:Region.ready .any ops listed=[i]) (hi:ops[i]?=some ⟨some d,op,ty,pos,aft,none⟩) (hd:Pt d n=true) (hy:Yl G n op E (fun w'=>w'=w) v) (h:ek ops Q n f (listed.setIfInBounds i true) ((d,v)::E) w):ek ops Q n (f+1) listed E w:=
 ek.one (K:=fun v' w'=>v'=v∧w'=w) i hr hi hd ⟨fun a ha d ty pos aft gd=>by rw[hy.h w rfl a ha d ty pos aft gd];exact⟨rfl,rfl⟩⟩ (by rintro _ _ ⟨rfl,rfl⟩;exact h)
end
def IM {α:Type} (g:Nat) (lb:List Value) (encs:α→List Value) (Kp:World→World→Prop) (full:List α) (w:World):Prop:=
 ∀(l:Nat) (J Jx:List α→World→Prop) (W:World),Below w.heap.size w W→OwnFrom W.heap.size J→OwnFrom W.heap.size Jx→
  (∀pre x W1,J pre W1→pre++[x]<+:full→YieldAt (FW none) 0 G.P l (encs x).toArray W1 fun e W'=>
   (e=.returned (.bool true)∧J (pre++[x]) W'∧Kp W1 W')∨(e=.returned (.bool false)∧Jx (pre++[x]) W'∧Kp W1 W'))→
  J [] W→Calls G.P g (Value.func (.yield l) #[] #[]::lb).toArray W fun e W'=>(∃v,e=.returned v)∧(J full W'∨(∃pre,pre<+:full∧Jx pre W'))
structure zi (ps:Array Tmp) (B:Nat) (W W':World):Prop where
 size:W.heap.size≤W'.heap.size
 same:∀(k:Nat) (o:Obj),B≤k→W.heap[k]?=some o→((∃d,o=.deferred d)∨∃r,o=.loop r∧r.params=ps)→W'.heap[k]?=some o
def IK {α:Type} (ps:Array Tmp) (B:Nat) (Kp:World→World→Prop) (I:List α→World→Prop) (Ix:Code→List α→World→Prop) (xs:List α) (W:World):Exit→Act→World→Prop
 |.normal,_,W'=>zi ps B W W'∧Kp W W'∧I xs W'
 |.ret,_,W'=>zi ps B W W'∧Kp W W'∧Ix .ret xs W'
 |.exit id,_,W'=>zi ps B W W'∧Kp W W'∧Ix (.exit id) xs W'
 |_,_,_=>False
section
variable {m:Nat} {D:List Deferred} {Q:Exit→Act→World→Prop} {n:Nat} {E:Env} {w:World}
theorem kx.It {α:Type} {g:Operand} {ps:List Nat} {assign body:Code} {gf:Nat} {lb:List Value} (hg:ev E g=some (.func (.func gf) #[] lb.toArray)) (hf:G.fb[gf]?=some true)
  {encs:α→List Value} {Kp:World→World→Prop} {full:List α} (hseq:IM gf lb encs Kp full w)
  (hKt:∀{A B C:World},Kp A B→Kp B C→Kp A C) (hKb:∀(W:World) (l:Nat) (r r':Loop),w.heap.size≤l→W.heap[l]?=some (.loop r)→r.params=ps.toArray→Kp W (W.putObj l (.loop r'))) (hps:∀x,(encs x).length=ps.length) (hpn:(ps.all fun p=>Pt p n)=true)
  (I:List α→World→Prop) (Ix:Code→List α→World→Prop) (hI:OwnFrom w.heap.size I) (hIx:∀c,OwnFrom w.heap.size (Ix c)) (h0:I [] w) (E1:α→Env)
  (hassign:∀(l:Nat) (x:α) (W:World) (K:Act→World→Prop),(∀a,tk n [] a (E1 x)→K a W)→kx (some l) 0 [] (Exit.then K (fun _ _ _=>False)) n assign (FP (ps.zip (encs x)) E) W)
  (hbody:∀(l:Nat) (pre:List α) (x:α) (W:World),I pre W→pre++[x]<+:full→kx (some l) 0 [] (IK ps.toArray w.heap.size Kp I Ix (pre++[x]) W) n body (E1 x) W)
  (hdone:∀(Dn:Nat) (W:World),w.heap.size≤Dn→I full W→W.heap[Dn]?=some (.deferred (some []))→fh ({target:=.collected Dn,args:=#[]}::D) Q n .normal E W)
  (hstop:∀(Dn:Nat) (c:Code) (pre:List α) (W:World),w.heap.size≤Dn→pre<+:full→Ix c pre W→W.heap[Dn]?=some (.deferred (some []))→kx none m ({target:=.collected Dn,args:=#[]}::D) Q n c E W):
  kx none m D Q n (.rangeFunc g ps.toArray assign body) E w:=⟨fun a ha=>by
 refine wpIn_rangeFunc ?_
 intro fn _
 rw[show(FW none).round=none from rfl]
 obtain⟨lr,hlr⟩:∃lr:LoopState→Option Code→Loop,lr=fun st pe=>{state:=st,pending:=pe,fn,tmps:=a.tmps,params:=ps.toArray,assign,body,defers:=w.heap.size}:=⟨_,rfl⟩
 have hp:∀st pe,(lr st pe).params=ps.toArray:=fun st pe=>by rw[hlr]
 obtain⟨W1,hW1⟩:∃W1,(w.alloc (.deferred (some []))).alloc (.loop (lr .ready none))=W1:=⟨_,rfl⟩
 have hs1:W1.heap.size=w.heap.size+2:=by rw[←hW1];simp
 have hL1:W1.heap[w.heap.size+1]?=some (.loop (lr .ready none)):=by
  rw[←hW1];have:=heap_alloc_new (w.alloc (.deferred (some []))) (.loop (lr .ready none));simpa using this
 have hK1:W1.heap[w.heap.size]?=some (.deferred (some [])):=by
  rw[←hW1];exact(Below.heap_alloc _ _ _ Pj).trans (heap_alloc_new w _)
 have hI1:I [] W1:=by rw[←hW1];exact hI.alloc _ (hI.alloc _ h0)
 have hb1:Below w.heap.size w W1:=by
  rw[←hW1];exact((Below.refl _ w).alloc (Px _) _).alloc Pj _
 refine⟨w.heap.size+1,[{target:=.collected w.heap.size,args:=#[]}],W1,{target:=.fn (.func gf) lb.toArray,args:=#[.func (.yield (w.heap.size+1)) #[] #[]]},W1,gf,
  (Value.func (.yield (w.heap.size+1)) #[] #[]::lb).toArray,W1,?_,?_,fun _ _=>trivial,?_,fun e=>(by cases e),?_⟩
 ·rw[←hW1,hlr];exact run_enterLoop_outer _ _ _ _ _
 ·simp only[resolve,ha.eval hg]
  simp[go_sem]
 ·simp[invoke,go_sem,G.Dq gf hf]
 refine callsIn_wide.2 ((hseq (w.heap.size+1)
   (fun pre W=>I pre W∧W.heap[w.heap.size+1]?=some (.loop (lr .ready none))∧W.heap[w.heap.size]?=some (.deferred (some [])))
   (fun pre W=>∃c,Ix c pre W∧W.heap[w.heap.size+1]?=some (.loop (lr .done (some c)))∧W.heap[w.heap.size]?=some (.deferred (some [])))
   W1 hb1 ?_ ?_ ?_ ⟨hI1,hL1,hK1⟩).mono ?_)
 ·rintro s A B row ⟨h1,h2,h3⟩ hg' hr
  refine⟨hI s A B row h1 hg' fun r e=>⟨by have:=(hr r e).1;omega,(hr r e).2⟩,?_,?_⟩
  ·rw[hg'.block _ (Array.getElem?_eq_some_iff.1 h2).1 (fun e=>by have:=(hr _ e.symm).1;omega)];exact h2
  ·rw[hg'.block _ (Array.getElem?_eq_some_iff.1 h3).1 (fun e=>by have:=(hr _ e.symm).1;omega)];exact h3
 ·rintro s A B row ⟨c,h1,h2,h3⟩ hg' hr
  refine⟨c,hIx c s A B row h1 hg' fun r e=>⟨by have:=(hr r e).1;omega,(hr r e).2⟩,?_,?_⟩
  ·rw[hg'.block _ (Array.getElem?_eq_some_iff.1 h2).1 (fun e=>by have:=(hr _ e.symm).1;omega)];exact h2
  ·rw[hg'.block _ (Array.getElem?_eq_some_iff.1 h3).1 (fun e=>by have:=(hr _ e.symm).1;omega)];exact h3
 ·rintro pre x W ⟨hi,hl,hk⟩ hlen
  have hlt:w.heap.size+1<W.heap.size:=(Array.getElem?_eq_some_iff.1 hl).1
  have hy:=run_yield (P:=G.P) (args:=(encs x).toArray) hl (by rw[hp];simpa using hps x)
  have e:(ps.toArray.zip (encs x).toArray).foldl (fun t (p,v)=>t.setIfInBounds p v) a.tmps=(ps.zip (encs x)).foldl (fun t pv=>t.setIfInBounds pv.1 pv.2) a.tmps:=by
   rw[←Array.foldl_toList];simp
  have hst:(lr .ready none).state=.ready:=by rw[hlr]
  refine⟨(lr .ready none).fn,_,(lr .ready none).assign,(lr .ready none).body,hy,roundIn_of_wpIn trivial ?_⟩
  have hnew:(lr .ready none).assign=assign∧(lr .ready none).body=body∧(lr .ready none).tmps=a.tmps:=by rw[hlr];exact⟨rfl,rfl,rfl⟩
  rw[hnew.1,hnew.2.1,hnew.2.2,hp,e]
  refine(hassign (w.heap.size+1) x W _ (fun a' ha'=>?_)).h _ ⟨xR _ ⟨ha.ag.sz,rfl,ha.ag.eq⟩ (fun pv hpv=>?_),rfl⟩
  ·refine⟨_,run_beginRound hl hst,?_⟩
   have hl2:(W.putObj (w.heap.size+1) (.loop {lr .ready none with state:=.busy})).heap[w.heap.size+1]?=some (.loop {lr .ready none with state:=.busy}):=World.putObj_heap_same hlt
   have hk2:(W.putObj (w.heap.size+1) (.loop {lr .ready none with state:=.busy})).heap[w.heap.size]?=some (.deferred (some [])):=(World.putObj_heap_other Pi).trans hk
   have hw2:Kp W (W.putObj (w.heap.size+1) (.loop {lr .ready none with state:=.busy})):=hKb _ _ _ _ Pi hl (hp _ _)
   refine wpIn_mono ((hbody (w.heap.size+1) pre x _ (hI.putObj _ hi Pi hl rfl) hlen).h a' ha') ?_
   have fin:∀(jump:Option Code) (W3:World),zi ps.toArray w.heap.size (W.putObj (w.heap.size+1) (.loop {lr .ready none with state:=.busy})) W3→
     (Instr.endRound (w.heap.size+1) jump).run G.P W3=.ok (.bool jump.isNone) (W3.putObj (w.heap.size+1) (.loop (lr (if jump.isNone then .ready else .done) jump)))∧
     W3.heap[w.heap.size+1]?=some (.loop {lr .ready none with state:=.busy})∧
     (W3.putObj (w.heap.size+1) (.loop (lr (if jump.isNone then .ready else .done) jump))).heap[w.heap.size+1]?=some (.loop (lr (if jump.isNone then .ready else .done) jump))∧
     (W3.putObj (w.heap.size+1) (.loop (lr (if jump.isNone then .ready else .done) jump))).heap[w.heap.size]?=some (.deferred (some [])):=fun jump W3 hk3=>by
    have hl3:=hk3.same _ _ Pi hl2 (.inr ⟨_,rfl,hp _ _⟩)
    have hr3:=run_endRound (P:=G.P) jump hl3
    refine⟨?_,hl3,World.putObj_heap_same (Array.getElem?_eq_some_iff.1 hl3).1,(World.putObj_heap_other Pi).trans (hk3.same _ _ (Px _) hk2 (.inl ⟨_,rfl⟩))⟩
    rw[hlr]at hr3 ⊢;exact hr3
   rintro e3 a3 W3 hpx
   cases e3 with
   |normal=>
    obtain⟨hk3,hkp3,hi3⟩:=hpx
    obtain⟨hr,hl3,hl4,hk4⟩:=fin none W3 hk3
    exact⟨_,_,hr,.inl ⟨rfl,⟨hI.putObj _ hi3 Pi hl3 rfl,hl4,hk4⟩,hKt (hKt hw2 hkp3) (hKb _ _ _ _ Pi hl3 (hp _ _))⟩⟩
   |ret=>
    obtain⟨hk3,hkp3,hi3⟩:=hpx
    obtain⟨hr,hl3,hl4,hk4⟩:=fin (some .ret) W3 hk3
    exact⟨_,_,hr,.inr ⟨rfl,⟨.ret,(hIx _).putObj _ hi3 Pi hl3 rfl,hl4,hk4⟩,hKt (hKt hw2 hkp3) (hKb _ _ _ _ Pi hl3 (hp _ _))⟩⟩
   |exit id=>
    obtain⟨hk3,hkp3,hi3⟩:=hpx
    obtain⟨hr,hl3,hl4,hk4⟩:=fin (some (.exit id)) W3 hk3
    exact⟨_,_,hr,.inr ⟨rfl,⟨.exit id,(hIx _).putObj _ hi3 Pi hl3 rfl,hl4,hk4⟩,hKt (hKt hw2 hkp3) (hKb _ _ _ _ Pi hl3 (hp _ _))⟩⟩
   |goto t=>exact hpx.elim
   |panic ch=>exact hpx.elim
   |outgrown=>exact hpx.elim
  ·have:=PC.1 hpn pv.1 (List.of_mem_zip (show(pv.1,pv.2)∈_ from hpv)).1
   simpa using this
 ·rintro e W2 ⟨⟨v,rfl⟩,(⟨hi,hl,hk⟩|⟨pre,hSp,c,hi,hl,hk⟩)⟩
  ·refine⟨none,_,by have:=run_endLoop (P:=G.P) hl (by rw[hlr];simp);rw[hlr]at this;exact this,?_⟩
   exact(hdone _ _ (Px _) (hI.putObj _ hi Pi hl rfl) ((World.putObj_heap_other Pi).trans hk)).h _ ⟨⟨ha.ag.sz,rfl,ha.ag.eq⟩,by simp[ha.df]⟩
  ·refine⟨some c,_,by have:=run_endLoop (P:=G.P) hl (by rw[hlr];simp);rw[hlr]at this;exact this,?_⟩
   exact(hstop _ c pre _ (Px _) hSp ((hIx c).putObj _ hi Pi hl rfl) ((World.putObj_heap_other Pi).trans hk)).h _ ⟨⟨ha.ag.sz,rfl,ha.ag.eq⟩,by simp[ha.df]⟩⟩
end
end
end Go.Proofs.YtdkcljdfbemnbaaGreatDoor
