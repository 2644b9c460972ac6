/- Maps keyed by int: rules for the operations on a map of the call's own, and for ranging over it. -/
import Derived.Test.YtdkcljdfbemnbaaGreatDoorJF2
import Derived.Maps.Keyed
import Derived.Maps.RangeRun
import Derived.Shelf.Strings.Fields
import Derived.Shelf.Strings.Search3
import Derived.Test.YtdkcljdfbemnbaaGreatDoorProg
import Derived.KernelRfl
import Derived.Test.YtdkcljdfbemnbaaGreatDoorJA
namespace Go.Proofs.YtdkcljdfbemnbaaGreatDoor
open Go.RowKit _root_.Go.Proofs.Tryz
open Go.ChangeMaps (setBlock)
open Go.MapKept (Stamped)
theorem bX.setBlock (w:World) (b:Nat) (o:Obj):bX (fun k=>k=b) w (setBlock w b o):=
 ⟨rfl,rfl,rfl,by simp[ChangeMaps.setBlock],fun k _ hs=>by simp only[ChangeMaps.setBlock];rw[Array.getElem?_setIfInBounds_ne (fun e=>hs e.symm)]⟩
section
variable {n:Nat} {E:Env} {w:World} {t:TypeId} {x y z:Operand}
end
open Go.Shelf
set_option maxRecDepth 100000
def yj:Go.Shelf.Ren:=⟨fun|157=>187|229=>206|199=>207|261=>213|311=>216|312=>217|n=>n,fun|9=>9|31=>248|3=>3|5=>5|4=>4|119=>277|0=>0|40=>279|152=>284|21=>21|154=>286|51=>287|141=>289|196=>295|193=>292|198=>298|49=>296|194=>293|201=>301|226=>303|46=>283|227=>304|n=>n,fun|0=>0|6=>2|n=>n⟩
theorem Fo:Go.Proofs.Lays.n157 prog yj:={
 mixed:=by kernel_rfl
 f157:=func187.trans (congrArg some O5)
 f199:=func207.trans (congrArg some O5)
 f229:=func206.trans (congrArg some O5)
 f261:=func213.trans (congrArg some O5)
 f311:=func216.trans (congrArg some O5)
 f312:=func217.trans (congrArg some O5)
 t0:=underlying0
 a0:=isAgg0
 z0:=sizeOf0
 v0:=zeroValue0
 t3:=underlying3
 a3:=isAgg3
 z3:=sizeOf3
 v3:=zeroValue3
 t4:=underlying4
 a4:=isAgg4
 z4:=sizeOf4
 v4:=zeroValue4
 t5:=underlying5
 a5:=isAgg5
 z5:=sizeOf5
 v5:=zeroValue5
 t9:=underlying9
 a9:=isAgg9
 z9:=sizeOf9
 v9:=zeroValue9
 t21:=underlying21
 a21:=isAgg21
 z21:=sizeOf21
 v21:=zeroValue21
 t31:=underlying248
 a31:=isAgg248
 z31:=sizeOf248
 v31:=zeroValue248
 t40:=underlying279
 a40:=isAgg279
 z40:=sizeOf279
 v40:=zeroValue279
 t46:=underlying283
 a46:=isAgg283
 z46:=sizeOf283
 v46:=zeroValue283
 t49:=underlying296
 a49:=isAgg296
 z49:=sizeOf296
 v49:=zeroValue296
 t51:=underlying287
 a51:=isAgg287
 z51:=sizeOf287
 v51:=zeroValue287
 t119:=underlying277
 a119:=isAgg277
 z119:=sizeOf277
 t141:=underlying289
 a141:=isAgg289
 z141:=sizeOf289
 v141:=zeroValue289
 t152:=underlying284
 a152:=isAgg284
 z152:=sizeOf284
 v152:=zeroValue284
 t154:=underlying286
 a154:=isAgg286
 z154:=sizeOf286
 v154:=zeroValue286
 t193:=underlying292
 a193:=isAgg292
 z193:=sizeOf292
 v193:=zeroValue292
 t194:=underlying293
 a194:=isAgg293
 z194:=sizeOf293
 v194:=zeroValue293
 t196:=underlying295
 a196:=isAgg295
 z196:=sizeOf295
 v196:=zeroValue295
 t198:=underlying298
 a198:=isAgg298
 z198:=sizeOf298
 v198:=zeroValue298
 t201:=underlying301
 a201:=isAgg301
 z201:=sizeOf301
 v201:=zeroValue301
 t226:=underlying303
 a226:=isAgg303
 z226:=sizeOf303
 v226:=zeroValue303
 t227:=underlying304
 a227:=isAgg304
 z227:=sizeOf304
 v227:=zeroValue304
 g0:=by kernel_rfl
 g6:=by kernel_rfl}
open Go.RowKit Go.Lib in
theorem Ee (s:ByteArray) (w:World) (hs:s.size<4294967281) (hascii:∀(j:Nat) b,s.data.toList[j]?=some b→b.toNat<128) (hT:∀c:Nat,c<256→w.cell? ⟨0,c,none⟩=some (.int .u8 (if Lib.isSp (UInt8.ofNat c)then 1 else 0))):
  Calls prog 187 #[.string s] w fun e w'=>e=.returned (.slice (some ⟨w.heap.size,0,none⟩) (Lib.fields s.data.toList).length (Lib.fields s.data.toList).length)∧w'=w.alloc (.cells ((Lib.fields s.data.toList).map fun l=>Value.string ⟨l.toArray⟩).toArray 9):=Any.strings_Fields_core Fo O5 s w hs hascii hT
def yi:Go.Shelf.Ren:=⟨fun|144=>166|143=>184|219=>205|217=>209|225=>210|224=>211|267=>212|266=>214|314=>215|n=>n,fun|9=>9|4=>4|3=>3|5=>5|46=>283|146=>290|51=>287|n=>n,fun|1=>1|n=>n⟩
theorem Fm:Go.Proofs.Lays.n144 prog yi:={
 mixed:=by kernel_rfl
 f143:=func184.trans (congrArg some O5)
 f144:=func166.trans (congrArg some O5)
 f217:=func209.trans (congrArg some O5)
 f219:=func205.trans (congrArg some O5)
 f224:=func211.trans (congrArg some O5)
 f225:=func210.trans (congrArg some O5)
 f266:=func214.trans (congrArg some O5)
 f267:=func212.trans (congrArg some O5)
 f314:=func215.trans (congrArg some O5)
 t3:=underlying3
 a3:=isAgg3
 z3:=sizeOf3
 v3:=zeroValue3
 t4:=underlying4
 a4:=isAgg4
 z4:=sizeOf4
 v4:=zeroValue4
 t5:=underlying5
 a5:=isAgg5
 z5:=sizeOf5
 v5:=zeroValue5
 t9:=underlying9
 a9:=isAgg9
 z9:=sizeOf9
 v9:=zeroValue9
 t46:=underlying283
 a46:=isAgg283
 z46:=sizeOf283
 v46:=zeroValue283
 t51:=underlying287
 a51:=isAgg287
 z51:=sizeOf287
 v51:=zeroValue287
 t146:=underlying290
 a146:=isAgg290
 z146:=sizeOf290
 v146:=zeroValue290
 g1:=by kernel_rfl}
theorem iW (s sub:ByteArray) (m:Int) (w:World) (hs:s.size<4294967281) (hm:w.cell? ⟨1,0,none⟩=some (.int .i64 m)):
  Calls prog 166 #[.string s,.string sub] w fun e w'=>e=.returned (.bool (Lib.contains s.data.toList sub.data.toList))∧w'=w:=Any.strings_Contains Fm s sub m w hs hm
section
variable {P:Program} {md:Region.Mode} {C:World→Prop}
theorem J6 {l:List Oper} {listed:Array Bool}:l.length ∉ Region.ready md l.toArray listed:=by
 intro h
 obtain⟨_,o2,ho2,_⟩:=mem_ready.1 h
 have:=(Array.getElem?_eq_some_iff.1 ho2).1
 simp at this
end
section
variable {G:zh} {Q:Exit→Act→World→Prop} {n:Nat} {E:Env} {w:World}
end
end Go.Proofs.YtdkcljdfbemnbaaGreatDoor
