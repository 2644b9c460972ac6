/- Maps keyed by int: rules for the operations on a map of the call's own, and for ranging over it. -/
import Derived.Test.YtgbgnipidakdhaaGreatDoorJF2
import Derived.Maps.Keyed
import Derived.Maps.RangeRun
import Derived.Shelf.Strings.Fields
import Derived.Shelf.Strings.Search3
import Derived.Test.YtgbgnipidakdhaaGreatDoorProg
import Derived.KernelRfl
namespace Go.Proofs.YtgbgnipidakdhaaGreatDoor
open Go.RowKit
open Go.ChangeMaps (setBlock)
open Go.MapKept (Stamped)
theorem cg.setBlock (w:World) (b:Nat) (o:Obj):cg (fun k=>k=b) w (setBlock w b o):=
 ⟨rfl,rfl,rfl,by simp[ChangeMaps.setBlock],fun k _ hs=>by simp only[ChangeMaps.setBlock];rw[Array.getElem?_setIfInBounds_ne (fun e=>hs e.symm)]⟩
section
variable {n:Nat} {E:Env} {w:World} {t:TypeId} {x y z:Operand}
end
open Go.Shelf
set_option maxRecDepth 100000
def vq:Go.Shelf.Ren:=⟨fun|157=>185|229=>194|199=>195|261=>200|311=>203|312=>204|n=>n,fun|9=>9|31=>224|3=>3|5=>5|4=>4|119=>252|0=>0|40=>254|152=>258|21=>21|154=>260|51=>261|141=>263|196=>269|193=>266|198=>272|49=>270|194=>267|201=>275|226=>277|46=>257|227=>278|n=>n,fun|0=>0|6=>2|n=>n⟩
theorem Cw:Go.Proofs.Lays.n157 Tryz.prog vq:={
 mixed:=by kernel_rfl
 f157:=Tryz.func185.trans (congrArg some L9)
 f199:=Tryz.func195.trans (congrArg some L9)
 f229:=Tryz.func194.trans (congrArg some L9)
 f261:=Tryz.func200.trans (congrArg some L9)
 f311:=Tryz.func203.trans (congrArg some L9)
 f312:=Tryz.func204.trans (congrArg some L9)
 t0:=Tryz.underlying0
 a0:=Tryz.isAgg0
 z0:=Tryz.sizeOf0
 v0:=Tryz.zeroValue0
 t3:=Tryz.underlying3
 a3:=Tryz.isAgg3
 z3:=Tryz.sizeOf3
 v3:=Tryz.zeroValue3
 t4:=Tryz.underlying4
 a4:=Tryz.isAgg4
 z4:=Tryz.sizeOf4
 v4:=Tryz.zeroValue4
 t5:=Tryz.underlying5
 a5:=Tryz.isAgg5
 z5:=Tryz.sizeOf5
 v5:=Tryz.zeroValue5
 t9:=Tryz.underlying9
 a9:=Tryz.isAgg9
 z9:=Tryz.sizeOf9
 v9:=Tryz.zeroValue9
 t21:=Tryz.underlying21
 a21:=Tryz.isAgg21
 z21:=Tryz.sizeOf21
 v21:=Tryz.zeroValue21
 t31:=Tryz.underlying224
 a31:=Tryz.isAgg224
 z31:=Tryz.sizeOf224
 v31:=Tryz.zeroValue224
 t40:=Tryz.underlying254
 a40:=Tryz.isAgg254
 z40:=Tryz.sizeOf254
 v40:=Tryz.zeroValue254
 t46:=Tryz.underlying257
 a46:=Tryz.isAgg257
 z46:=Tryz.sizeOf257
 v46:=Tryz.zeroValue257
 t49:=Tryz.underlying270
 a49:=Tryz.isAgg270
 z49:=Tryz.sizeOf270
 v49:=Tryz.zeroValue270
 t51:=Tryz.underlying261
 a51:=Tryz.isAgg261
 z51:=Tryz.sizeOf261
 v51:=Tryz.zeroValue261
 t119:=Tryz.underlying252
 a119:=Tryz.isAgg252
 z119:=Tryz.sizeOf252
 t141:=Tryz.underlying263
 a141:=Tryz.isAgg263
 z141:=Tryz.sizeOf263
 v141:=Tryz.zeroValue263
 t152:=Tryz.underlying258
 a152:=Tryz.isAgg258
 z152:=Tryz.sizeOf258
 v152:=Tryz.zeroValue258
 t154:=Tryz.underlying260
 a154:=Tryz.isAgg260
 z154:=Tryz.sizeOf260
 v154:=Tryz.zeroValue260
 t193:=Tryz.underlying266
 a193:=Tryz.isAgg266
 z193:=Tryz.sizeOf266
 v193:=Tryz.zeroValue266
 t194:=Tryz.underlying267
 a194:=Tryz.isAgg267
 z194:=Tryz.sizeOf267
 v194:=Tryz.zeroValue267
 t196:=Tryz.underlying269
 a196:=Tryz.isAgg269
 z196:=Tryz.sizeOf269
 v196:=Tryz.zeroValue269
 t198:=Tryz.underlying272
 a198:=Tryz.isAgg272
 z198:=Tryz.sizeOf272
 v198:=Tryz.zeroValue272
 t201:=Tryz.underlying275
 a201:=Tryz.isAgg275
 z201:=Tryz.sizeOf275
 v201:=Tryz.zeroValue275
 t226:=Tryz.underlying277
 a226:=Tryz.isAgg277
 z226:=Tryz.sizeOf277
 v226:=Tryz.zeroValue277
 t227:=Tryz.underlying278
 a227:=Tryz.isAgg278
 z227:=Tryz.sizeOf278
 v227:=Tryz.zeroValue278
 g0:=by kernel_rfl
 g6:=by kernel_rfl}
open Go.RowKit Go.Lib in
theorem AE (s:ByteArray) (w:World) (hs:s.size<4294967281) (hascii:∀(j:Nat) b,s.data.toList[j]?=some b→b.toNat<128) (hT:∀c:Nat,c<256→w.cell? ⟨0,c,none⟩=some (.int .u8 (if Lib.isSp (UInt8.ofNat c)then 1 else 0))):
  Calls Tryz.prog 185 #[.string s] w fun e w'=>e=.returned (.slice (some ⟨w.heap.size,0,none⟩) (Lib.fields s.data.toList).length (Lib.fields s.data.toList).length)∧w'=w.alloc (.cells ((Lib.fields s.data.toList).map fun l=>Value.string ⟨l.toArray⟩).toArray 9):=Any.strings_Fields_core Cw L9 s w hs hascii hT
def wh:Go.Shelf.Ren:=⟨fun|144=>160|143=>182|219=>193|217=>196|225=>197|224=>198|267=>199|266=>201|314=>202|n=>n,fun|9=>9|4=>4|3=>3|5=>5|46=>257|146=>264|51=>261|n=>n,fun|1=>1|n=>n⟩
theorem BX:Go.Proofs.Lays.n144 Tryz.prog wh:={
 mixed:=by kernel_rfl
 f143:=Tryz.func182.trans (congrArg some L9)
 f144:=Tryz.func160.trans (congrArg some L9)
 f217:=Tryz.func196.trans (congrArg some L9)
 f219:=Tryz.func193.trans (congrArg some L9)
 f224:=Tryz.func198.trans (congrArg some L9)
 f225:=Tryz.func197.trans (congrArg some L9)
 f266:=Tryz.func201.trans (congrArg some L9)
 f267:=Tryz.func199.trans (congrArg some L9)
 f314:=Tryz.func202.trans (congrArg some L9)
 t3:=Tryz.underlying3
 a3:=Tryz.isAgg3
 z3:=Tryz.sizeOf3
 v3:=Tryz.zeroValue3
 t4:=Tryz.underlying4
 a4:=Tryz.isAgg4
 z4:=Tryz.sizeOf4
 v4:=Tryz.zeroValue4
 t5:=Tryz.underlying5
 a5:=Tryz.isAgg5
 z5:=Tryz.sizeOf5
 v5:=Tryz.zeroValue5
 t9:=Tryz.underlying9
 a9:=Tryz.isAgg9
 z9:=Tryz.sizeOf9
 v9:=Tryz.zeroValue9
 t46:=Tryz.underlying257
 a46:=Tryz.isAgg257
 z46:=Tryz.sizeOf257
 v46:=Tryz.zeroValue257
 t51:=Tryz.underlying261
 a51:=Tryz.isAgg261
 z51:=Tryz.sizeOf261
 v51:=Tryz.zeroValue261
 t146:=Tryz.underlying264
 a146:=Tryz.isAgg264
 z146:=Tryz.sizeOf264
 v146:=Tryz.zeroValue264
 g1:=by kernel_rfl}
theorem ie (s sub:ByteArray) (m:Int) (w:World) (hs:s.size<4294967281) (hm:w.cell? ⟨1,0,none⟩=some (.int .i64 m)):
  Calls Tryz.prog 160 #[.string s,.string sub] w fun e w'=>e=.returned (.bool (Lib.contains s.data.toList sub.data.toList))∧w'=w:=Any.strings_Contains BX s sub m w hs hm
end Go.Proofs.YtgbgnipidakdhaaGreatDoor
