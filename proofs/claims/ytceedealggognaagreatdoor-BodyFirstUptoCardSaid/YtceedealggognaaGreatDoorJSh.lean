/- Contracts off the shelf, laid by the kit's tools over this seat's dump. Printed by gen_sh.py. -/
import Derived.Shelf.Strings.Fields
import Derived.Shelf.Strings.Search3
import Derived.Test.YtceedealggognaaGreatDoorProg
import Derived.KernelRfl
namespace Go.Proofs.YtceedealggognaaGreatDoor
open Go.Shelf
set_option maxRecDepth 100000
def rW:Go.Shelf.Ren:=⟨fun|157=>190|229=>209|199=>210|261=>216|311=>219|312=>220|n=>n,fun|9=>9|31=>251|3=>3|5=>5|4=>4|119=>280|0=>0|40=>282|152=>287|21=>21|154=>289|51=>290|141=>292|196=>298|193=>295|198=>301|49=>299|194=>296|201=>304|226=>306|46=>286|227=>307|n=>n,fun|0=>0|6=>2|n=>n⟩
theorem yK:Go.Proofs.Lays.n157 Tryz.prog rW:={
 mixed:=by kernel_rfl
 f157:=Tryz.func190.trans (congrArg some (by kernel_rfl))
 f199:=Tryz.func210.trans (congrArg some (by kernel_rfl))
 f229:=Tryz.func209.trans (congrArg some (by kernel_rfl))
 f261:=Tryz.func216.trans (congrArg some (by kernel_rfl))
 f311:=Tryz.func219.trans (congrArg some (by kernel_rfl))
 f312:=Tryz.func220.trans (congrArg some (by kernel_rfl))
 t0:=Tryz.underlying0
 a0:=Tryz.isAgg0
 z0:=Tryz.sizeOf0
 v0:=Tryz.zeroValue0
 t3:=Tryz.underlying3
 a3:=Tryz.isAgg3
 z3:=Tryz.sizeOf3
 v3:=Tryz.zeroValue3
 t4:=Tryz.underlying4
 a4:=Tryz.isAgg4
 z4:=Tryz.sizeOf4
 v4:=Tryz.zeroValue4
 t5:=Tryz.underlying5
 a5:=Tryz.isAgg5
 z5:=Tryz.sizeOf5
 v5:=Tryz.zeroValue5
 t9:=Tryz.underlying9
 a9:=Tryz.isAgg9
 z9:=Tryz.sizeOf9
 v9:=Tryz.zeroValue9
 t21:=Tryz.underlying21
 a21:=Tryz.isAgg21
 z21:=Tryz.sizeOf21
 v21:=Tryz.zeroValue21
 t31:=Tryz.underlying251
 a31:=Tryz.isAgg251
 z31:=Tryz.sizeOf251
 v31:=Tryz.zeroValue251
 t40:=Tryz.underlying282
 a40:=Tryz.isAgg282
 z40:=Tryz.sizeOf282
 v40:=Tryz.zeroValue282
 t46:=Tryz.underlying286
 a46:=Tryz.isAgg286
 z46:=Tryz.sizeOf286
 v46:=Tryz.zeroValue286
 t49:=Tryz.underlying299
 a49:=Tryz.isAgg299
 z49:=Tryz.sizeOf299
 v49:=Tryz.zeroValue299
 t51:=Tryz.underlying290
 a51:=Tryz.isAgg290
 z51:=Tryz.sizeOf290
 v51:=Tryz.zeroValue290
 t119:=Tryz.underlying280
 a119:=Tryz.isAgg280
 z119:=Tryz.sizeOf280
 t141:=Tryz.underlying292
 a141:=Tryz.isAgg292
 z141:=Tryz.sizeOf292
 v141:=Tryz.zeroValue292
 t152:=Tryz.underlying287
 a152:=Tryz.isAgg287
 z152:=Tryz.sizeOf287
 v152:=Tryz.zeroValue287
 t154:=Tryz.underlying289
 a154:=Tryz.isAgg289
 z154:=Tryz.sizeOf289
 v154:=Tryz.zeroValue289
 t193:=Tryz.underlying295
 a193:=Tryz.isAgg295
 z193:=Tryz.sizeOf295
 v193:=Tryz.zeroValue295
 t194:=Tryz.underlying296
 a194:=Tryz.isAgg296
 z194:=Tryz.sizeOf296
 v194:=Tryz.zeroValue296
 t196:=Tryz.underlying298
 a196:=Tryz.isAgg298
 z196:=Tryz.sizeOf298
 v196:=Tryz.zeroValue298
 t198:=Tryz.underlying301
 a198:=Tryz.isAgg301
 z198:=Tryz.sizeOf301
 v198:=Tryz.zeroValue301
 t201:=Tryz.underlying304
 a201:=Tryz.isAgg304
 z201:=Tryz.sizeOf304
 v201:=Tryz.zeroValue304
 t226:=Tryz.underlying306
 a226:=Tryz.isAgg306
 z226:=Tryz.sizeOf306
 v226:=Tryz.zeroValue306
 t227:=Tryz.underlying307
 a227:=Tryz.isAgg307
 z227:=Tryz.sizeOf307
 v227:=Tryz.zeroValue307
 g0:=by kernel_rfl
 g6:=by kernel_rfl}
open Go.RowKit Go.Lib in
theorem xD (s:ByteArray) (w:World) (hs:s.size<4294967281) (hascii:∀(j:Nat) b,s.data.toList[j]?=some b→b.toNat<128) (hT:∀c:Nat,c<256→w.cell? ⟨0,c,none⟩=some (.int .u8 (if Lib.isSp (UInt8.ofNat c)then 1 else 0))):
  Calls Tryz.prog 190 #[.string s] w fun e w'=>e=.returned (.slice (some ⟨w.heap.size,0,none⟩) (Lib.fields s.data.toList).length (Lib.fields s.data.toList).length)∧w'=w.alloc (.cells ((Lib.fields s.data.toList).map fun l=>Value.string ⟨l.toArray⟩).toArray 9):=Any.strings_Fields_core yK (by kernel_rfl) s w hs hascii hT
def rV:Go.Shelf.Ren:=⟨fun|144=>169|143=>187|219=>208|217=>212|225=>213|224=>214|267=>215|266=>217|314=>218|n=>n,fun|9=>9|4=>4|3=>3|5=>5|46=>286|146=>293|51=>290|n=>n,fun|1=>1|n=>n⟩
theorem yJ:Go.Proofs.Lays.n144 Tryz.prog rV:={
 mixed:=by kernel_rfl
 f143:=Tryz.func187.trans (congrArg some (by kernel_rfl))
 f144:=Tryz.func169.trans (congrArg some (by kernel_rfl))
 f217:=Tryz.func212.trans (congrArg some (by kernel_rfl))
 f219:=Tryz.func208.trans (congrArg some (by kernel_rfl))
 f224:=Tryz.func214.trans (congrArg some (by kernel_rfl))
 f225:=Tryz.func213.trans (congrArg some (by kernel_rfl))
 f266:=Tryz.func217.trans (congrArg some (by kernel_rfl))
 f267:=Tryz.func215.trans (congrArg some (by kernel_rfl))
 f314:=Tryz.func218.trans (congrArg some (by kernel_rfl))
 t3:=Tryz.underlying3
 a3:=Tryz.isAgg3
 z3:=Tryz.sizeOf3
 v3:=Tryz.zeroValue3
 t4:=Tryz.underlying4
 a4:=Tryz.isAgg4
 z4:=Tryz.sizeOf4
 v4:=Tryz.zeroValue4
 t5:=Tryz.underlying5
 a5:=Tryz.isAgg5
 z5:=Tryz.sizeOf5
 v5:=Tryz.zeroValue5
 t9:=Tryz.underlying9
 a9:=Tryz.isAgg9
 z9:=Tryz.sizeOf9
 v9:=Tryz.zeroValue9
 t46:=Tryz.underlying286
 a46:=Tryz.isAgg286
 z46:=Tryz.sizeOf286
 v46:=Tryz.zeroValue286
 t51:=Tryz.underlying290
 a51:=Tryz.isAgg290
 z51:=Tryz.sizeOf290
 v51:=Tryz.zeroValue290
 t146:=Tryz.underlying293
 a146:=Tryz.isAgg293
 z146:=Tryz.sizeOf293
 v146:=Tryz.zeroValue293
 g1:=by kernel_rfl}
theorem fw (s sub:ByteArray) (m:Int) (w:World) (hs:s.size<4294967281) (hm:w.cell? ⟨1,0,none⟩=some (.int .i64 m)):
  Calls Tryz.prog 169 #[.string s,.string sub] w fun e w'=>e=.returned (.bool (Lib.contains s.data.toList sub.data.toList))∧w'=w:=Any.strings_Contains yJ s sub m w hs hm
end Go.Proofs.YtceedealggognaaGreatDoor
