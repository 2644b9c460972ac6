/- Chapter 23's rows: what the list of laid variables gives; the arguments read. -/
import Derived.Test.YtceedealggognaaGreatDoorJWg
import Derived.Test.YtceedealggognaaGreatDoorJNb
import Derived.Test.YtceedealggognaaGreatDoorCards
import Derived.Test.YtceedealggognaaGreatDoorTie
import Derived.Deep.DeepHandedRow
import Derived.Deep.DeepWitnessRowRef
import Derived.Lib.LaidTab
import Derived.Lib.Space
import Derived.Lib.SpaceR
import Derived.Shelf.Vars
namespace Go.Proofs.YtceedealggognaaGreatDoor
open Go.ChangeShapes Go.WideShapes Go.ChangeAt Go.RowKit
set_option maxRecDepth 100000
theorem sH {P:Program} {W:World} {name n0:String} {d0:DataW Unit} {k:IntKind} {zs:List Int} {rest:List (String×DataW Unit)} {g:Nat} {t e:TypeId} {n:Nat}
  (hg:P.globalNamed name=some g) (hty:(P.globals[g]?).map (·.type)=some t) (ht:P.underlying t=some (.array n e)) (he:P.underlying e=some (.int k)) (hce:P.cellsOf e=1) (hct:P.cellsOf t=n)
  (h:laidMet P ((n0,d0)::(name,Lib.tabData k zs)::rest) W):Lib.TabIs P W name k zs:=by
 obtain⟨ps,⟨_,_,_,_,_,_,_,_,_,_,⟨g',t',cs,fuel,p,q,hg',ht',hvar,hd,_,_⟩,_⟩,_⟩:=h
 obtain rfl:=Option.some.inj (hg.symm.trans hg')
 obtain rfl:=Option.some.inj (hty.symm.trans ht')
 unfold Lib.TabIs
 rw[hvar,←Lib.cells_of_tab ht he hce hct hd]
theorem yI:(Rows.laid_strings_asciiSpace:DataW Unit)=Lib.tabData .u8 Lib.asciiSpaceTab:=by kernel_rfl
def CK:List (String×DataW Unit):=[("unicode.White_Space",Rows.laid_unicode_White_Space),("strings.asciiSpace",Rows.laid_strings_asciiSpace)]
theorem CD:Tryz.prog.globalNamed "strings.asciiSpace" =some 0:=by kernel_rfl
theorem Aa {W:World} (hL:laidMetH Tryz.prog CK W) (hsh:W.ShapedOpen Tryz.prog):dQ W:=by
 have hL':laidMet Tryz.prog [("unicode.White_Space",Rows.laid_unicode_White_Space),("strings.asciiSpace",Lib.tabData .u8 Lib.asciiSpaceTab)] W:=by
  have:laidMet Tryz.prog [("unicode.White_Space",Rows.laid_unicode_White_Space),("strings.asciiSpace",Rows.laid_strings_asciiSpace)] W:=hL
  rwa[yI]at this
 have ht:=sH (t:=280) (e:=5) (n:=256) CD G7 G7 Tryz.underlying5 G7 G7 hL'
 refine⟨fun c hc=>?_,cell_of_shapedOpen_int (zero:=#[.int .i64 0]) (t:=3) hsh (of_decide_eq_true G7) G7 rfl G7 G7 Tryz.underlying3⟩
 have:=ht.cell CD c (by unfold Lib.asciiSpaceTab;simp;exact hc)
 rw[this]
 unfold Lib.asciiSpaceTab
 simp[List.getD_eq_getElem?_getD,hc]
section
variable {H:Type} {enc:TypeId×Value→H} {w:World} {t e:TypeId} {v:Value} {d:DataW H} {ps:List MemPlace}
end
theorem BK {w:World} {cs:List Value} (hcl:cs.length=9) (h:Tr w 63 cs):∃(x:bP) (pt pl:Option Addr) (ct cl:Nat),cs=[.int .i64 x.op,.int .i64 x.a,.int .i64 x.b,.int .u64 x.n,.int .i64 x.kind,.int .i64 x.val,.int .i64 x.index,.slice pt x.types.length ct,.slice pl x.labels.length cl]∧Bj w x (.slice pt x.types.length ct) (.slice pl x.labels.length cl):=by
 obtain⟨c0,c1,c2,c3,c4,c5,c6,c7,c8,rfl⟩:=BP hcl
 obtain⟨-,hf⟩:=h.struct Tryz.underlying63
 obtain⟨n0,e0,w0⟩:=(show Tr w _ [c0]from Tr.ew hf 0 0 1 rfl G7).int Tryz.underlying56
 obtain⟨n1,e1,w1⟩:=(show Tr w _ [c1]from Tr.ew hf 1 1 1 rfl G7).int Tryz.underlying3
 obtain⟨n2,e2,w2⟩:=(show Tr w _ [c2]from Tr.ew hf 2 2 1 rfl G7).int Tryz.underlying3
 obtain⟨n3,e3,w3⟩:=(show Tr w _ [c3]from Tr.ew hf 3 3 1 rfl G7).int Tryz.underlying57
 obtain⟨-,hg⟩:=(show Tr w _ [c4,c5,c6]from Tr.ew hf 4 4 3 rfl G7).struct Tryz.underlying60
 obtain⟨n4,e4,w4⟩:=(show Tr w _ [c4]from Tr.ew hg 0 0 1 rfl G7).int Tryz.underlying3
 obtain⟨n5,e5,w5⟩:=(show Tr w _ [c5]from Tr.ew hg 1 1 1 rfl G7).int Tryz.underlying58
 obtain⟨n6,e6,w6⟩:=(show Tr w _ [c6]from Tr.ew hg 2 2 1 rfl G7).int Tryz.underlying3
 obtain⟨v7,x7,e7,r7⟩:=(show Tr w _ [c7]from Tr.ew hf 5 7 1 rfl G7).ints Tryz.underlying49 Tryz.underlying58 G7 G7
 obtain⟨v8,x8,e8,r8⟩:=(show Tr w _ [c8]from Tr.ew hf 6 8 1 rfl G7).ints Tryz.underlying61 Tryz.underlying3 G7 G7
 cases e0;cases e1;cases e2;cases e3;cases e4;cases e5;cases e6;cases e7;cases e8
 obtain⟨p7,k7,rfl,z7⟩:=r7.slice
 obtain⟨p8,k8,rfl,z8⟩:=r8.slice
 exact⟨⟨n0,n1,n2,n3,n4,n5,n6,x7,x8⟩,p7,p8,k7,k8,rfl,r7,r8,qb w0,qb w1⟩
end Go.Proofs.YtceedealggognaaGreatDoor
