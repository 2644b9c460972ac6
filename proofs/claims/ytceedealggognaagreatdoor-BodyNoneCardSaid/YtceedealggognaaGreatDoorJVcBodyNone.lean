/- Chapter 23's rows: what the list of laid variables gives; the arguments read. -/
import Derived.Test.YtceedealggognaaGreatDoorJN3
import Derived.Test.YtceedealggognaaGreatDoorJAr
import Derived.Test.YtceedealggognaaGreatDoorCards
import Derived.Test.YtceedealggognaaGreatDoorTie
import Derived.Deep.DeepHandedRow
import Derived.Deep.DeepWitnessRowRef
import Derived.Lib.LaidTab
import Derived.Lib.Space
import Derived.Lib.SpaceR
import Derived.Shelf.Vars
import Derived.Test.YtceedealggognaaGreatDoorJUq
import Derived.Test.YtceedealggognaaGreatDoorJLv
namespace Go.Proofs.YtceedealggognaaGreatDoor
open Go.ChangeShapes Go.WideShapes Go.ChangeAt Go.RowKit
set_option maxRecDepth 100000
theorem rF {P:Program} {W:World} {name n0:String} {d0:DataW Unit} {k:IntKind} {zs:List Int} {rest:List (String×DataW Unit)} {g:Nat} {t e:TypeId} {n:Nat}
  (hg:P.globalNamed name=some g) (hty:(P.globals[g]?).map (·.type)=some t) (ht:P.underlying t=some (.array n e)) (he:P.underlying e=some (.int k)) (hce:P.cellsOf e=1) (hct:P.cellsOf t=n)
  (h:laidMet P ((n0,d0)::(name,Lib.tabData k zs)::rest) W):Lib.TabIs P W name k zs:=by
 obtain⟨ps,⟨_,_,_,_,_,_,_,_,_,_,⟨g',t',cs,fuel,p,q,hg',ht',hvar,hd,_,_⟩,_⟩,_⟩:=h
 obtain rfl:=Option.some.inj (hg.symm.trans hg')
 obtain rfl:=Option.some.inj (hty.symm.trans ht')
 unfold Lib.TabIs
 rw[hvar,←Lib.cells_of_tab ht he hce hct hd]
theorem xG:(Rows.laid_strings_asciiSpace:DataW Unit)=Lib.tabData .u8 Lib.asciiSpaceTab:=by kernel_rfl
def Bu:List (String×DataW Unit):=[("unicode.White_Space",Rows.laid_unicode_White_Space),("strings.asciiSpace",Rows.laid_strings_asciiSpace)]
theorem Bo:Tryz.prog.globalNamed "strings.asciiSpace" =some 0:=by kernel_rfl
theorem yN {W:World} (hL:laidMetH Tryz.prog Bu W) (hsh:W.ShapedOpen Tryz.prog):dG W:=by
 have hL':laidMet Tryz.prog [("unicode.White_Space",Rows.laid_unicode_White_Space),("strings.asciiSpace",Lib.tabData .u8 Lib.asciiSpaceTab)] W:=by
  have:laidMet Tryz.prog [("unicode.White_Space",Rows.laid_unicode_White_Space),("strings.asciiSpace",Rows.laid_strings_asciiSpace)] W:=hL
  rwa[xG]at this
 have ht:=rF (t:=280) (e:=5) (n:=256) Bo FT FT Tryz.underlying5 FT FT hL'
 refine⟨fun c hc=>?_,cell_of_shapedOpen_int (zero:=#[.int .i64 0]) (t:=3) hsh (of_decide_eq_true FT) FT rfl FT FT Tryz.underlying3⟩
 have:=ht.cell Bo c (by unfold Lib.asciiSpaceTab;simp;exact hc)
 rw[this]
 unfold Lib.asciiSpaceTab
 simp[List.getD_eq_getElem?_getD,hc]
section
variable {H:Type} {enc:TypeId×Value→H} {w:World} {t e:TypeId} {v:Value} {d:DataW H} {ps:List MemPlace}
end
open Go.RowKit
def cU.Fit (s:cU):Prop:=s.ts.length≤s.lS
theorem jv (s:cU) (l:List Int):(fO s l).Fit:=by
 show(s.ts++l).length≤max s.lS (s.ts.length+l.length)
 rw[List.length_append];exact Nat.le_max_right ..
theorem jz {s:cU} (h:s.Fit) (l:List Int):(aO s l).1.Fit:=by
 have h1:=dn s l
 have h2:(aO s l).1.lS=s.lS:=by unfold aO;dsimp only;split<;>rfl
 unfold cU.Fit at*;omega
theorem oF {s:cU} (h:s.Fit):(aZ s).1.Fit:=by
 have h1:=jO s
 have h2:=wj s
 unfold cU.Fit at*;omega
theorem sa:(Rows.bodyNoneRow.inPlace==Tryz.pinned.checked.prog.inPlace 6)=true:=by kernel_rfl
theorem sc:(Rows.bodyNoneRow.unfollowed==Tryz.pinned.checked.prog.unfollowed 6)=true:=by kernel_rfl
theorem sd:(Rows.bodyNoneRow.recurses==Tryz.pinned.checked.prog.recurses 6)=true:=by kernel_rfl
theorem se:(Rows.bodyNoneRow.named==Tryz.pinned.checked.prog.varsNamed 6)=true:=by kernel_rfl
theorem m9:joinedFacts Tryz.pinned.checked.prog 6 Tryz.f6 (OpenSpec.ofChange Rows.bodyNoneSpec).bare Rows.bodyNoneRow=true:=by
 unfold joinedFacts
 rw[sa,sc,sd,se]
 kernel_rfl
theorem pk:(Tryz.f6).isInstance Tryz.pinned.checked.prog Rows.bodyNoneRow.origin Rows.bodyNoneRow.targs:=of_decide_eq_true FT
theorem pn:(Tryz.f6).isWrapper Tryz.pinned.checked.prog Rows.bodyNoneRow.wrapper Rows.bodyNoneRow.mainSum:=by
 unfold Func.isWrapper;first|(rw[if_pos FR];kernel_rfl)|(rw[if_neg FR];exact⟨rfl,rfl⟩)
theorem nP (f:FuncId) (fn:Func) (hf:Tryz.pinned.checked.prog.funcNamed "millwright/millwrightlaw24.BodyNone" =some f) (hfn:Tryz.pinned.checked.prog.funcs[f]?=some fn):
  false=Tryz.pinned.checked.prog.looks []∧∀(j:Nat) t,fn.params[j]?=some t→Tryz.pinned.checked.prog.wantsStandIn t=false:=by
 obtain rfl:f=6:=Option.some.inj ((show Tryz.prog.funcNamed "millwright/millwrightlaw24.BodyNone" =some 6 by kernel_rfl).symm.trans hf) |>.symm
 obtain rfl:fn=Tryz.f6:=(Option.some.inj (Tryz.func6.symm.trans hfn)).symm
 refine⟨by kernel_rfl,fun j t ht=>?_⟩
 rw[Tryz.params6]at ht
 rcases(show t=33∨t=3 by simpa using Array.mem_of_getElem? ht)with rfl|rfl
 ·exact(show Tryz.prog.wantsStandIn 33=false by kernel_rfl)
 ·exact(show Tryz.prog.wantsStandIn 3=false by kernel_rfl)
end Go.Proofs.YtceedealggognaaGreatDoor
