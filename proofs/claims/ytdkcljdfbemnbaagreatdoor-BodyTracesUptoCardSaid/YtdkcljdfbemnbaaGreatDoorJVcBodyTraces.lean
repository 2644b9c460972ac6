import Derived.Test.YtdkcljdfbemnbaaGreatDoorJAa
import Derived.Test.YtdkcljdfbemnbaaGreatDoorCards
import Derived.Test.YtdkcljdfbemnbaaGreatDoorTie
import Derived.Deep.DeepHandedRow
import Derived.Deep.DeepWitnessRowRef
import Derived.Lib.LaidTab
import Derived.Lib.Space
import Derived.Lib.SpaceR
import Derived.Shelf.Vars
namespace Go.Proofs.YtdkcljdfbemnbaaGreatDoor
open Go.ChangeShapes Go.WideShapes Go.ChangeAt Go.RowKit _root_.Go.Proofs.Tryz
set_option maxHeartbeats 4000000
open Value renaming int→Pm,slice→Pn
set_option maxRecDepth 100000
theorem yX {P:Program} {W:World} {name n0:String} {d0:DataW Unit} {k:IntKind} {zs:List Int} {rest:List (String×DataW Unit)} {g:Nat} {t e:TypeId} {n:Nat}
  (hg:P.globalNamed name=some g) (hty:(P.globals[g]?).map (·.type)=some t) (ht:P.underlying t=some (.array n e)) (he:P.underlying e=some (.int k)) (hce:P.cellsOf e=1) (hct:P.cellsOf t=n)
  (h:laidMet P ((n0,d0)::(name,Lib.tabData k zs)::rest) W):Lib.TabIs P W name k zs:=by
 obtain⟨ps,⟨_,_,_,_,_,_,_,_,_,_,⟨g',t',cs,fuel,p,q,hg',ht',hvar,hd,_,_⟩,_⟩,_⟩:=h
 obtain rfl:=Option.some.inj (hg.symm.trans hg')
 obtain rfl:=Option.some.inj (hty.symm.trans ht')
 unfold Lib.TabIs
 rw[hvar,←Lib.cells_of_tab ht he hce hct hd]
theorem Fp:(Rows.laid_strings_asciiSpace:DataW Unit)=Lib.tabData .u8 Lib.asciiSpaceTab:=by kernel_rfl
def Jb:List (String×DataW Unit):=[("unicode.White_Space",Rows.laid_unicode_White_Space),("strings.asciiSpace",Rows.laid_strings_asciiSpace)]
theorem I5:prog.globalNamed "strings.asciiSpace" =some 0:=by kernel_rfl
theorem GJ {W:World} (hL:laidMetH prog Jb W) (hsh:W.ShapedOpen prog):fK W:=by
 have hL':laidMet prog [("unicode.White_Space",Rows.laid_unicode_White_Space),("strings.asciiSpace",Lib.tabData .u8 Lib.asciiSpaceTab)] W:=by
  have:laidMet prog [("unicode.White_Space",Rows.laid_unicode_White_Space),("strings.asciiSpace",Rows.laid_strings_asciiSpace)] W:=hL
  rwa[Fp]at this
 have ht:=yX (t:=277) (e:=5) (n:=256) I5 Pb Pb underlying5 Pb Pb hL'
 refine⟨fun c hc=>?_,cell_of_shapedOpen_int (zero:=#[.int .i64 0]) (t:=3) hsh (of_decide_eq_true Pb) Pb rfl Pb Pb underlying3⟩
 have:=ht.cell I5 c (by unfold Lib.asciiSpaceTab;simp;exact hc)
 rw[this]
 unfold Lib.asciiSpaceTab
 simp[List.getD_eq_getElem?_getD,hc]
open Go.RowKit
theorem vh (B:Nat) (F:Nat→Prop) (cp:Nat) (c:dv) (v:jF) (m:af) (locals:List Int) (sv:Value) (x:cv) (lp pt pl:Option Addr) (lc ct cl:Nat) (w:World) (hw:Ok (aT cp c v) (qm B F m sv locals (.slice lp locals.length lc) x (.slice pt x.types.length ct) (.slice pl x.labels.length cl)) w) (hg:v.Good c) (hwf:c.Wf) (hb:c.broken=0) (hp:cW x=true) (_hop:x.op=0):Calls G.P 32 #[.pointer (some ⟨cp,0,none⟩),sv,.slice lp locals.length lc,.agg #[Pm .i64 x.op,Pm .i64 x.a,Pm .i64 x.b,Pm .u64 x.n,Pm .i64 x.kind,Pm .i64 x.val,Pm .i64 x.index,Pn pt x.types.length ct,Pn pl x.labels.length cl]] w (aK (aT cp c v) cp (iG c,0) w):=by
 refine ae (l:=[_,_,_,_]) func32 rfl ntmps32 rfl (Ok.dk hw) ?_
 generalize hS:Mb (aT cp c v)=S0
 unfold qm
 obtain⟨sp,tv,pv,bv,rv,fv,D,L⟩:=v
 dsimp only[aT,aX,List.cons_append,List.nil_append]
 have hno:=fun w' M (hw':Ok M _ w')=>lW (B:=B) (F:=F) (m:=m) (locals:=locals) (sv:=sv) (lv:=.slice lp locals.length lc) (x:=x) (pt:=pt) (pl:=pl) (ct:=ct) (cl:=cl) hw'
 rw[hp]at hno
 repeat'(first|refine ar ?_|(refine aF fun b_=>?_)|refine OC ?_|refine Oc ?_|refine Ob ?_|fail)
 refine aa.he (HE.bJ (M0:=aT cp c ⟨sp,tv,pv,bv,rv,fv,D,L⟩) dU rfl rfl (fun w' hw'=>oU cp c ⟨sp,tv,pv,bv,rv,fv,D,L⟩ w' (hw'.dc dV (fun p hp=>absurd hp Pj)) hg hb hwf)) rfl ?_
 rintro⟨sp2,tv2,pv2,bv2,rv2,fv2,D2,L2⟩ hg2
 dsimp only[aT,aX,List.cons_append,List.nil_append]at hg2 ⊢
 repeat'(first|refine ar ?_|fail)
 exact ah.aG rfl rfl fun w' hw'=>aK.ok (r:=(iG c,0)) (⟨sp2,tv2,pv2,bv2,rv2,fv2,D2,L2⟩:jF) rfl hg2 hS hw' ON ak
theorem vL:(Rows.bodyTracesUptoRow.inPlace==Tryz.pinned.checked.prog.inPlace 4)=true:=by kernel_rfl
theorem vM:(Rows.bodyTracesUptoRow.unfollowed==Tryz.pinned.checked.prog.unfollowed 4)=true:=by kernel_rfl
theorem vN:(Rows.bodyTracesUptoRow.recurses==Tryz.pinned.checked.prog.recurses 4)=true:=by kernel_rfl
theorem vO:(Rows.bodyTracesUptoRow.named==Tryz.pinned.checked.prog.varsNamed 4)=true:=by kernel_rfl
theorem qD:joinedFacts Tryz.pinned.checked.prog 4 f4 (Rows.OpenSpec.upto Rows.bodyTracesSpec).bare Rows.bodyTracesUptoRow=true:=by
 unfold joinedFacts
 rw[vL,vM,vN,vO]
 kernel_rfl
theorem sB:(f4).isInstance Tryz.pinned.checked.prog Rows.bodyTracesUptoRow.origin Rows.bodyTracesUptoRow.targs:=of_decide_eq_true Pb
theorem sC:(f4).isWrapper Tryz.pinned.checked.prog Rows.bodyTracesUptoRow.wrapper Rows.bodyTracesUptoRow.mainSum:=by
 unfold Func.isWrapper;first|(rw[if_pos O9];kernel_rfl)|(rw[if_neg O9];exact⟨rfl,rfl⟩)
theorem rn (f:FuncId) (fn:Func) (hf:Tryz.pinned.checked.prog.funcNamed "millwright/millwrightlaw24.BodyTraces" =some f) (hfn:Tryz.pinned.checked.prog.funcs[f]?=some fn):
  false=Tryz.pinned.checked.prog.looks []∧∀(j:Nat) t,fn.params[j]?=some t→Tryz.pinned.checked.prog.wantsStandIn t=false:=by
 obtain rfl:f=4:=Option.some.inj ((show prog.funcNamed "millwright/millwrightlaw24.BodyTraces" =some 4 by kernel_rfl).symm.trans hf) |>.symm
 obtain rfl:fn=f4:=(Option.some.inj (func4.symm.trans hfn)).symm
 refine⟨by kernel_rfl,fun j t ht=>?_⟩
 rw[params4]at ht
 rcases(show t=33∨t=3 by simpa using Array.mem_of_getElem? ht)with rfl|rfl
 ·exact(show prog.wantsStandIn 33=false by kernel_rfl)
 ·exact(show prog.wantsStandIn 3=false by kernel_rfl)
end Go.Proofs.YtdkcljdfbemnbaaGreatDoor
