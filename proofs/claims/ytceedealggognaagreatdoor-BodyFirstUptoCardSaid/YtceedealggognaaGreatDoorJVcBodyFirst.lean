/- BodyFirst: the row's own facts. Condition: what is read is of bulk at most 1048576 (the form's own). Printed by gen_v24.py. -/
import Derived.Test.YtceedealggognaaGreatDoorJZw
namespace Go.Proofs.YtceedealggognaaGreatDoor
open Go.ChangeShapes Go.WideShapes Go.ChangeAt Go.RowKit
set_option maxRecDepth 100000
theorem rH:(Rows.bodyFirstUptoRow.inPlace==Tryz.pinned.checked.prog.inPlace 5)=true:=by kernel_rfl
theorem rI:(Rows.bodyFirstUptoRow.unfollowed==Tryz.pinned.checked.prog.unfollowed 5)=true:=by kernel_rfl
theorem rJ:(Rows.bodyFirstUptoRow.recurses==Tryz.pinned.checked.prog.recurses 5)=true:=by kernel_rfl
theorem rK:(Rows.bodyFirstUptoRow.named==Tryz.pinned.checked.prog.varsNamed 5)=true:=by kernel_rfl
theorem nc:joinedFacts Tryz.pinned.checked.prog 5 Tryz.f5 (Rows.OpenSpec.upto Rows.bodyFirstSpec).bare Rows.bodyFirstUptoRow=true:=by
 unfold joinedFacts
 rw[rH,rI,rJ,rK]
 kernel_rfl
theorem oF:(Tryz.f5).isInstance Tryz.pinned.checked.prog Rows.bodyFirstUptoRow.origin Rows.bodyFirstUptoRow.targs:=of_decide_eq_true G7
theorem oG:(Tryz.f5).isWrapper Tryz.pinned.checked.prog Rows.bodyFirstUptoRow.wrapper Rows.bodyFirstUptoRow.mainSum:=by
 unfold Func.isWrapper;first|(rw[if_pos G6];kernel_rfl)|(rw[if_neg G6];exact⟨rfl,rfl⟩)
theorem nQ (f:FuncId) (fn:Func) (hf:Tryz.pinned.checked.prog.funcNamed "millwright/millwrightlaw24.BodyFirst" =some f) (hfn:Tryz.pinned.checked.prog.funcs[f]?=some fn):
  false=Tryz.pinned.checked.prog.looks []∧∀(j:Nat) t,fn.params[j]?=some t→Tryz.pinned.checked.prog.wantsStandIn t=false:=by
 obtain rfl:f=5:=Option.some.inj ((show Tryz.prog.funcNamed "millwright/millwrightlaw24.BodyFirst" =some 5 by kernel_rfl).symm.trans hf) |>.symm
 obtain rfl:fn=Tryz.f5:=(Option.some.inj (Tryz.func5.symm.trans hfn)).symm
 refine⟨by kernel_rfl,fun j t ht=>?_⟩
 rw[Tryz.params5]at ht
 rcases(show t=33∨t=3∨t=65 by simpa using Array.mem_of_getElem? ht)with rfl|rfl|rfl
 ·exact(show Tryz.prog.wantsStandIn 33=false by kernel_rfl)
 ·exact(show Tryz.prog.wantsStandIn 3=false by kernel_rfl)
 ·exact(show Tryz.prog.wantsStandIn 65=false by kernel_rfl)
end Go.Proofs.YtceedealggognaaGreatDoor
