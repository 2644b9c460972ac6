/- RuleOn: the row's own facts. Conditions: none beyond the form's own. Printed by gen_v23.py. -/
import Derived.Test.YtgbgnipidakdhaaGreatDoorJZt
namespace Go.Proofs.YtgbgnipidakdhaaGreatDoor
open Go.ChangeShapes Go.WideShapes Go.ChangeAt Go.RowKit
set_option maxRecDepth 100000
theorem Ba:(Rows.ruleOnRow.inPlace==Tryz.pinned.checked.prog.inPlace 5)=true:=by kernel_rfl
theorem AX:(Rows.ruleOnRow.unfollowed==Tryz.pinned.checked.prog.unfollowed 5)=true:=by kernel_rfl
theorem A9:(Rows.ruleOnRow.recurses==Tryz.pinned.checked.prog.recurses 5)=true:=by kernel_rfl
theorem AP:(Rows.ruleOnRow.named==Tryz.pinned.checked.prog.varsNamed 5)=true:=by kernel_rfl
theorem tW:joinedFacts Tryz.pinned.checked.prog 5 Tryz.f5 (OpenSpec.ofChange Rows.ruleOnSpec).bare Rows.ruleOnRow=true:=by
 unfold joinedFacts
 rw[Ba,AX,A9,AP]
 kernel_rfl
theorem xH:(Tryz.f5).isInstance Tryz.pinned.checked.prog Rows.ruleOnRow.origin Rows.ruleOnRow.targs:=of_decide_eq_true L9
theorem w8:(Tryz.f5).isWrapper Tryz.pinned.checked.prog Rows.ruleOnRow.wrapper Rows.ruleOnRow.mainSum:=by
 unfold Func.isWrapper;first|(rw[if_pos LX];kernel_rfl)|(rw[if_neg LX];exact⟨rfl,rfl⟩)
theorem wj (f:FuncId) (fn:Func) (hf:Tryz.pinned.checked.prog.funcNamed "millwright/millwrightlaw23.RuleOn" =some f) (hfn:Tryz.pinned.checked.prog.funcs[f]?=some fn):
  false=Tryz.pinned.checked.prog.looks []∧∀(j:Nat) t,fn.params[j]?=some t→Tryz.pinned.checked.prog.wantsStandIn t=false:=by
 obtain rfl:f=5:=Option.some.inj ((show Tryz.prog.funcNamed "millwright/millwrightlaw23.RuleOn" =some 5 by kernel_rfl).symm.trans hf) |>.symm
 obtain rfl:fn=Tryz.f5:=(Option.some.inj (Tryz.func5.symm.trans hfn)).symm
 refine⟨by kernel_rfl,fun j t ht=>?_⟩
 rw[Tryz.params5]at ht
 rcases(show t=33∨t=34∨t=34∨t=4∨t=42 by simpa using Array.mem_of_getElem? ht)with rfl|rfl|rfl|rfl|rfl
 ·exact(show Tryz.prog.wantsStandIn 33=false by kernel_rfl)
 ·exact(show Tryz.prog.wantsStandIn 34=false by kernel_rfl)
 ·exact(show Tryz.prog.wantsStandIn 34=false by kernel_rfl)
 ·exact(show Tryz.prog.wantsStandIn 4=false by kernel_rfl)
 ·exact(show Tryz.prog.wantsStandIn 42=false by kernel_rfl)
end Go.Proofs.YtgbgnipidakdhaaGreatDoor
