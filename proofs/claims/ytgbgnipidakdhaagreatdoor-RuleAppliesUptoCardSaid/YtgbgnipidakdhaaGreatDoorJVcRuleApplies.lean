/- RuleApplies: the row's own facts. Condition: what is read is of bulk at most 1048576 (the form's own). Printed by gen_v23.py. -/
import Derived.Test.YtgbgnipidakdhaaGreatDoorJZt
namespace Go.Proofs.YtgbgnipidakdhaaGreatDoor
open Go.ChangeShapes Go.WideShapes Go.ChangeAt Go.RowKit
set_option maxRecDepth 100000
theorem Cv:(Rows.ruleAppliesUptoRow.inPlace==Tryz.pinned.checked.prog.inPlace 8)=true:=by kernel_rfl
theorem Df:(Rows.ruleAppliesUptoRow.unfollowed==Tryz.pinned.checked.prog.unfollowed 8)=true:=by kernel_rfl
theorem Dj:(Rows.ruleAppliesUptoRow.recurses==Tryz.pinned.checked.prog.recurses 8)=true:=by kernel_rfl
theorem Dm:(Rows.ruleAppliesUptoRow.named==Tryz.pinned.checked.prog.varsNamed 8)=true:=by kernel_rfl
theorem su:joinedFacts Tryz.pinned.checked.prog 8 Tryz.f8 (Rows.OpenSpec.upto Rows.ruleAppliesSpec).bare Rows.ruleAppliesUptoRow=true:=by
 unfold joinedFacts
 rw[Cv,Df,Dj,Dm]
 kernel_rfl
theorem vp:(Tryz.f8).isInstance Tryz.pinned.checked.prog Rows.ruleAppliesUptoRow.origin Rows.ruleAppliesUptoRow.targs:=of_decide_eq_true L9
theorem wE:(Tryz.f8).isWrapper Tryz.pinned.checked.prog Rows.ruleAppliesUptoRow.wrapper Rows.ruleAppliesUptoRow.mainSum:=by
 unfold Func.isWrapper;first|(rw[if_pos LX];kernel_rfl)|(rw[if_neg LX];exact⟨rfl,rfl⟩)
theorem tk (f:FuncId) (fn:Func) (hf:Tryz.pinned.checked.prog.funcNamed "millwright/millwrightlaw23.RuleApplies" =some f) (hfn:Tryz.pinned.checked.prog.funcs[f]?=some fn):
  false=Tryz.pinned.checked.prog.looks []∧∀(j:Nat) t,fn.params[j]?=some t→Tryz.pinned.checked.prog.wantsStandIn t=false:=by
 obtain rfl:f=8:=Option.some.inj ((show Tryz.prog.funcNamed "millwright/millwrightlaw23.RuleApplies" =some 8 by kernel_rfl).symm.trans hf) |>.symm
 obtain rfl:fn=Tryz.f8:=(Option.some.inj (Tryz.func8.symm.trans hfn)).symm
 refine⟨by kernel_rfl,fun j t ht=>?_⟩
 rw[Tryz.params8]at ht
 rcases(show t=33∨t=34∨t=34∨t=44 by simpa using Array.mem_of_getElem? ht)with rfl|rfl|rfl|rfl
 ·exact(show Tryz.prog.wantsStandIn 33=false by kernel_rfl)
 ·exact(show Tryz.prog.wantsStandIn 34=false by kernel_rfl)
 ·exact(show Tryz.prog.wantsStandIn 34=false by kernel_rfl)
 ·exact(show Tryz.prog.wantsStandIn 44=false by kernel_rfl)
end Go.Proofs.YtgbgnipidakdhaaGreatDoor
