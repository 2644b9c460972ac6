/- RuleOn: the row holds, and its card. Conditions: none beyond the form's own. Printed by gen_v23.py. -/
import Derived.Test.YtgbgnipidakdhaaGreatDoorJVaRuleOn
import Derived.Test.YtgbgnipidakdhaaGreatDoorJVcRuleOn
namespace Go.Proofs.YtgbgnipidakdhaaGreatDoor
open Go.ChangeShapes Go.WideShapes Go.ChangeAt Go.RowKit
set_option maxRecDepth 100000
theorem vw:Rows.RuleOnSaid:=
 OpenClaim.holds_of_cond 5 Tryz.f5 rfl rfl rfl rfl rfl rfl rfl ⟨rfl,rfl,rfl,rfl,rfl⟩ rfl rfl rfl rfl rfl L9 Tryz.func5 tW xH w8
  (fun os started H enc _ F=>by rw[OpenClaim.pre_eq_preRow];exact tX os started H enc F)
theorem ruleOn_card:Rows.RuleOnCardSaid:=
 Claim7.holds_tied_plain_at .later [] _ _ _ _ vw (fun _ h=>by cases h) L9 (fun _ h=>by cases h) ruleOn_row_tie rfl ⟨rfl,rfl⟩ L9 rfl wj L9
#print axioms ruleOn_card
end Go.Proofs.YtgbgnipidakdhaaGreatDoor
