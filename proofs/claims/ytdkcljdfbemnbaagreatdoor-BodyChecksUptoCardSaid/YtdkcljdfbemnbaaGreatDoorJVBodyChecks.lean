/- BodyChecks: the row holds, and its card. Condition: what is read is of bulk at most 1048576 (the form's own). Printed by gen_v24.py. -/
import Derived.Test.YtdkcljdfbemnbaaGreatDoorJVaBodyChecks
import Derived.Test.YtdkcljdfbemnbaaGreatDoorJVcBodyChecks
namespace Go.Proofs.YtdkcljdfbemnbaaGreatDoor
open Go.ChangeShapes Go.WideShapes Go.ChangeAt Go.RowKit
set_option maxRecDepth 100000
theorem ri:Rows.BodyChecksUptoSaid:=
 OpenClaim.holds_of_cond 3 Tryz.f3 rfl rfl rfl rfl rfl rfl rfl ⟨rfl,rfl,rfl,rfl,rfl⟩ rfl rfl rfl rfl rfl O5 Tryz.func3 qv sy sA
  (fun os started H enc _ F=>by rw[OpenClaim.pre_eq_preRow];exact qw os started H enc F)
theorem bodyChecks_card:Rows.BodyChecksUptoCardSaid:=
 Claim7.holds_tied_plain_at .later [] _ _ _ _ ri (fun _ h=>by cases h) O5 (fun _ h=>by cases h) bodyChecksUpto_row_tie rfl ⟨rfl,rfl⟩ O5 rfl rj O5
#print axioms bodyChecks_card
end Go.Proofs.YtdkcljdfbemnbaaGreatDoor
