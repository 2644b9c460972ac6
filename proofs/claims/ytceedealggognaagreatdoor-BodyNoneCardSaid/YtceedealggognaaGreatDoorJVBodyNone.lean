/- BodyNone: the row holds, and its card. Conditions: none beyond the form's own. Printed by gen_v24.py. -/
import Derived.Test.YtceedealggognaaGreatDoorJVaBodyNone
import Derived.Test.YtceedealggognaaGreatDoorJVcBodyNone
namespace Go.Proofs.YtceedealggognaaGreatDoor
open Go.ChangeShapes Go.WideShapes Go.ChangeAt Go.RowKit
set_option maxRecDepth 100000
theorem nO:Rows.BodyNoneSaid:=
 OpenClaim.holds_of_cond 6 Tryz.f6 rfl rfl rfl rfl rfl rfl rfl ⟨rfl,rfl,rfl,rfl,rfl⟩ rfl rfl rfl rfl rfl FT Tryz.func6 m9 pk pn
  (fun os started H enc _ F=>by rw[OpenClaim.pre_eq_preRow];exact na os started H enc F)
theorem bodyNone_card:Rows.BodyNoneCardSaid:=
 Claim7.holds_tied_plain_at .later [] _ _ _ _ nO (fun _ h=>by cases h) FT (fun _ h=>by cases h) bodyNone_row_tie rfl ⟨rfl,rfl⟩ FT rfl nP FT
#print axioms bodyNone_card
end Go.Proofs.YtceedealggognaaGreatDoor
