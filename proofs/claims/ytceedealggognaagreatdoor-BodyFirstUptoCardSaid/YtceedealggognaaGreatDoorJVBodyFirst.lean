/- BodyFirst: the row holds, and its card. Condition: what is read is of bulk at most 1048576 (the form's own). Printed by gen_v24.py. -/
import Derived.Test.YtceedealggognaaGreatDoorJVaBodyFirst
import Derived.Test.YtceedealggognaaGreatDoorJVcBodyFirst
namespace Go.Proofs.YtceedealggognaaGreatDoor
open Go.ChangeShapes Go.WideShapes Go.ChangeAt Go.RowKit
set_option maxRecDepth 100000
theorem nP:Rows.BodyFirstUptoSaid:=
 OpenClaim.holds_of_cond 5 Tryz.f5 rfl rfl rfl rfl rfl rfl rfl ⟨rfl,rfl,rfl,rfl,rfl⟩ rfl rfl rfl rfl rfl G7 Tryz.func5 nc oF oG
  (fun os started H enc _ F=>by rw[OpenClaim.pre_eq_preRow];exact nf os started H enc F)
theorem bodyFirst_card:Rows.BodyFirstUptoCardSaid:=
 Claim7.holds_tied_plain_at .later [] _ _ _ _ nP (fun _ h=>by cases h) G7 (fun _ h=>by cases h) bodyFirstUpto_row_tie rfl ⟨rfl,rfl⟩ G7 rfl nQ G7
#print axioms bodyFirst_card
end Go.Proofs.YtceedealggognaaGreatDoor
