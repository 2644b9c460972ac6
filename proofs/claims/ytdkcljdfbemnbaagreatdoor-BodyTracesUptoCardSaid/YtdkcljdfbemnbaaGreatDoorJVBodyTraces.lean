import Derived.Test.YtdkcljdfbemnbaaGreatDoorJVaBodyTraces
namespace Go.Proofs.YtdkcljdfbemnbaaGreatDoor
open Go.ChangeShapes Go.WideShapes Go.ChangeAt Go.RowKit
set_option maxRecDepth 100000
theorem rm:Rows.BodyTracesUptoSaid:=
 OpenClaim.holds_of_cond 4 Tryz.f4 rfl rfl rfl rfl rfl rfl rfl ⟨rfl,rfl,rfl,rfl,rfl⟩ rfl rfl rfl rfl rfl Pb Tryz.func4 qD sB sC
  (fun os started H enc _ F=>by rw[OpenClaim.pre_eq_preRow];exact qE os started H enc F)
theorem bodyTraces_card:Rows.BodyTracesUptoCardSaid:=
 Claim7.holds_tied_plain_at .later [] _ _ _ _ rm (fun _ h=>by cases h) Pb (fun _ h=>by cases h) bodyTracesUpto_row_tie rfl ⟨rfl,rfl⟩ Pb rfl rn Pb
#print axioms bodyTraces_card
end Go.Proofs.YtdkcljdfbemnbaaGreatDoor
