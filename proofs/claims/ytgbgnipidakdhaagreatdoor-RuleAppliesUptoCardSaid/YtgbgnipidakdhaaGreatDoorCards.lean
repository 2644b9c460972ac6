/-
  DERIVED. GIVEN WITH THE SEED: THE CARDS: each row of YtgbgnipidakdhaaGreatDoorRows.lean that lists a variable, with what it lists TIED to the program's text (the seventh form; the later family's looks); each row that meets fmt, with fmt's text TOLD by the authors' own Lean function (tested against real Go, not proved from fmt's source: count such statements apart). THE CARD IS WHAT COUNTS. Prove the row's statement (the work); the ties are given (YtgbgnipidakdhaaGreatDoorTie.lean); close each card by the builder's one call (the guide's Derived/Test/ToyasCard.lean, 'card_holds'). Laid BY PROGRAM, IN A SANDBOX (cutbox-door.mjs). By AI agents, Wed Nov 11 2026. No macro, syntax, notation, axiom, sorry.
-/
import Derived.Test.YtgbgnipidakdhaaGreatDoorRows
import GoSem.ClaimSeven
namespace Go.Proofs.YtgbgnipidakdhaaGreatDoor
namespace Rows

/-- THE TIED CARD OF 'millwrightlaw23.RuleWants'. -/
def ruleWantsCard : Claim7 := { stood := { row := ruleWantsRow, standIns := [], harness := (true, "95ba7203fc2bfee771c99dc16b3a4cca0b61ec7c888a2b0df7babd1daa180fca"), looks := false }, kinds := [], alts := [], laidByText := true, laidKinds := [.listed, .data], laidTests := true, laidLooks := .later }
def RuleWantsCardSaid : Prop := Claim7.holds Tryz.pinned (.plain (OpenSpec.ofChange ruleWantsSpec)) ruleWantsCard

/-- THE TIED CARD OF 'millwrightlaw23.RuleNobody'. -/
def ruleNobodyCard : Claim7 := { stood := { row := ruleNobodyRow, standIns := [], harness := (true, "95ba7203fc2bfee771c99dc16b3a4cca0b61ec7c888a2b0df7babd1daa180fca"), looks := false }, kinds := [], alts := [], laidByText := true, laidKinds := [.listed, .data], laidTests := true, laidLooks := .later }
def RuleNobodyCardSaid : Prop := Claim7.holds Tryz.pinned (.plain (OpenSpec.ofChange ruleNobodySpec)) ruleNobodyCard

/-- THE TIED CARD OF 'millwrightlaw23.RuleOn'. -/
def ruleOnCard : Claim7 := { stood := { row := ruleOnRow, standIns := [], harness := (true, "95ba7203fc2bfee771c99dc16b3a4cca0b61ec7c888a2b0df7babd1daa180fca"), looks := false }, kinds := [], alts := [], laidByText := true, laidKinds := [.listed, .data], laidTests := true, laidLooks := .later }
def RuleOnCardSaid : Prop := Claim7.holds Tryz.pinned (.plain (OpenSpec.ofChange ruleOnSpec)) ruleOnCard

/-- THE TIED CARD OF 'millwrightlaw23.RuleSame'. -/
def ruleSameCard : Claim7 := { stood := { row := ruleSameRow, standIns := [], harness := (true, "95ba7203fc2bfee771c99dc16b3a4cca0b61ec7c888a2b0df7babd1daa180fca"), looks := false }, kinds := [], alts := [], laidByText := true, laidKinds := [.listed, .data], laidTests := true, laidLooks := .later }
def RuleSameCardSaid : Prop := Claim7.holds Tryz.pinned (.plain (OpenSpec.ofChange ruleSameSpec)) ruleSameCard

/-- THE TIED CARD OF 'millwrightlaw23.RuleLoose'. -/
def ruleLooseCard : Claim7 := { stood := { row := ruleLooseRow, standIns := [], harness := (true, "95ba7203fc2bfee771c99dc16b3a4cca0b61ec7c888a2b0df7babd1daa180fca"), looks := false }, kinds := [], alts := [], laidByText := true, laidKinds := [.listed, .data], laidTests := true, laidLooks := .later }
def RuleLooseCardSaid : Prop := Claim7.holds Tryz.pinned (.plain (OpenSpec.ofChange ruleLooseSpec)) ruleLooseCard

/-- THE TIED CARD OF 'millwrightlaw23.RuleApplies'. -/
def ruleAppliesCard : Claim7 := { stood := { row := ruleAppliesRow, standIns := [], harness := (true, "95ba7203fc2bfee771c99dc16b3a4cca0b61ec7c888a2b0df7babd1daa180fca"), looks := false }, kinds := [], alts := [], laidByText := true, laidKinds := [.listed, .data], laidTests := true, laidLooks := .later }
def RuleAppliesCardSaid : Prop := Claim7.holds Tryz.pinned (.plain (OpenSpec.ofChange ruleAppliesSpec)) ruleAppliesCard

/-- THE SECOND FORM's CARD OF 'millwrightlaw23.RuleWants'. -/
def ruleWantsUptoCard : Claim7 := { stood := { row := ruleWantsUptoRow, standIns := [], harness := (true, "95ba7203fc2bfee771c99dc16b3a4cca0b61ec7c888a2b0df7babd1daa180fca"), looks := false }, kinds := [], alts := [], laidByText := true, laidKinds := [.listed, .data], laidTests := true, laidLooks := .later }
def RuleWantsUptoCardSaid : Prop := Claim7.holds Tryz.pinned (.plain (OpenSpec.upto ruleWantsSpec)) ruleWantsUptoCard

/-- THE SECOND FORM's CARD OF 'millwrightlaw23.RuleNobody'. -/
def ruleNobodyUptoCard : Claim7 := { stood := { row := ruleNobodyUptoRow, standIns := [], harness := (true, "95ba7203fc2bfee771c99dc16b3a4cca0b61ec7c888a2b0df7babd1daa180fca"), looks := false }, kinds := [], alts := [], laidByText := true, laidKinds := [.listed, .data], laidTests := true, laidLooks := .later }
def RuleNobodyUptoCardSaid : Prop := Claim7.holds Tryz.pinned (.plain (OpenSpec.upto ruleNobodySpec)) ruleNobodyUptoCard

/-- THE SECOND FORM's CARD OF 'millwrightlaw23.RuleOn'. -/
def ruleOnUptoCard : Claim7 := { stood := { row := ruleOnUptoRow, standIns := [], harness := (true, "95ba7203fc2bfee771c99dc16b3a4cca0b61ec7c888a2b0df7babd1daa180fca"), looks := false }, kinds := [], alts := [], laidByText := true, laidKinds := [.listed, .data], laidTests := true, laidLooks := .later }
def RuleOnUptoCardSaid : Prop := Claim7.holds Tryz.pinned (.plain (OpenSpec.upto ruleOnSpec)) ruleOnUptoCard

/-- THE SECOND FORM's CARD OF 'millwrightlaw23.RuleSame'. -/
def ruleSameUptoCard : Claim7 := { stood := { row := ruleSameUptoRow, standIns := [], harness := (true, "95ba7203fc2bfee771c99dc16b3a4cca0b61ec7c888a2b0df7babd1daa180fca"), looks := false }, kinds := [], alts := [], laidByText := true, laidKinds := [.listed, .data], laidTests := true, laidLooks := .later }
def RuleSameUptoCardSaid : Prop := Claim7.holds Tryz.pinned (.plain (OpenSpec.upto ruleSameSpec)) ruleSameUptoCard

/-- THE SECOND FORM's CARD OF 'millwrightlaw23.RuleLoose'. -/
def ruleLooseUptoCard : Claim7 := { stood := { row := ruleLooseUptoRow, standIns := [], harness := (true, "95ba7203fc2bfee771c99dc16b3a4cca0b61ec7c888a2b0df7babd1daa180fca"), looks := false }, kinds := [], alts := [], laidByText := true, laidKinds := [.listed, .data], laidTests := true, laidLooks := .later }
def RuleLooseUptoCardSaid : Prop := Claim7.holds Tryz.pinned (.plain (OpenSpec.upto ruleLooseSpec)) ruleLooseUptoCard

/-- THE SECOND FORM's CARD OF 'millwrightlaw23.RuleApplies'. -/
def ruleAppliesUptoCard : Claim7 := { stood := { row := ruleAppliesUptoRow, standIns := [], harness := (true, "95ba7203fc2bfee771c99dc16b3a4cca0b61ec7c888a2b0df7babd1daa180fca"), looks := false }, kinds := [], alts := [], laidByText := true, laidKinds := [.listed, .data], laidTests := true, laidLooks := .later }
def RuleAppliesUptoCardSaid : Prop := Claim7.holds Tryz.pinned (.plain (OpenSpec.upto ruleAppliesSpec)) ruleAppliesUptoCard
end Rows
end Go.Proofs.YtgbgnipidakdhaaGreatDoor
