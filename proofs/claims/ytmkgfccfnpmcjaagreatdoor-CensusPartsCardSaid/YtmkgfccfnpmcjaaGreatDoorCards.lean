/-
  DERIVED. GIVEN WITH THE SEED: THE CARDS: each row of YtmkgfccfnpmcjaaGreatDoorRows.lean that lists a variable, with what it lists TIED to the program's text (the seventh form; the later family's looks); each row that meets fmt, with fmt's text TOLD by the authors' own Lean function (tested against real Go, not proved from fmt's source: count such statements apart). THE CARD IS WHAT COUNTS. Prove the row's statement (the work); the ties are given (YtmkgfccfnpmcjaaGreatDoorTie.lean); close each card by the builder's one call (the guide's Derived/Test/ToyasCard.lean, 'card_holds'). Laid BY PROGRAM, IN A SANDBOX (cutbox-door.mjs). By AI agents, Wed Nov 11 2026. No macro, syntax, notation, axiom, sorry.
-/
import Derived.Test.YtmkgfccfnpmcjaaGreatDoorRows
import GoSem.ClaimSeven
namespace Go.Proofs.YtmkgfccfnpmcjaaGreatDoor
namespace Rows

/-- THE TIED CARD OF 'millwrightlaw57.CensusOf'. -/
def censusOfCard : Claim7 := { stood := { row := censusOfRow, standIns := [], harness := (true, "4312de83b4160c7bc5ec97714be4fb080c1b509679630b5c56ede58f17939749"), looks := false }, kinds := [], alts := [], laidByText := true, laidKinds := [.listed, .data], laidTests := true, laidLooks := .later }
def CensusOfCardSaid : Prop := Claim7.holds Tryz.pinned (.plain (OpenSpec.ofChange censusOfSpec)) censusOfCard

/-- THE TIED CARD OF 'millwrightlaw57.CensusLists'. -/
def censusListsCard : Claim7 := { stood := { row := censusListsRow, standIns := [], harness := (true, "4312de83b4160c7bc5ec97714be4fb080c1b509679630b5c56ede58f17939749"), looks := false }, kinds := [], alts := [], laidByText := true, laidKinds := [.listed, .data], laidTests := true, laidLooks := .later }
def CensusListsCardSaid : Prop := Claim7.holds Tryz.pinned (.plain (OpenSpec.ofChange censusListsSpec)) censusListsCard

/-- THE TIED CARD OF 'millwrightlaw57.CensusParts'. -/
def censusPartsCard : Claim7 := { stood := { row := censusPartsRow, standIns := [], harness := (true, "4312de83b4160c7bc5ec97714be4fb080c1b509679630b5c56ede58f17939749"), looks := false }, kinds := [], alts := [], laidByText := true, laidKinds := [.listed, .data], laidTests := true, laidLooks := .later }
def CensusPartsCardSaid : Prop := Claim7.holds Tryz.pinned (.plain (OpenSpec.ofChange censusPartsSpec)) censusPartsCard

/-- THE SECOND FORM's CARD OF 'millwrightlaw57.CensusOf'. -/
def censusOfUptoCard : Claim7 := { stood := { row := censusOfUptoRow, standIns := [], harness := (true, "4312de83b4160c7bc5ec97714be4fb080c1b509679630b5c56ede58f17939749"), looks := false }, kinds := [], alts := [], laidByText := true, laidKinds := [.listed, .data], laidTests := true, laidLooks := .later }
def CensusOfUptoCardSaid : Prop := Claim7.holds Tryz.pinned (.plain (OpenSpec.upto censusOfSpec)) censusOfUptoCard

/-- THE SECOND FORM's CARD OF 'millwrightlaw57.CensusLists'. -/
def censusListsUptoCard : Claim7 := { stood := { row := censusListsUptoRow, standIns := [], harness := (true, "4312de83b4160c7bc5ec97714be4fb080c1b509679630b5c56ede58f17939749"), looks := false }, kinds := [], alts := [], laidByText := true, laidKinds := [.listed, .data], laidTests := true, laidLooks := .later }
def CensusListsUptoCardSaid : Prop := Claim7.holds Tryz.pinned (.plain (OpenSpec.upto censusListsSpec)) censusListsUptoCard

/-- THE SECOND FORM's CARD OF 'millwrightlaw57.CensusParts'. -/
def censusPartsUptoCard : Claim7 := { stood := { row := censusPartsUptoRow, standIns := [], harness := (true, "4312de83b4160c7bc5ec97714be4fb080c1b509679630b5c56ede58f17939749"), looks := false }, kinds := [], alts := [], laidByText := true, laidKinds := [.listed, .data], laidTests := true, laidLooks := .later }
def CensusPartsUptoCardSaid : Prop := Claim7.holds Tryz.pinned (.plain (OpenSpec.upto censusPartsSpec)) censusPartsUptoCard
end Rows
end Go.Proofs.YtmkgfccfnpmcjaaGreatDoor
