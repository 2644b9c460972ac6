/-
  DERIVED. GIVEN WITH THE SEED: THE CARDS: each row of YtmkgfccfnpmcjaaDoorRows.lean that lists a variable, with what it lists TIED to the program's text (the seventh form; the later family's looks); each row that meets fmt, with fmt's text TOLD by the authors' own Lean function (tested against real Go, not proved from fmt's source: count such statements apart). THE CARD IS WHAT COUNTS. Prove the row's statement (the work); the ties are given (YtmkgfccfnpmcjaaDoorTie.lean); close each card by the builder's one call (the guide's Derived/Test/ToyasCard.lean, 'card_holds'). Laid BY PROGRAM, IN A SANDBOX (cutbox-door.mjs). By AI agents, Wed Nov 11 2026. No macro, syntax, notation, axiom, sorry.
-/
import Derived.Test.YtmkgfccfnpmcjaaDoorRows
import GoSem.ClaimSeven
namespace Go.Proofs.YtmkgfccfnpmcjaaDoor
namespace Rows

/-- THE TIED CARD OF 'millwrightlaw57.CensusDeep'. -/
def censusDeepCard : Claim7 := { stood := { row := censusDeepRow, standIns := [], harness := (true, "3f3c1969e6c70132e1f3d0bcb3b8a77dc1ed539835ad72e0df983b25d6e51286"), looks := false }, kinds := [], alts := [], laidByText := true, laidKinds := [.listed, .data], laidTests := true, laidLooks := .later }
def CensusDeepCardSaid : Prop := Claim7.holds Tryd.pinned (.plain (OpenSpec.ofChange censusDeepSpec)) censusDeepCard

/-- THE SECOND FORM's CARD OF 'millwrightlaw57.CensusDeep'. -/
def censusDeepUptoCard : Claim7 := { stood := { row := censusDeepUptoRow, standIns := [], harness := (true, "3f3c1969e6c70132e1f3d0bcb3b8a77dc1ed539835ad72e0df983b25d6e51286"), looks := false }, kinds := [], alts := [], laidByText := true, laidKinds := [.listed, .data], laidTests := true, laidLooks := .later }
def CensusDeepUptoCardSaid : Prop := Claim7.holds Tryd.pinned (.plain (OpenSpec.upto censusDeepSpec)) censusDeepUptoCard
end Rows
end Go.Proofs.YtmkgfccfnpmcjaaDoor
