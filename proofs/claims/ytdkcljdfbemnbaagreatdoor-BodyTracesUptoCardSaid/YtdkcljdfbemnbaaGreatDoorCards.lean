/-
  DERIVED. GIVEN WITH THE SEED: THE CARDS: each row of YtdkcljdfbemnbaaGreatDoorRows.lean that lists a variable, with what it lists TIED to the program's text (the seventh form; the later family's looks); each row that meets fmt, with fmt's text TOLD by the authors' own Lean function (tested against real Go, not proved from fmt's source: count such statements apart). THE CARD IS WHAT COUNTS. Prove the row's statement (the work); the ties are given (YtdkcljdfbemnbaaGreatDoorTie.lean); close each card by the builder's one call (the guide's Derived/Test/ToyasCard.lean, 'card_holds'). Laid BY PROGRAM, IN A SANDBOX (cutbox-door.mjs). By AI agents, Wed Nov 11 2026. No macro, syntax, notation, axiom, sorry.
-/
import Derived.Test.YtdkcljdfbemnbaaGreatDoorRows
import GoSem.ClaimSeven
namespace Go.Proofs.YtdkcljdfbemnbaaGreatDoor
namespace Rows

/-- THE TIED CARD OF 'millwrightlaw24.BodyChecks'. -/
def bodyChecksCard : Claim7 := { stood := { row := bodyChecksRow, standIns := [], harness := (true, "d55018d8ed650c6cf0387ebcb94a0b2ab59b8db55827a34a7da32ff01a930ff1"), looks := false }, kinds := [], alts := [], laidByText := true, laidKinds := [.listed, .data], laidTests := true, laidLooks := .later }
def BodyChecksCardSaid : Prop := Claim7.holds Tryz.pinned (.plain (OpenSpec.ofChange bodyChecksSpec)) bodyChecksCard

/-- THE TIED CARD OF 'millwrightlaw24.BodyTraces'. -/
def bodyTracesCard : Claim7 := { stood := { row := bodyTracesRow, standIns := [], harness := (true, "d55018d8ed650c6cf0387ebcb94a0b2ab59b8db55827a34a7da32ff01a930ff1"), looks := false }, kinds := [], alts := [], laidByText := true, laidKinds := [.listed, .data], laidTests := true, laidLooks := .later }
def BodyTracesCardSaid : Prop := Claim7.holds Tryz.pinned (.plain (OpenSpec.ofChange bodyTracesSpec)) bodyTracesCard

/-- THE SECOND FORM's CARD OF 'millwrightlaw24.BodyChecks'. -/
def bodyChecksUptoCard : Claim7 := { stood := { row := bodyChecksUptoRow, standIns := [], harness := (true, "d55018d8ed650c6cf0387ebcb94a0b2ab59b8db55827a34a7da32ff01a930ff1"), looks := false }, kinds := [], alts := [], laidByText := true, laidKinds := [.listed, .data], laidTests := true, laidLooks := .later }
def BodyChecksUptoCardSaid : Prop := Claim7.holds Tryz.pinned (.plain (OpenSpec.upto bodyChecksSpec)) bodyChecksUptoCard

/-- THE SECOND FORM's CARD OF 'millwrightlaw24.BodyTraces'. -/
def bodyTracesUptoCard : Claim7 := { stood := { row := bodyTracesUptoRow, standIns := [], harness := (true, "d55018d8ed650c6cf0387ebcb94a0b2ab59b8db55827a34a7da32ff01a930ff1"), looks := false }, kinds := [], alts := [], laidByText := true, laidKinds := [.listed, .data], laidTests := true, laidLooks := .later }
def BodyTracesUptoCardSaid : Prop := Claim7.holds Tryz.pinned (.plain (OpenSpec.upto bodyTracesSpec)) bodyTracesUptoCard
end Rows
end Go.Proofs.YtdkcljdfbemnbaaGreatDoor
