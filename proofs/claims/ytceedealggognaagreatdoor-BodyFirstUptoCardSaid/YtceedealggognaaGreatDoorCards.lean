/-
  DERIVED. GIVEN WITH THE SEED: THE CARDS: each row of YtceedealggognaaGreatDoorRows.lean that lists a variable, with what it lists TIED to the program's text (the seventh form; the later family's looks); each row that meets fmt, with fmt's text TOLD by the authors' own Lean function (tested against real Go, not proved from fmt's source: count such statements apart). THE CARD IS WHAT COUNTS. Prove the row's statement (the work); the ties are given (YtceedealggognaaGreatDoorTie.lean); close each card by the builder's one call (the guide's Derived/Test/ToyasCard.lean, 'card_holds'). Laid BY PROGRAM, IN A SANDBOX (cutbox-door.mjs). By AI agents, Wed Nov 11 2026. No macro, syntax, notation, axiom, sorry.
-/
import Derived.Test.YtceedealggognaaGreatDoorRows
import GoSem.ClaimSeven
namespace Go.Proofs.YtceedealggognaaGreatDoor
namespace Rows

/-- THE TIED CARD OF 'millwrightlaw24.BodyChecks'. -/
def bodyChecksCard : Claim7 := { stood := { row := bodyChecksRow, standIns := [], harness := (true, "177799681f45f257f0d0f351f89c9faf3c2c708309c4dc0a1b21c118d96492e4"), looks := false }, kinds := [], alts := [], laidByText := true, laidKinds := [.listed, .data], laidTests := true, laidLooks := .later }
def BodyChecksCardSaid : Prop := Claim7.holds Tryz.pinned (.plain (OpenSpec.ofChange bodyChecksSpec)) bodyChecksCard

/-- THE TIED CARD OF 'millwrightlaw24.BodyTraces'. -/
def bodyTracesCard : Claim7 := { stood := { row := bodyTracesRow, standIns := [], harness := (true, "177799681f45f257f0d0f351f89c9faf3c2c708309c4dc0a1b21c118d96492e4"), looks := false }, kinds := [], alts := [], laidByText := true, laidKinds := [.listed, .data], laidTests := true, laidLooks := .later }
def BodyTracesCardSaid : Prop := Claim7.holds Tryz.pinned (.plain (OpenSpec.ofChange bodyTracesSpec)) bodyTracesCard

/-- THE TIED CARD OF 'millwrightlaw24.BodyFirst'. -/
def bodyFirstCard : Claim7 := { stood := { row := bodyFirstRow, standIns := [], harness := (true, "177799681f45f257f0d0f351f89c9faf3c2c708309c4dc0a1b21c118d96492e4"), looks := false }, kinds := [], alts := [], laidByText := true, laidKinds := [.listed, .data], laidTests := true, laidLooks := .later }
def BodyFirstCardSaid : Prop := Claim7.holds Tryz.pinned (.plain (OpenSpec.ofChange bodyFirstSpec)) bodyFirstCard

/-- THE TIED CARD OF 'millwrightlaw24.BodyNone'. -/
def bodyNoneCard : Claim7 := { stood := { row := bodyNoneRow, standIns := [], harness := (true, "177799681f45f257f0d0f351f89c9faf3c2c708309c4dc0a1b21c118d96492e4"), looks := false }, kinds := [], alts := [], laidByText := true, laidKinds := [.listed, .data], laidTests := true, laidLooks := .later }
def BodyNoneCardSaid : Prop := Claim7.holds Tryz.pinned (.plain (OpenSpec.ofChange bodyNoneSpec)) bodyNoneCard

/-- THE SECOND FORM's CARD OF 'millwrightlaw24.BodyChecks'. -/
def bodyChecksUptoCard : Claim7 := { stood := { row := bodyChecksUptoRow, standIns := [], harness := (true, "177799681f45f257f0d0f351f89c9faf3c2c708309c4dc0a1b21c118d96492e4"), looks := false }, kinds := [], alts := [], laidByText := true, laidKinds := [.listed, .data], laidTests := true, laidLooks := .later }
def BodyChecksUptoCardSaid : Prop := Claim7.holds Tryz.pinned (.plain (OpenSpec.upto bodyChecksSpec)) bodyChecksUptoCard

/-- THE SECOND FORM's CARD OF 'millwrightlaw24.BodyTraces'. -/
def bodyTracesUptoCard : Claim7 := { stood := { row := bodyTracesUptoRow, standIns := [], harness := (true, "177799681f45f257f0d0f351f89c9faf3c2c708309c4dc0a1b21c118d96492e4"), looks := false }, kinds := [], alts := [], laidByText := true, laidKinds := [.listed, .data], laidTests := true, laidLooks := .later }
def BodyTracesUptoCardSaid : Prop := Claim7.holds Tryz.pinned (.plain (OpenSpec.upto bodyTracesSpec)) bodyTracesUptoCard

/-- THE SECOND FORM's CARD OF 'millwrightlaw24.BodyFirst'. -/
def bodyFirstUptoCard : Claim7 := { stood := { row := bodyFirstUptoRow, standIns := [], harness := (true, "177799681f45f257f0d0f351f89c9faf3c2c708309c4dc0a1b21c118d96492e4"), looks := false }, kinds := [], alts := [], laidByText := true, laidKinds := [.listed, .data], laidTests := true, laidLooks := .later }
def BodyFirstUptoCardSaid : Prop := Claim7.holds Tryz.pinned (.plain (OpenSpec.upto bodyFirstSpec)) bodyFirstUptoCard

/-- THE SECOND FORM's CARD OF 'millwrightlaw24.BodyNone'. -/
def bodyNoneUptoCard : Claim7 := { stood := { row := bodyNoneUptoRow, standIns := [], harness := (true, "177799681f45f257f0d0f351f89c9faf3c2c708309c4dc0a1b21c118d96492e4"), looks := false }, kinds := [], alts := [], laidByText := true, laidKinds := [.listed, .data], laidTests := true, laidLooks := .later }
def BodyNoneUptoCardSaid : Prop := Claim7.holds Tryz.pinned (.plain (OpenSpec.upto bodyNoneSpec)) bodyNoneUptoCard
end Rows
end Go.Proofs.YtceedealggognaaGreatDoor
