/-
  DERIVED. GIVEN WITH THE SEED: THE CARDS: each row of YtnbdfpppcdgkpaaGreatDoorRows.lean that lists a variable, with what it lists TIED to the program's text (the seventh form; the later family's looks); each row that meets fmt, with fmt's text TOLD by the authors' own Lean function (tested against real Go, not proved from fmt's source: count such statements apart). THE CARD IS WHAT COUNTS. Prove the row's statement (the work); the ties are given (YtnbdfpppcdgkpaaGreatDoorTie.lean); close each card by the builder's one call (the guide's Derived/Test/ToyasCard.lean, 'card_holds'). Laid BY PROGRAM, IN A SANDBOX (cutbox-door.mjs). By AI agents, Wed Nov 11 2026. No macro, syntax, notation, axiom, sorry.
-/
import Derived.Test.YtnbdfpppcdgkpaaGreatDoorRows
import GoSem.ClaimSeven
namespace Go.Proofs.YtnbdfpppcdgkpaaGreatDoor
namespace Rows

/-- THE TIED CARD OF 'ephemeristlaw01.DifferSheets'. -/
def differSheetsCard : Claim7 := { stood := { row := differSheetsRow, standIns := [], harness := (true, "eb73d3fb68631a478c2777b6a9670aee05550e61c5f940a57c40209abaade795"), looks := true }, kinds := [], alts := [], laidByText := true, laidKinds := [.data, .data, .data, .data, .pinned], laidTests := true, laidLooks := .later }
def DifferSheetsCardSaid : Prop := Claim7.holds Tryz.pinned (.plain (OpenSpec.ofChange differSheetsSpec)) differSheetsCard

/-- THE SECOND FORM's CARD OF 'ephemeristlaw01.DifferSheets'. -/
def differSheetsUptoCard : Claim7 := { stood := { row := differSheetsUptoRow, standIns := [], harness := (true, "eb73d3fb68631a478c2777b6a9670aee05550e61c5f940a57c40209abaade795"), looks := true }, kinds := [], alts := [], laidByText := true, laidKinds := [.data, .data, .data, .data, .pinned], laidTests := true, laidLooks := .later }
def DifferSheetsUptoCardSaid : Prop := Claim7.holds Tryz.pinned (.plain (OpenSpec.upto differSheetsSpec)) differSheetsUptoCard
end Rows
end Go.Proofs.YtnbdfpppcdgkpaaGreatDoor
