/-
  DERIVED. GIVEN WITH THE SEED: THE CARDS: each row of YtflbianfhogdjaaGreatDoorRows.lean that lists a variable, with what it lists TIED to the program's text (the seventh form; the later family's looks); each row that meets fmt, with fmt's text TOLD by the authors' own Lean function (tested against real Go, not proved from fmt's source: count such statements apart). THE CARD IS WHAT COUNTS. Prove the row's statement (the work); the ties are given (YtflbianfhogdjaaGreatDoorTie.lean); close each card by the builder's one call (the guide's Derived/Test/ToyasCard.lean, 'card_holds'). Laid BY PROGRAM, IN A SANDBOX (cutbox-door.mjs). By AI agents, Wed Nov 11 2026. No macro, syntax, notation, axiom, sorry.
-/
import Derived.Test.YtflbianfhogdjaaGreatDoorRows
import GoSem.ClaimSeven
namespace Go.Proofs.YtflbianfhogdjaaGreatDoor
namespace Rows

/-- THE TIED CARD OF 'ephemeristlaw01.DifferSheets'. -/
def differSheetsCard : Claim7 := { stood := { row := differSheetsRow, standIns := [], harness := (true, "9a542ac743afd7edcb6f3cbd989ac5534e57cf4118a8820287a37bb09b5416c8"), looks := true }, kinds := [], alts := [], laidByText := true, laidKinds := [.data, .data, .data, .data, .pinned], laidTests := true, laidLooks := .later }
def DifferSheetsCardSaid : Prop := Claim7.holds Tryz.pinned (.plain (OpenSpec.ofChange differSheetsSpec)) differSheetsCard

/-- THE TIED CARD OF 'ephemeristlaw01.DifferAgrees'. -/
def differAgreesCard : Claim7 := { stood := { row := differAgreesRow, standIns := [], harness := (true, "9a542ac743afd7edcb6f3cbd989ac5534e57cf4118a8820287a37bb09b5416c8"), looks := true }, kinds := [], alts := [], laidByText := true, laidKinds := [.data, .data, .data, .data, .pinned], laidTests := true, laidLooks := .later }
def DifferAgreesCardSaid : Prop := Claim7.holds Tryz.pinned (.plain (OpenSpec.ofChange differAgreesSpec)) differAgreesCard

/-- THE TIED CARD OF 'ephemeristlaw01.DifferNotes'. -/
def differNotesCard : Claim7 := { stood := { row := differNotesRow, standIns := [], harness := (true, "9a542ac743afd7edcb6f3cbd989ac5534e57cf4118a8820287a37bb09b5416c8"), looks := true }, kinds := [], alts := [], laidByText := true, laidKinds := [.data, .data, .data, .data, .pinned], laidTests := true, laidLooks := .later }
def DifferNotesCardSaid : Prop := Claim7.holds Tryz.pinned (.plain (OpenSpec.ofChange differNotesSpec)) differNotesCard

/-- THE TIED CARD OF 'ephemeristlaw01.DifferNexts'. -/
def differNextsCard : Claim7 := { stood := { row := differNextsRow, standIns := [], harness := (true, "9a542ac743afd7edcb6f3cbd989ac5534e57cf4118a8820287a37bb09b5416c8"), looks := true }, kinds := [], alts := [], laidByText := true, laidKinds := [.data, .data, .data, .data, .pinned], laidTests := true, laidLooks := .later }
def DifferNextsCardSaid : Prop := Claim7.holds Tryz.pinned (.plain (OpenSpec.ofChange differNextsSpec)) differNextsCard

/-- THE TIED CARD OF 'ephemeristlaw01.DifferAsked'. -/
def differAskedCard : Claim7 := { stood := { row := differAskedRow, standIns := [], harness := (true, "9a542ac743afd7edcb6f3cbd989ac5534e57cf4118a8820287a37bb09b5416c8"), looks := true }, kinds := [], alts := [], laidByText := true, laidKinds := [.data, .data, .data, .data, .pinned], laidTests := true, laidLooks := .later }
def DifferAskedCardSaid : Prop := Claim7.holds Tryz.pinned (.plain (OpenSpec.ofChange differAskedSpec)) differAskedCard

/-- THE TIED CARD OF 'ephemeristlaw01.DifferSums'. -/
def differSumsCard : Claim7 := { stood := { row := differSumsRow, standIns := [], harness := (true, "9a542ac743afd7edcb6f3cbd989ac5534e57cf4118a8820287a37bb09b5416c8"), looks := true }, kinds := [], alts := [], laidByText := true, laidKinds := [.data, .data, .data, .data, .pinned], laidTests := true, laidLooks := .later }
def DifferSumsCardSaid : Prop := Claim7.holds Tryz.pinned (.plain (OpenSpec.ofChange differSumsSpec)) differSumsCard

/-- THE TIED CARD OF 'ephemeristlaw01.DifferTables'. -/
def differTablesCard : Claim7 := { stood := { row := differTablesRow, standIns := [], harness := (true, "9a542ac743afd7edcb6f3cbd989ac5534e57cf4118a8820287a37bb09b5416c8"), looks := true }, kinds := [], alts := [], laidByText := true, laidKinds := [.data, .data, .data, .data, .pinned], laidTests := true, laidLooks := .later }
def DifferTablesCardSaid : Prop := Claim7.holds Tryz.pinned (.plain (OpenSpec.ofChange differTablesSpec)) differTablesCard

/-- THE TIED CARD OF 'ephemeristlaw01.DifferPrints'. -/
def differPrintsCard : Claim7 := { stood := { row := differPrintsRow, standIns := [], harness := (true, "9a542ac743afd7edcb6f3cbd989ac5534e57cf4118a8820287a37bb09b5416c8"), looks := true }, kinds := [], alts := [], laidByText := true, laidKinds := [.data, .data, .data, .data, .pinned], laidTests := true, laidLooks := .later }
def DifferPrintsCardSaid : Prop := Claim7.holds Tryz.pinned (.plain (OpenSpec.ofChange differPrintsSpec)) differPrintsCard

/-- THE TIED CARD OF 'ephemeristlaw01.DifferReads'. -/
def differReadsCard : Claim7 := { stood := { row := differReadsRow, standIns := [], harness := (true, "9a542ac743afd7edcb6f3cbd989ac5534e57cf4118a8820287a37bb09b5416c8"), looks := true }, kinds := [], alts := [], laidByText := true, laidKinds := [.data, .data, .data, .data, .pinned], laidTests := true, laidLooks := .later }
def DifferReadsCardSaid : Prop := Claim7.holds Tryz.pinned (.plain (OpenSpec.ofChange differReadsSpec)) differReadsCard

/-- THE TIED CARD OF 'ephemeristlaw01.DifferSpoilt'. -/
def differSpoiltCard : Claim7 := { stood := { row := differSpoiltRow, standIns := [], harness := (true, "9a542ac743afd7edcb6f3cbd989ac5534e57cf4118a8820287a37bb09b5416c8"), looks := true }, kinds := [], alts := [], laidByText := true, laidKinds := [.data, .data, .data, .data, .pinned], laidTests := true, laidLooks := .later }
def DifferSpoiltCardSaid : Prop := Claim7.holds Tryz.pinned (.plain (OpenSpec.ofChange differSpoiltSpec)) differSpoiltCard

/-- THE SECOND FORM's CARD OF 'ephemeristlaw01.DifferSheets'. -/
def differSheetsUptoCard : Claim7 := { stood := { row := differSheetsUptoRow, standIns := [], harness := (true, "9a542ac743afd7edcb6f3cbd989ac5534e57cf4118a8820287a37bb09b5416c8"), looks := true }, kinds := [], alts := [], laidByText := true, laidKinds := [.data, .data, .data, .data, .pinned], laidTests := true, laidLooks := .later }
def DifferSheetsUptoCardSaid : Prop := Claim7.holds Tryz.pinned (.plain (OpenSpec.upto differSheetsSpec)) differSheetsUptoCard

/-- THE SECOND FORM's CARD OF 'ephemeristlaw01.DifferAgrees'. -/
def differAgreesUptoCard : Claim7 := { stood := { row := differAgreesUptoRow, standIns := [], harness := (true, "9a542ac743afd7edcb6f3cbd989ac5534e57cf4118a8820287a37bb09b5416c8"), looks := true }, kinds := [], alts := [], laidByText := true, laidKinds := [.data, .data, .data, .data, .pinned], laidTests := true, laidLooks := .later }
def DifferAgreesUptoCardSaid : Prop := Claim7.holds Tryz.pinned (.plain (OpenSpec.upto differAgreesSpec)) differAgreesUptoCard

/-- THE SECOND FORM's CARD OF 'ephemeristlaw01.DifferNotes'. -/
def differNotesUptoCard : Claim7 := { stood := { row := differNotesUptoRow, standIns := [], harness := (true, "9a542ac743afd7edcb6f3cbd989ac5534e57cf4118a8820287a37bb09b5416c8"), looks := true }, kinds := [], alts := [], laidByText := true, laidKinds := [.data, .data, .data, .data, .pinned], laidTests := true, laidLooks := .later }
def DifferNotesUptoCardSaid : Prop := Claim7.holds Tryz.pinned (.plain (OpenSpec.upto differNotesSpec)) differNotesUptoCard

/-- THE SECOND FORM's CARD OF 'ephemeristlaw01.DifferNexts'. -/
def differNextsUptoCard : Claim7 := { stood := { row := differNextsUptoRow, standIns := [], harness := (true, "9a542ac743afd7edcb6f3cbd989ac5534e57cf4118a8820287a37bb09b5416c8"), looks := true }, kinds := [], alts := [], laidByText := true, laidKinds := [.data, .data, .data, .data, .pinned], laidTests := true, laidLooks := .later }
def DifferNextsUptoCardSaid : Prop := Claim7.holds Tryz.pinned (.plain (OpenSpec.upto differNextsSpec)) differNextsUptoCard

/-- THE SECOND FORM's CARD OF 'ephemeristlaw01.DifferAsked'. -/
def differAskedUptoCard : Claim7 := { stood := { row := differAskedUptoRow, standIns := [], harness := (true, "9a542ac743afd7edcb6f3cbd989ac5534e57cf4118a8820287a37bb09b5416c8"), looks := true }, kinds := [], alts := [], laidByText := true, laidKinds := [.data, .data, .data, .data, .pinned], laidTests := true, laidLooks := .later }
def DifferAskedUptoCardSaid : Prop := Claim7.holds Tryz.pinned (.plain (OpenSpec.upto differAskedSpec)) differAskedUptoCard

/-- THE SECOND FORM's CARD OF 'ephemeristlaw01.DifferSums'. -/
def differSumsUptoCard : Claim7 := { stood := { row := differSumsUptoRow, standIns := [], harness := (true, "9a542ac743afd7edcb6f3cbd989ac5534e57cf4118a8820287a37bb09b5416c8"), looks := true }, kinds := [], alts := [], laidByText := true, laidKinds := [.data, .data, .data, .data, .pinned], laidTests := true, laidLooks := .later }
def DifferSumsUptoCardSaid : Prop := Claim7.holds Tryz.pinned (.plain (OpenSpec.upto differSumsSpec)) differSumsUptoCard

/-- THE SECOND FORM's CARD OF 'ephemeristlaw01.DifferTables'. -/
def differTablesUptoCard : Claim7 := { stood := { row := differTablesUptoRow, standIns := [], harness := (true, "9a542ac743afd7edcb6f3cbd989ac5534e57cf4118a8820287a37bb09b5416c8"), looks := true }, kinds := [], alts := [], laidByText := true, laidKinds := [.data, .data, .data, .data, .pinned], laidTests := true, laidLooks := .later }
def DifferTablesUptoCardSaid : Prop := Claim7.holds Tryz.pinned (.plain (OpenSpec.upto differTablesSpec)) differTablesUptoCard

/-- THE SECOND FORM's CARD OF 'ephemeristlaw01.DifferPrints'. -/
def differPrintsUptoCard : Claim7 := { stood := { row := differPrintsUptoRow, standIns := [], harness := (true, "9a542ac743afd7edcb6f3cbd989ac5534e57cf4118a8820287a37bb09b5416c8"), looks := true }, kinds := [], alts := [], laidByText := true, laidKinds := [.data, .data, .data, .data, .pinned], laidTests := true, laidLooks := .later }
def DifferPrintsUptoCardSaid : Prop := Claim7.holds Tryz.pinned (.plain (OpenSpec.upto differPrintsSpec)) differPrintsUptoCard

/-- THE SECOND FORM's CARD OF 'ephemeristlaw01.DifferReads'. -/
def differReadsUptoCard : Claim7 := { stood := { row := differReadsUptoRow, standIns := [], harness := (true, "9a542ac743afd7edcb6f3cbd989ac5534e57cf4118a8820287a37bb09b5416c8"), looks := true }, kinds := [], alts := [], laidByText := true, laidKinds := [.data, .data, .data, .data, .pinned], laidTests := true, laidLooks := .later }
def DifferReadsUptoCardSaid : Prop := Claim7.holds Tryz.pinned (.plain (OpenSpec.upto differReadsSpec)) differReadsUptoCard

/-- THE SECOND FORM's CARD OF 'ephemeristlaw01.DifferSpoilt'. -/
def differSpoiltUptoCard : Claim7 := { stood := { row := differSpoiltUptoRow, standIns := [], harness := (true, "9a542ac743afd7edcb6f3cbd989ac5534e57cf4118a8820287a37bb09b5416c8"), looks := true }, kinds := [], alts := [], laidByText := true, laidKinds := [.data, .data, .data, .data, .pinned], laidTests := true, laidLooks := .later }
def DifferSpoiltUptoCardSaid : Prop := Claim7.holds Tryz.pinned (.plain (OpenSpec.upto differSpoiltSpec)) differSpoiltUptoCard
end Rows
end Go.Proofs.YtflbianfhogdjaaGreatDoor
