/-
  DERIVED. GIVEN WITH THE SEED: THE CARDS: each row of YtcmdbmcggfmmnaaGreatDoorRows.lean that lists a variable, with what it lists TIED to the program's text (the seventh form; the later family's looks); each row that meets fmt, with fmt's text TOLD by the authors' own Lean function (tested against real Go, not proved from fmt's source: count such statements apart). THE CARD IS WHAT COUNTS. Prove the row's statement (the work); the ties are given (YtcmdbmcggfmmnaaGreatDoorTie.lean); close each card by the builder's one call (the guide's Derived/Test/ToyasCard.lean, 'card_holds'). Laid BY PROGRAM, IN A SANDBOX (cutbox-door.mjs). By AI agents, Wed Nov 11 2026. No macro, syntax, notation, axiom, sorry.
-/
import Derived.Test.YtcmdbmcggfmmnaaGreatDoorRows
import GoSem.ClaimSeven
namespace Go.Proofs.YtcmdbmcggfmmnaaGreatDoor
namespace Rows

/-- THE TIED CARD OF 'ephemeristlaw01.DifferReads'. -/
def differReadsCard : Claim7 := { stood := { row := differReadsRow, standIns := [], harness := (true, "15cb5935d4d8ef802efdc98496c82d79824b630dbcd1602acbb72c8493dcdd90"), looks := true }, kinds := [], alts := [], laidByText := true, laidKinds := [.data, .data, .data, .data, .pinned], laidTests := true, laidLooks := .later }
def DifferReadsCardSaid : Prop := Claim7.holds Tryz.pinned (.plain (OpenSpec.ofChange differReadsSpec)) differReadsCard

/-- THE TIED CARD OF 'ephemeristlaw01.DifferSpoilt'. -/
def differSpoiltCard : Claim7 := { stood := { row := differSpoiltRow, standIns := [], harness := (true, "15cb5935d4d8ef802efdc98496c82d79824b630dbcd1602acbb72c8493dcdd90"), looks := true }, kinds := [], alts := [], laidByText := true, laidKinds := [.data, .data, .data, .data, .pinned], laidTests := true, laidLooks := .later }
def DifferSpoiltCardSaid : Prop := Claim7.holds Tryz.pinned (.plain (OpenSpec.ofChange differSpoiltSpec)) differSpoiltCard

/-- THE TIED CARD OF 'ephemeristlaw01.DifferSheets'. -/
def differSheetsCard : Claim7 := { stood := { row := differSheetsRow, standIns := [], harness := (true, "15cb5935d4d8ef802efdc98496c82d79824b630dbcd1602acbb72c8493dcdd90"), looks := true }, kinds := [], alts := [], laidByText := true, laidKinds := [.data, .data, .data, .data, .pinned], laidTests := true, laidLooks := .later }
def DifferSheetsCardSaid : Prop := Claim7.holds Tryz.pinned (.plain (OpenSpec.ofChange differSheetsSpec)) differSheetsCard

/-- THE SECOND FORM's CARD OF 'ephemeristlaw01.DifferReads'. -/
def differReadsUptoCard : Claim7 := { stood := { row := differReadsUptoRow, standIns := [], harness := (true, "15cb5935d4d8ef802efdc98496c82d79824b630dbcd1602acbb72c8493dcdd90"), looks := true }, kinds := [], alts := [], laidByText := true, laidKinds := [.data, .data, .data, .data, .pinned], laidTests := true, laidLooks := .later }
def DifferReadsUptoCardSaid : Prop := Claim7.holds Tryz.pinned (.plain (OpenSpec.upto differReadsSpec)) differReadsUptoCard

/-- THE SECOND FORM's CARD OF 'ephemeristlaw01.DifferSpoilt'. -/
def differSpoiltUptoCard : Claim7 := { stood := { row := differSpoiltUptoRow, standIns := [], harness := (true, "15cb5935d4d8ef802efdc98496c82d79824b630dbcd1602acbb72c8493dcdd90"), looks := true }, kinds := [], alts := [], laidByText := true, laidKinds := [.data, .data, .data, .data, .pinned], laidTests := true, laidLooks := .later }
def DifferSpoiltUptoCardSaid : Prop := Claim7.holds Tryz.pinned (.plain (OpenSpec.upto differSpoiltSpec)) differSpoiltUptoCard

/-- THE SECOND FORM's CARD OF 'ephemeristlaw01.DifferSheets'. -/
def differSheetsUptoCard : Claim7 := { stood := { row := differSheetsUptoRow, standIns := [], harness := (true, "15cb5935d4d8ef802efdc98496c82d79824b630dbcd1602acbb72c8493dcdd90"), looks := true }, kinds := [], alts := [], laidByText := true, laidKinds := [.data, .data, .data, .data, .pinned], laidTests := true, laidLooks := .later }
def DifferSheetsUptoCardSaid : Prop := Claim7.holds Tryz.pinned (.plain (OpenSpec.upto differSheetsSpec)) differSheetsUptoCard
end Rows
end Go.Proofs.YtcmdbmcggfmmnaaGreatDoor
