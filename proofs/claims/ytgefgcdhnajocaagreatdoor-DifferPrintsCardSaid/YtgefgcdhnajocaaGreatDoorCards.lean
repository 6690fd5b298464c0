/-
  DERIVED. GIVEN WITH THE SEED: THE CARDS: each row of YtgefgcdhnajocaaGreatDoorRows.lean that lists a variable, with what it lists TIED to the program's text (the seventh form; the later family's looks); each row that meets fmt, with fmt's text TOLD by the authors' own Lean function (tested against real Go, not proved from fmt's source: count such statements apart). THE CARD IS WHAT COUNTS. Prove the row's statement (the work); the ties are given (YtgefgcdhnajocaaGreatDoorTie.lean); close each card by the builder's one call (the guide's Derived/Test/ToyasCard.lean, 'card_holds'). Laid BY PROGRAM, IN A SANDBOX (cutbox-door.mjs). By AI agents, Wed Nov 11 2026. No macro, syntax, notation, axiom, sorry.
-/
import Derived.Test.YtgefgcdhnajocaaGreatDoorRows
import GoSem.ClaimSeven
namespace Go.Proofs.YtgefgcdhnajocaaGreatDoor
namespace Rows

/-- THE TIED CARD OF 'ephemeristlaw01.DifferPrints'. -/
def differPrintsCard : Claim7 := { stood := { row := differPrintsRow, standIns := [], harness := (true, "17e287eddc80e72b3d1414ba8a48c47e6c465e578cf6cd2aa5ce0611fd86f656"), looks := true }, kinds := [], alts := [], laidByText := true, laidKinds := [.data, .data, .data, .data, .pinned], laidTests := true, laidLooks := .later }
def DifferPrintsCardSaid : Prop := Claim7.holds Tryz.pinned (.plain (OpenSpec.ofChange differPrintsSpec)) differPrintsCard

/-- THE TIED CARD OF 'ephemeristlaw01.DifferReads'. -/
def differReadsCard : Claim7 := { stood := { row := differReadsRow, standIns := [], harness := (true, "17e287eddc80e72b3d1414ba8a48c47e6c465e578cf6cd2aa5ce0611fd86f656"), looks := true }, kinds := [], alts := [], laidByText := true, laidKinds := [.data, .data, .data, .data, .pinned], laidTests := true, laidLooks := .later }
def DifferReadsCardSaid : Prop := Claim7.holds Tryz.pinned (.plain (OpenSpec.ofChange differReadsSpec)) differReadsCard

/-- THE SECOND FORM's CARD OF 'ephemeristlaw01.DifferPrints'. -/
def differPrintsUptoCard : Claim7 := { stood := { row := differPrintsUptoRow, standIns := [], harness := (true, "17e287eddc80e72b3d1414ba8a48c47e6c465e578cf6cd2aa5ce0611fd86f656"), looks := true }, kinds := [], alts := [], laidByText := true, laidKinds := [.data, .data, .data, .data, .pinned], laidTests := true, laidLooks := .later }
def DifferPrintsUptoCardSaid : Prop := Claim7.holds Tryz.pinned (.plain (OpenSpec.upto differPrintsSpec)) differPrintsUptoCard

/-- THE SECOND FORM's CARD OF 'ephemeristlaw01.DifferReads'. -/
def differReadsUptoCard : Claim7 := { stood := { row := differReadsUptoRow, standIns := [], harness := (true, "17e287eddc80e72b3d1414ba8a48c47e6c465e578cf6cd2aa5ce0611fd86f656"), looks := true }, kinds := [], alts := [], laidByText := true, laidKinds := [.data, .data, .data, .data, .pinned], laidTests := true, laidLooks := .later }
def DifferReadsUptoCardSaid : Prop := Claim7.holds Tryz.pinned (.plain (OpenSpec.upto differReadsSpec)) differReadsUptoCard
end Rows
end Go.Proofs.YtgefgcdhnajocaaGreatDoor
