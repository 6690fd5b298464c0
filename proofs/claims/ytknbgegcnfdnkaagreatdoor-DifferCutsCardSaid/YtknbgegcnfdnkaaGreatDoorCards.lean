/-
  DERIVED. GIVEN WITH THE SEED: THE CARDS: each row of YtknbgegcnfdnkaaGreatDoorRows.lean that lists a variable, with what it lists TIED to the program's text (the seventh form; the later family's looks); each row that meets fmt, with fmt's text TOLD by the authors' own Lean function (tested against real Go, not proved from fmt's source: count such statements apart). THE CARD IS WHAT COUNTS. Prove the row's statement (the work); the ties are given (YtknbgegcnfdnkaaGreatDoorTie.lean); close each card by the builder's one call (the guide's Derived/Test/ToyasCard.lean, 'card_holds'). Laid BY PROGRAM, IN A SANDBOX (cutbox-door.mjs). By AI agents, Wed Nov 11 2026. No macro, syntax, notation, axiom, sorry.
-/
import Derived.Test.YtknbgegcnfdnkaaGreatDoorRows
import GoSem.ClaimSeven
namespace Go.Proofs.YtknbgegcnfdnkaaGreatDoor
namespace Rows

/-- THE TIED CARD OF 'ephemeristlaw01.DifferAdded'. -/
def differAddedCard : Claim7 := { stood := { row := differAddedRow, standIns := [], harness := (true, "d10b68e6a0c25b14fab4c5b71042fa3c3e8e84e3c7cd95ea514fc863592e91e4"), looks := true }, kinds := [], alts := [], laidByText := true, laidKinds := [.data, .data, .data, .data, .pinned], laidTests := true, laidLooks := .later }
def DifferAddedCardSaid : Prop := Claim7.holds Tryz.pinned (.plain (OpenSpec.ofChange differAddedSpec)) differAddedCard

/-- THE TIED CARD OF 'ephemeristlaw01.DifferRows'. -/
def differRowsCard : Claim7 := { stood := { row := differRowsRow, standIns := [], harness := (true, "d10b68e6a0c25b14fab4c5b71042fa3c3e8e84e3c7cd95ea514fc863592e91e4"), looks := true }, kinds := [], alts := [], laidByText := true, laidKinds := [.data, .data, .data, .data, .pinned], laidTests := true, laidLooks := .later }
def DifferRowsCardSaid : Prop := Claim7.holds Tryz.pinned (.plain (OpenSpec.ofChange differRowsSpec)) differRowsCard

/-- THE TIED CARD OF 'ephemeristlaw01.DifferBounds'. -/
def differBoundsCard : Claim7 := { stood := { row := differBoundsRow, standIns := [], harness := (true, "d10b68e6a0c25b14fab4c5b71042fa3c3e8e84e3c7cd95ea514fc863592e91e4"), looks := true }, kinds := [], alts := [], laidByText := true, laidKinds := [.data, .data, .data, .data, .pinned], laidTests := true, laidLooks := .later }
def DifferBoundsCardSaid : Prop := Claim7.holds Tryz.pinned (.plain (OpenSpec.ofChange differBoundsSpec)) differBoundsCard

/-- THE TIED CARD OF 'ephemeristlaw01.DifferSures'. -/
def differSuresCard : Claim7 := { stood := { row := differSuresRow, standIns := [], harness := (true, "d10b68e6a0c25b14fab4c5b71042fa3c3e8e84e3c7cd95ea514fc863592e91e4"), looks := true }, kinds := [], alts := [], laidByText := true, laidKinds := [.data, .data, .data, .data, .pinned], laidTests := true, laidLooks := .later }
def DifferSuresCardSaid : Prop := Claim7.holds Tryz.pinned (.plain (OpenSpec.ofChange differSuresSpec)) differSuresCard

/-- THE TIED CARD OF 'ephemeristlaw01.DifferFirm'. -/
def differFirmCard : Claim7 := { stood := { row := differFirmRow, standIns := [], harness := (true, "d10b68e6a0c25b14fab4c5b71042fa3c3e8e84e3c7cd95ea514fc863592e91e4"), looks := true }, kinds := [], alts := [], laidByText := true, laidKinds := [.data, .data, .data, .data, .pinned], laidTests := true, laidLooks := .later }
def DifferFirmCardSaid : Prop := Claim7.holds Tryz.pinned (.plain (OpenSpec.ofChange differFirmSpec)) differFirmCard

/-- THE TIED CARD OF 'ephemeristlaw01.DifferWidests'. -/
def differWidestsCard : Claim7 := { stood := { row := differWidestsRow, standIns := [], harness := (true, "d10b68e6a0c25b14fab4c5b71042fa3c3e8e84e3c7cd95ea514fc863592e91e4"), looks := true }, kinds := [], alts := [], laidByText := true, laidKinds := [.data, .data, .data, .data, .pinned], laidTests := true, laidLooks := .later }
def DifferWidestsCardSaid : Prop := Claim7.holds Tryz.pinned (.plain (OpenSpec.ofChange differWidestsSpec)) differWidestsCard

/-- THE TIED CARD OF 'ephemeristlaw01.DifferLoose'. -/
def differLooseCard : Claim7 := { stood := { row := differLooseRow, standIns := [], harness := (true, "d10b68e6a0c25b14fab4c5b71042fa3c3e8e84e3c7cd95ea514fc863592e91e4"), looks := true }, kinds := [], alts := [], laidByText := true, laidKinds := [.data, .data, .data, .data, .pinned], laidTests := true, laidLooks := .later }
def DifferLooseCardSaid : Prop := Claim7.holds Tryz.pinned (.plain (OpenSpec.ofChange differLooseSpec)) differLooseCard

/-- THE TIED CARD OF 'ephemeristlaw01.DifferClimbs'. -/
def differClimbsCard : Claim7 := { stood := { row := differClimbsRow, standIns := [], harness := (true, "d10b68e6a0c25b14fab4c5b71042fa3c3e8e84e3c7cd95ea514fc863592e91e4"), looks := true }, kinds := [], alts := [], laidByText := true, laidKinds := [.data, .data, .data, .data, .pinned], laidTests := true, laidLooks := .later }
def DifferClimbsCardSaid : Prop := Claim7.holds Tryz.pinned (.plain (OpenSpec.ofChange differClimbsSpec)) differClimbsCard

/-- THE TIED CARD OF 'ephemeristlaw01.DifferUpward'. -/
def differUpwardCard : Claim7 := { stood := { row := differUpwardRow, standIns := [], harness := (true, "d10b68e6a0c25b14fab4c5b71042fa3c3e8e84e3c7cd95ea514fc863592e91e4"), looks := true }, kinds := [], alts := [], laidByText := true, laidKinds := [.data, .data, .data, .data, .pinned], laidTests := true, laidLooks := .later }
def DifferUpwardCardSaid : Prop := Claim7.holds Tryz.pinned (.plain (OpenSpec.ofChange differUpwardSpec)) differUpwardCard

/-- THE TIED CARD OF 'ephemeristlaw01.DifferCuts'. -/
def differCutsCard : Claim7 := { stood := { row := differCutsRow, standIns := [], harness := (true, "d10b68e6a0c25b14fab4c5b71042fa3c3e8e84e3c7cd95ea514fc863592e91e4"), looks := true }, kinds := [], alts := [], laidByText := true, laidKinds := [.data, .data, .data, .data, .pinned], laidTests := true, laidLooks := .later }
def DifferCutsCardSaid : Prop := Claim7.holds Tryz.pinned (.plain (OpenSpec.ofChange differCutsSpec)) differCutsCard

/-- THE SECOND FORM's CARD OF 'ephemeristlaw01.DifferAdded'. -/
def differAddedUptoCard : Claim7 := { stood := { row := differAddedUptoRow, standIns := [], harness := (true, "d10b68e6a0c25b14fab4c5b71042fa3c3e8e84e3c7cd95ea514fc863592e91e4"), looks := true }, kinds := [], alts := [], laidByText := true, laidKinds := [.data, .data, .data, .data, .pinned], laidTests := true, laidLooks := .later }
def DifferAddedUptoCardSaid : Prop := Claim7.holds Tryz.pinned (.plain (OpenSpec.upto differAddedSpec)) differAddedUptoCard

/-- THE SECOND FORM's CARD OF 'ephemeristlaw01.DifferRows'. -/
def differRowsUptoCard : Claim7 := { stood := { row := differRowsUptoRow, standIns := [], harness := (true, "d10b68e6a0c25b14fab4c5b71042fa3c3e8e84e3c7cd95ea514fc863592e91e4"), looks := true }, kinds := [], alts := [], laidByText := true, laidKinds := [.data, .data, .data, .data, .pinned], laidTests := true, laidLooks := .later }
def DifferRowsUptoCardSaid : Prop := Claim7.holds Tryz.pinned (.plain (OpenSpec.upto differRowsSpec)) differRowsUptoCard

/-- THE SECOND FORM's CARD OF 'ephemeristlaw01.DifferBounds'. -/
def differBoundsUptoCard : Claim7 := { stood := { row := differBoundsUptoRow, standIns := [], harness := (true, "d10b68e6a0c25b14fab4c5b71042fa3c3e8e84e3c7cd95ea514fc863592e91e4"), looks := true }, kinds := [], alts := [], laidByText := true, laidKinds := [.data, .data, .data, .data, .pinned], laidTests := true, laidLooks := .later }
def DifferBoundsUptoCardSaid : Prop := Claim7.holds Tryz.pinned (.plain (OpenSpec.upto differBoundsSpec)) differBoundsUptoCard

/-- THE SECOND FORM's CARD OF 'ephemeristlaw01.DifferSures'. -/
def differSuresUptoCard : Claim7 := { stood := { row := differSuresUptoRow, standIns := [], harness := (true, "d10b68e6a0c25b14fab4c5b71042fa3c3e8e84e3c7cd95ea514fc863592e91e4"), looks := true }, kinds := [], alts := [], laidByText := true, laidKinds := [.data, .data, .data, .data, .pinned], laidTests := true, laidLooks := .later }
def DifferSuresUptoCardSaid : Prop := Claim7.holds Tryz.pinned (.plain (OpenSpec.upto differSuresSpec)) differSuresUptoCard

/-- THE SECOND FORM's CARD OF 'ephemeristlaw01.DifferFirm'. -/
def differFirmUptoCard : Claim7 := { stood := { row := differFirmUptoRow, standIns := [], harness := (true, "d10b68e6a0c25b14fab4c5b71042fa3c3e8e84e3c7cd95ea514fc863592e91e4"), looks := true }, kinds := [], alts := [], laidByText := true, laidKinds := [.data, .data, .data, .data, .pinned], laidTests := true, laidLooks := .later }
def DifferFirmUptoCardSaid : Prop := Claim7.holds Tryz.pinned (.plain (OpenSpec.upto differFirmSpec)) differFirmUptoCard

/-- THE SECOND FORM's CARD OF 'ephemeristlaw01.DifferWidests'. -/
def differWidestsUptoCard : Claim7 := { stood := { row := differWidestsUptoRow, standIns := [], harness := (true, "d10b68e6a0c25b14fab4c5b71042fa3c3e8e84e3c7cd95ea514fc863592e91e4"), looks := true }, kinds := [], alts := [], laidByText := true, laidKinds := [.data, .data, .data, .data, .pinned], laidTests := true, laidLooks := .later }
def DifferWidestsUptoCardSaid : Prop := Claim7.holds Tryz.pinned (.plain (OpenSpec.upto differWidestsSpec)) differWidestsUptoCard

/-- THE SECOND FORM's CARD OF 'ephemeristlaw01.DifferLoose'. -/
def differLooseUptoCard : Claim7 := { stood := { row := differLooseUptoRow, standIns := [], harness := (true, "d10b68e6a0c25b14fab4c5b71042fa3c3e8e84e3c7cd95ea514fc863592e91e4"), looks := true }, kinds := [], alts := [], laidByText := true, laidKinds := [.data, .data, .data, .data, .pinned], laidTests := true, laidLooks := .later }
def DifferLooseUptoCardSaid : Prop := Claim7.holds Tryz.pinned (.plain (OpenSpec.upto differLooseSpec)) differLooseUptoCard

/-- THE SECOND FORM's CARD OF 'ephemeristlaw01.DifferClimbs'. -/
def differClimbsUptoCard : Claim7 := { stood := { row := differClimbsUptoRow, standIns := [], harness := (true, "d10b68e6a0c25b14fab4c5b71042fa3c3e8e84e3c7cd95ea514fc863592e91e4"), looks := true }, kinds := [], alts := [], laidByText := true, laidKinds := [.data, .data, .data, .data, .pinned], laidTests := true, laidLooks := .later }
def DifferClimbsUptoCardSaid : Prop := Claim7.holds Tryz.pinned (.plain (OpenSpec.upto differClimbsSpec)) differClimbsUptoCard

/-- THE SECOND FORM's CARD OF 'ephemeristlaw01.DifferUpward'. -/
def differUpwardUptoCard : Claim7 := { stood := { row := differUpwardUptoRow, standIns := [], harness := (true, "d10b68e6a0c25b14fab4c5b71042fa3c3e8e84e3c7cd95ea514fc863592e91e4"), looks := true }, kinds := [], alts := [], laidByText := true, laidKinds := [.data, .data, .data, .data, .pinned], laidTests := true, laidLooks := .later }
def DifferUpwardUptoCardSaid : Prop := Claim7.holds Tryz.pinned (.plain (OpenSpec.upto differUpwardSpec)) differUpwardUptoCard

/-- THE SECOND FORM's CARD OF 'ephemeristlaw01.DifferCuts'. -/
def differCutsUptoCard : Claim7 := { stood := { row := differCutsUptoRow, standIns := [], harness := (true, "d10b68e6a0c25b14fab4c5b71042fa3c3e8e84e3c7cd95ea514fc863592e91e4"), looks := true }, kinds := [], alts := [], laidByText := true, laidKinds := [.data, .data, .data, .data, .pinned], laidTests := true, laidLooks := .later }
def DifferCutsUptoCardSaid : Prop := Claim7.holds Tryz.pinned (.plain (OpenSpec.upto differCutsSpec)) differCutsUptoCard
end Rows
end Go.Proofs.YtknbgegcnfdnkaaGreatDoor
