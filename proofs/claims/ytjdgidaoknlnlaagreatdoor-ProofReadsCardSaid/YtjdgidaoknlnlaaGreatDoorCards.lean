/-
  DERIVED. GIVEN WITH THE SEED: THE CARDS: each row of YtjdgidaoknlnlaaGreatDoorRows.lean that lists a variable, with what it lists TIED to the program's text (the seventh form; the later family's looks); each row that meets fmt, with fmt's text TOLD by the authors' own Lean function (tested against real Go, not proved from fmt's source: count such statements apart). THE CARD IS WHAT COUNTS. Prove the row's statement (the work); the ties are given (YtjdgidaoknlnlaaGreatDoorTie.lean); close each card by the builder's one call (the guide's Derived/Test/ToyasCard.lean, 'card_holds'). Laid BY PROGRAM, IN A SANDBOX (cutbox-door.mjs). By AI agents, Wed Nov 11 2026. No macro, syntax, notation, axiom, sorry.
-/
import Derived.Test.YtjdgidaoknlnlaaGreatDoorRows
import GoSem.ClaimSeven
namespace Go.Proofs.YtjdgidaoknlnlaaGreatDoor
namespace Rows

/-- THE TIED CARD OF 'ephemeristlaw09.ProofErrors'. -/
def proofErrorsCard : Claim7 := { stood := { row := proofErrorsRow, standIns := [], harness := (true, "495f881b3e202b99a64ff79fc2e3da44c1da7b54a021e43e5cad857e0faeda86"), looks := true }, kinds := [], alts := [], laidByText := true, laidKinds := [.data, .data, .data, .data, .pinned], laidTests := true, laidLooks := .later }
def ProofErrorsCardSaid : Prop := Claim7.holds Tryz.pinned (.plain (OpenSpec.ofChange proofErrorsSpec)) proofErrorsCard

/-- THE TIED CARD OF 'ephemeristlaw09.ProofKinds'. -/
def proofKindsCard : Claim7 := { stood := { row := proofKindsRow, standIns := [], harness := (true, "495f881b3e202b99a64ff79fc2e3da44c1da7b54a021e43e5cad857e0faeda86"), looks := true }, kinds := [], alts := [], laidByText := true, laidKinds := [.data, .data, .data, .data, .pinned], laidTests := true, laidLooks := .later }
def ProofKindsCardSaid : Prop := Claim7.holds Tryz.pinned (.plain (OpenSpec.ofChange proofKindsSpec)) proofKindsCard

/-- THE TIED CARD OF 'ephemeristlaw09.ProofSeen'. -/
def proofSeenCard : Claim7 := { stood := { row := proofSeenRow, standIns := [], harness := (true, "495f881b3e202b99a64ff79fc2e3da44c1da7b54a021e43e5cad857e0faeda86"), looks := true }, kinds := [], alts := [], laidByText := true, laidKinds := [.data, .data, .data, .data, .pinned], laidTests := true, laidLooks := .later }
def ProofSeenCardSaid : Prop := Claim7.holds Tryz.pinned (.plain (OpenSpec.ofChange proofSeenSpec)) proofSeenCard

/-- THE TIED CARD OF 'ephemeristlaw09.ProofWaste'. -/
def proofWasteCard : Claim7 := { stood := { row := proofWasteRow, standIns := [], harness := (true, "495f881b3e202b99a64ff79fc2e3da44c1da7b54a021e43e5cad857e0faeda86"), looks := true }, kinds := [], alts := [], laidByText := true, laidKinds := [.data, .data, .data, .data, .pinned], laidTests := true, laidLooks := .later }
def ProofWasteCardSaid : Prop := Claim7.holds Tryz.pinned (.plain (OpenSpec.ofChange proofWasteSpec)) proofWasteCard

/-- THE TIED CARD OF 'ephemeristlaw09.ProofFurther'. -/
def proofFurtherCard : Claim7 := { stood := { row := proofFurtherRow, standIns := [], harness := (true, "495f881b3e202b99a64ff79fc2e3da44c1da7b54a021e43e5cad857e0faeda86"), looks := true }, kinds := [], alts := [], laidByText := true, laidKinds := [.data, .data, .data, .data, .pinned], laidTests := true, laidLooks := .later }
def ProofFurtherCardSaid : Prop := Claim7.holds Tryz.pinned (.plain (OpenSpec.ofChange proofFurtherSpec)) proofFurtherCard

/-- THE TIED CARD OF 'ephemeristlaw09.ProofBest'. -/
def proofBestCard : Claim7 := { stood := { row := proofBestRow, standIns := [], harness := (true, "495f881b3e202b99a64ff79fc2e3da44c1da7b54a021e43e5cad857e0faeda86"), looks := true }, kinds := [], alts := [], laidByText := true, laidKinds := [.data, .data, .data, .data, .pinned], laidTests := true, laidLooks := .later }
def ProofBestCardSaid : Prop := Claim7.holds Tryz.pinned (.plain (OpenSpec.ofChange proofBestSpec)) proofBestCard

/-- THE TIED CARD OF 'ephemeristlaw09.ProofEnough'. -/
def proofEnoughCard : Claim7 := { stood := { row := proofEnoughRow, standIns := [], harness := (true, "495f881b3e202b99a64ff79fc2e3da44c1da7b54a021e43e5cad857e0faeda86"), looks := true }, kinds := [], alts := [], laidByText := true, laidKinds := [.data, .data, .data, .data, .pinned], laidTests := true, laidLooks := .later }
def ProofEnoughCardSaid : Prop := Claim7.holds Tryz.pinned (.plain (OpenSpec.ofChange proofEnoughSpec)) proofEnoughCard

/-- THE TIED CARD OF 'ephemeristlaw09.ProofLess'. -/
def proofLessCard : Claim7 := { stood := { row := proofLessRow, standIns := [], harness := (true, "495f881b3e202b99a64ff79fc2e3da44c1da7b54a021e43e5cad857e0faeda86"), looks := true }, kinds := [], alts := [], laidByText := true, laidKinds := [.data, .data, .data, .data, .pinned], laidTests := true, laidLooks := .later }
def ProofLessCardSaid : Prop := Claim7.holds Tryz.pinned (.plain (OpenSpec.ofChange proofLessSpec)) proofLessCard

/-- THE TIED CARD OF 'ephemeristlaw09.ProofPrints'. -/
def proofPrintsCard : Claim7 := { stood := { row := proofPrintsRow, standIns := [], harness := (true, "495f881b3e202b99a64ff79fc2e3da44c1da7b54a021e43e5cad857e0faeda86"), looks := true }, kinds := [], alts := [], laidByText := true, laidKinds := [.data, .data, .data, .data, .pinned], laidTests := true, laidLooks := .later }
def ProofPrintsCardSaid : Prop := Claim7.holds Tryz.pinned (.plain (OpenSpec.ofChange proofPrintsSpec)) proofPrintsCard

/-- THE TIED CARD OF 'ephemeristlaw09.ProofReads'. -/
def proofReadsCard : Claim7 := { stood := { row := proofReadsRow, standIns := [], harness := (true, "495f881b3e202b99a64ff79fc2e3da44c1da7b54a021e43e5cad857e0faeda86"), looks := true }, kinds := [], alts := [], laidByText := true, laidKinds := [.data, .data, .data, .data, .pinned], laidTests := true, laidLooks := .later }
def ProofReadsCardSaid : Prop := Claim7.holds Tryz.pinned (.plain (OpenSpec.ofChange proofReadsSpec)) proofReadsCard

/-- THE TIED CARD OF 'ephemeristlaw09.ProofSpoilt'. -/
def proofSpoiltCard : Claim7 := { stood := { row := proofSpoiltRow, standIns := [], harness := (true, "495f881b3e202b99a64ff79fc2e3da44c1da7b54a021e43e5cad857e0faeda86"), looks := true }, kinds := [], alts := [], laidByText := true, laidKinds := [.data, .data, .data, .data, .pinned], laidTests := true, laidLooks := .later }
def ProofSpoiltCardSaid : Prop := Claim7.holds Tryz.pinned (.plain (OpenSpec.ofChange proofSpoiltSpec)) proofSpoiltCard

/-- THE SECOND FORM's CARD OF 'ephemeristlaw09.ProofErrors'. -/
def proofErrorsUptoCard : Claim7 := { stood := { row := proofErrorsUptoRow, standIns := [], harness := (true, "495f881b3e202b99a64ff79fc2e3da44c1da7b54a021e43e5cad857e0faeda86"), looks := true }, kinds := [], alts := [], laidByText := true, laidKinds := [.data, .data, .data, .data, .pinned], laidTests := true, laidLooks := .later }
def ProofErrorsUptoCardSaid : Prop := Claim7.holds Tryz.pinned (.plain (OpenSpec.upto proofErrorsSpec)) proofErrorsUptoCard

/-- THE SECOND FORM's CARD OF 'ephemeristlaw09.ProofKinds'. -/
def proofKindsUptoCard : Claim7 := { stood := { row := proofKindsUptoRow, standIns := [], harness := (true, "495f881b3e202b99a64ff79fc2e3da44c1da7b54a021e43e5cad857e0faeda86"), looks := true }, kinds := [], alts := [], laidByText := true, laidKinds := [.data, .data, .data, .data, .pinned], laidTests := true, laidLooks := .later }
def ProofKindsUptoCardSaid : Prop := Claim7.holds Tryz.pinned (.plain (OpenSpec.upto proofKindsSpec)) proofKindsUptoCard

/-- THE SECOND FORM's CARD OF 'ephemeristlaw09.ProofSeen'. -/
def proofSeenUptoCard : Claim7 := { stood := { row := proofSeenUptoRow, standIns := [], harness := (true, "495f881b3e202b99a64ff79fc2e3da44c1da7b54a021e43e5cad857e0faeda86"), looks := true }, kinds := [], alts := [], laidByText := true, laidKinds := [.data, .data, .data, .data, .pinned], laidTests := true, laidLooks := .later }
def ProofSeenUptoCardSaid : Prop := Claim7.holds Tryz.pinned (.plain (OpenSpec.upto proofSeenSpec)) proofSeenUptoCard

/-- THE SECOND FORM's CARD OF 'ephemeristlaw09.ProofWaste'. -/
def proofWasteUptoCard : Claim7 := { stood := { row := proofWasteUptoRow, standIns := [], harness := (true, "495f881b3e202b99a64ff79fc2e3da44c1da7b54a021e43e5cad857e0faeda86"), looks := true }, kinds := [], alts := [], laidByText := true, laidKinds := [.data, .data, .data, .data, .pinned], laidTests := true, laidLooks := .later }
def ProofWasteUptoCardSaid : Prop := Claim7.holds Tryz.pinned (.plain (OpenSpec.upto proofWasteSpec)) proofWasteUptoCard

/-- THE SECOND FORM's CARD OF 'ephemeristlaw09.ProofFurther'. -/
def proofFurtherUptoCard : Claim7 := { stood := { row := proofFurtherUptoRow, standIns := [], harness := (true, "495f881b3e202b99a64ff79fc2e3da44c1da7b54a021e43e5cad857e0faeda86"), looks := true }, kinds := [], alts := [], laidByText := true, laidKinds := [.data, .data, .data, .data, .pinned], laidTests := true, laidLooks := .later }
def ProofFurtherUptoCardSaid : Prop := Claim7.holds Tryz.pinned (.plain (OpenSpec.upto proofFurtherSpec)) proofFurtherUptoCard

/-- THE SECOND FORM's CARD OF 'ephemeristlaw09.ProofBest'. -/
def proofBestUptoCard : Claim7 := { stood := { row := proofBestUptoRow, standIns := [], harness := (true, "495f881b3e202b99a64ff79fc2e3da44c1da7b54a021e43e5cad857e0faeda86"), looks := true }, kinds := [], alts := [], laidByText := true, laidKinds := [.data, .data, .data, .data, .pinned], laidTests := true, laidLooks := .later }
def ProofBestUptoCardSaid : Prop := Claim7.holds Tryz.pinned (.plain (OpenSpec.upto proofBestSpec)) proofBestUptoCard

/-- THE SECOND FORM's CARD OF 'ephemeristlaw09.ProofEnough'. -/
def proofEnoughUptoCard : Claim7 := { stood := { row := proofEnoughUptoRow, standIns := [], harness := (true, "495f881b3e202b99a64ff79fc2e3da44c1da7b54a021e43e5cad857e0faeda86"), looks := true }, kinds := [], alts := [], laidByText := true, laidKinds := [.data, .data, .data, .data, .pinned], laidTests := true, laidLooks := .later }
def ProofEnoughUptoCardSaid : Prop := Claim7.holds Tryz.pinned (.plain (OpenSpec.upto proofEnoughSpec)) proofEnoughUptoCard

/-- THE SECOND FORM's CARD OF 'ephemeristlaw09.ProofLess'. -/
def proofLessUptoCard : Claim7 := { stood := { row := proofLessUptoRow, standIns := [], harness := (true, "495f881b3e202b99a64ff79fc2e3da44c1da7b54a021e43e5cad857e0faeda86"), looks := true }, kinds := [], alts := [], laidByText := true, laidKinds := [.data, .data, .data, .data, .pinned], laidTests := true, laidLooks := .later }
def ProofLessUptoCardSaid : Prop := Claim7.holds Tryz.pinned (.plain (OpenSpec.upto proofLessSpec)) proofLessUptoCard

/-- THE SECOND FORM's CARD OF 'ephemeristlaw09.ProofPrints'. -/
def proofPrintsUptoCard : Claim7 := { stood := { row := proofPrintsUptoRow, standIns := [], harness := (true, "495f881b3e202b99a64ff79fc2e3da44c1da7b54a021e43e5cad857e0faeda86"), looks := true }, kinds := [], alts := [], laidByText := true, laidKinds := [.data, .data, .data, .data, .pinned], laidTests := true, laidLooks := .later }
def ProofPrintsUptoCardSaid : Prop := Claim7.holds Tryz.pinned (.plain (OpenSpec.upto proofPrintsSpec)) proofPrintsUptoCard

/-- THE SECOND FORM's CARD OF 'ephemeristlaw09.ProofReads'. -/
def proofReadsUptoCard : Claim7 := { stood := { row := proofReadsUptoRow, standIns := [], harness := (true, "495f881b3e202b99a64ff79fc2e3da44c1da7b54a021e43e5cad857e0faeda86"), looks := true }, kinds := [], alts := [], laidByText := true, laidKinds := [.data, .data, .data, .data, .pinned], laidTests := true, laidLooks := .later }
def ProofReadsUptoCardSaid : Prop := Claim7.holds Tryz.pinned (.plain (OpenSpec.upto proofReadsSpec)) proofReadsUptoCard

/-- THE SECOND FORM's CARD OF 'ephemeristlaw09.ProofSpoilt'. -/
def proofSpoiltUptoCard : Claim7 := { stood := { row := proofSpoiltUptoRow, standIns := [], harness := (true, "495f881b3e202b99a64ff79fc2e3da44c1da7b54a021e43e5cad857e0faeda86"), looks := true }, kinds := [], alts := [], laidByText := true, laidKinds := [.data, .data, .data, .data, .pinned], laidTests := true, laidLooks := .later }
def ProofSpoiltUptoCardSaid : Prop := Claim7.holds Tryz.pinned (.plain (OpenSpec.upto proofSpoiltSpec)) proofSpoiltUptoCard
end Rows
end Go.Proofs.YtjdgidaoknlnlaaGreatDoor
