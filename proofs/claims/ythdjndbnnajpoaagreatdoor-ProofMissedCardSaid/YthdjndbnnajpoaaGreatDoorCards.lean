/-
  DERIVED. GIVEN WITH THE SEED: THE CARDS: each row of YthdjndbnnajpoaaGreatDoorRows.lean that lists a variable, with what it lists TIED to the program's text (the seventh form; the later family's looks); each row that meets fmt, with fmt's text TOLD by the authors' own Lean function (tested against real Go, not proved from fmt's source: count such statements apart). THE CARD IS WHAT COUNTS. Prove the row's statement (the work); the ties are given (YthdjndbnnajpoaaGreatDoorTie.lean); close each card by the builder's one call (the guide's Derived/Test/ToyasCard.lean, 'card_holds'). Laid BY PROGRAM, IN A SANDBOX (cutbox-door.mjs). By AI agents, Wed Nov 11 2026. No macro, syntax, notation, axiom, sorry.
-/
import Derived.Test.YthdjndbnnajpoaaGreatDoorRows
import GoSem.ClaimSeven
namespace Go.Proofs.YthdjndbnnajpoaaGreatDoor
namespace Rows

/-- THE TIED CARD OF 'ephemeristlaw09.ProofChanged'. -/
def proofChangedCard : Claim7 := { stood := { row := proofChangedRow, standIns := [], harness := (true, "37bfc3ba26a816bdd744f413de7fa5ad01d8f38205d20d0bea52d9922db35776"), looks := true }, kinds := [], alts := [], laidByText := true, laidKinds := [.data, .data, .data, .data, .pinned], laidTests := true, laidLooks := .later }
def ProofChangedCardSaid : Prop := Claim7.holds Tryz.pinned (.plain (OpenSpec.ofChange proofChangedSpec)) proofChangedCard

/-- THE TIED CARD OF 'ephemeristlaw09.ProofReaders'. -/
def proofReadersCard : Claim7 := { stood := { row := proofReadersRow, standIns := [], harness := (true, "37bfc3ba26a816bdd744f413de7fa5ad01d8f38205d20d0bea52d9922db35776"), looks := true }, kinds := [], alts := [], laidByText := true, laidKinds := [.data, .data, .data, .data, .pinned], laidTests := true, laidLooks := .later }
def ProofReadersCardSaid : Prop := Claim7.holds Tryz.pinned (.plain (OpenSpec.ofChange proofReadersSpec)) proofReadersCard

/-- THE TIED CARD OF 'ephemeristlaw09.ProofRead'. -/
def proofReadCard : Claim7 := { stood := { row := proofReadRow, standIns := [], harness := (true, "37bfc3ba26a816bdd744f413de7fa5ad01d8f38205d20d0bea52d9922db35776"), looks := true }, kinds := [], alts := [], laidByText := true, laidKinds := [.data, .data, .data, .data, .pinned], laidTests := true, laidLooks := .later }
def ProofReadCardSaid : Prop := Claim7.holds Tryz.pinned (.plain (OpenSpec.ofChange proofReadSpec)) proofReadCard

/-- THE TIED CARD OF 'ephemeristlaw09.ProofPasses'. -/
def proofPassesCard : Claim7 := { stood := { row := proofPassesRow, standIns := [], harness := (true, "37bfc3ba26a816bdd744f413de7fa5ad01d8f38205d20d0bea52d9922db35776"), looks := true }, kinds := [], alts := [], laidByText := true, laidKinds := [.data, .data, .data, .data, .pinned], laidTests := true, laidLooks := .later }
def ProofPassesCardSaid : Prop := Claim7.holds Tryz.pinned (.plain (OpenSpec.ofChange proofPassesSpec)) proofPassesCard

/-- THE TIED CARD OF 'ephemeristlaw09.ProofTwo'. -/
def proofTwoCard : Claim7 := { stood := { row := proofTwoRow, standIns := [], harness := (true, "37bfc3ba26a816bdd744f413de7fa5ad01d8f38205d20d0bea52d9922db35776"), looks := true }, kinds := [], alts := [], laidByText := true, laidKinds := [.data, .data, .data, .data, .pinned], laidTests := true, laidLooks := .later }
def ProofTwoCardSaid : Prop := Claim7.holds Tryz.pinned (.plain (OpenSpec.ofChange proofTwoSpec)) proofTwoCard

/-- THE TIED CARD OF 'ephemeristlaw09.ProofErrors'. -/
def proofErrorsCard : Claim7 := { stood := { row := proofErrorsRow, standIns := [], harness := (true, "37bfc3ba26a816bdd744f413de7fa5ad01d8f38205d20d0bea52d9922db35776"), looks := true }, kinds := [], alts := [], laidByText := true, laidKinds := [.data, .data, .data, .data, .pinned], laidTests := true, laidLooks := .later }
def ProofErrorsCardSaid : Prop := Claim7.holds Tryz.pinned (.plain (OpenSpec.ofChange proofErrorsSpec)) proofErrorsCard

/-- THE TIED CARD OF 'ephemeristlaw09.ProofKinds'. -/
def proofKindsCard : Claim7 := { stood := { row := proofKindsRow, standIns := [], harness := (true, "37bfc3ba26a816bdd744f413de7fa5ad01d8f38205d20d0bea52d9922db35776"), looks := true }, kinds := [], alts := [], laidByText := true, laidKinds := [.data, .data, .data, .data, .pinned], laidTests := true, laidLooks := .later }
def ProofKindsCardSaid : Prop := Claim7.holds Tryz.pinned (.plain (OpenSpec.ofChange proofKindsSpec)) proofKindsCard

/-- THE TIED CARD OF 'ephemeristlaw09.ProofMissed'. -/
def proofMissedCard : Claim7 := { stood := { row := proofMissedRow, standIns := [], harness := (true, "37bfc3ba26a816bdd744f413de7fa5ad01d8f38205d20d0bea52d9922db35776"), looks := true }, kinds := [], alts := [], laidByText := true, laidKinds := [.data, .data, .data, .data, .pinned], laidTests := true, laidLooks := .later }
def ProofMissedCardSaid : Prop := Claim7.holds Tryz.pinned (.plain (OpenSpec.ofChange proofMissedSpec)) proofMissedCard

/-- THE TIED CARD OF 'ephemeristlaw09.ProofSeen'. -/
def proofSeenCard : Claim7 := { stood := { row := proofSeenRow, standIns := [], harness := (true, "37bfc3ba26a816bdd744f413de7fa5ad01d8f38205d20d0bea52d9922db35776"), looks := true }, kinds := [], alts := [], laidByText := true, laidKinds := [.data, .data, .data, .data, .pinned], laidTests := true, laidLooks := .later }
def ProofSeenCardSaid : Prop := Claim7.holds Tryz.pinned (.plain (OpenSpec.ofChange proofSeenSpec)) proofSeenCard

/-- THE TIED CARD OF 'ephemeristlaw09.ProofUseless'. -/
def proofUselessCard : Claim7 := { stood := { row := proofUselessRow, standIns := [], harness := (true, "37bfc3ba26a816bdd744f413de7fa5ad01d8f38205d20d0bea52d9922db35776"), looks := true }, kinds := [], alts := [], laidByText := true, laidKinds := [.data, .data, .data, .data, .pinned], laidTests := true, laidLooks := .later }
def ProofUselessCardSaid : Prop := Claim7.holds Tryz.pinned (.plain (OpenSpec.ofChange proofUselessSpec)) proofUselessCard

/-- THE SECOND FORM's CARD OF 'ephemeristlaw09.ProofChanged'. -/
def proofChangedUptoCard : Claim7 := { stood := { row := proofChangedUptoRow, standIns := [], harness := (true, "37bfc3ba26a816bdd744f413de7fa5ad01d8f38205d20d0bea52d9922db35776"), looks := true }, kinds := [], alts := [], laidByText := true, laidKinds := [.data, .data, .data, .data, .pinned], laidTests := true, laidLooks := .later }
def ProofChangedUptoCardSaid : Prop := Claim7.holds Tryz.pinned (.plain (OpenSpec.upto proofChangedSpec)) proofChangedUptoCard

/-- THE SECOND FORM's CARD OF 'ephemeristlaw09.ProofReaders'. -/
def proofReadersUptoCard : Claim7 := { stood := { row := proofReadersUptoRow, standIns := [], harness := (true, "37bfc3ba26a816bdd744f413de7fa5ad01d8f38205d20d0bea52d9922db35776"), looks := true }, kinds := [], alts := [], laidByText := true, laidKinds := [.data, .data, .data, .data, .pinned], laidTests := true, laidLooks := .later }
def ProofReadersUptoCardSaid : Prop := Claim7.holds Tryz.pinned (.plain (OpenSpec.upto proofReadersSpec)) proofReadersUptoCard

/-- THE SECOND FORM's CARD OF 'ephemeristlaw09.ProofRead'. -/
def proofReadUptoCard : Claim7 := { stood := { row := proofReadUptoRow, standIns := [], harness := (true, "37bfc3ba26a816bdd744f413de7fa5ad01d8f38205d20d0bea52d9922db35776"), looks := true }, kinds := [], alts := [], laidByText := true, laidKinds := [.data, .data, .data, .data, .pinned], laidTests := true, laidLooks := .later }
def ProofReadUptoCardSaid : Prop := Claim7.holds Tryz.pinned (.plain (OpenSpec.upto proofReadSpec)) proofReadUptoCard

/-- THE SECOND FORM's CARD OF 'ephemeristlaw09.ProofPasses'. -/
def proofPassesUptoCard : Claim7 := { stood := { row := proofPassesUptoRow, standIns := [], harness := (true, "37bfc3ba26a816bdd744f413de7fa5ad01d8f38205d20d0bea52d9922db35776"), looks := true }, kinds := [], alts := [], laidByText := true, laidKinds := [.data, .data, .data, .data, .pinned], laidTests := true, laidLooks := .later }
def ProofPassesUptoCardSaid : Prop := Claim7.holds Tryz.pinned (.plain (OpenSpec.upto proofPassesSpec)) proofPassesUptoCard

/-- THE SECOND FORM's CARD OF 'ephemeristlaw09.ProofTwo'. -/
def proofTwoUptoCard : Claim7 := { stood := { row := proofTwoUptoRow, standIns := [], harness := (true, "37bfc3ba26a816bdd744f413de7fa5ad01d8f38205d20d0bea52d9922db35776"), looks := true }, kinds := [], alts := [], laidByText := true, laidKinds := [.data, .data, .data, .data, .pinned], laidTests := true, laidLooks := .later }
def ProofTwoUptoCardSaid : Prop := Claim7.holds Tryz.pinned (.plain (OpenSpec.upto proofTwoSpec)) proofTwoUptoCard

/-- THE SECOND FORM's CARD OF 'ephemeristlaw09.ProofErrors'. -/
def proofErrorsUptoCard : Claim7 := { stood := { row := proofErrorsUptoRow, standIns := [], harness := (true, "37bfc3ba26a816bdd744f413de7fa5ad01d8f38205d20d0bea52d9922db35776"), looks := true }, kinds := [], alts := [], laidByText := true, laidKinds := [.data, .data, .data, .data, .pinned], laidTests := true, laidLooks := .later }
def ProofErrorsUptoCardSaid : Prop := Claim7.holds Tryz.pinned (.plain (OpenSpec.upto proofErrorsSpec)) proofErrorsUptoCard

/-- THE SECOND FORM's CARD OF 'ephemeristlaw09.ProofKinds'. -/
def proofKindsUptoCard : Claim7 := { stood := { row := proofKindsUptoRow, standIns := [], harness := (true, "37bfc3ba26a816bdd744f413de7fa5ad01d8f38205d20d0bea52d9922db35776"), looks := true }, kinds := [], alts := [], laidByText := true, laidKinds := [.data, .data, .data, .data, .pinned], laidTests := true, laidLooks := .later }
def ProofKindsUptoCardSaid : Prop := Claim7.holds Tryz.pinned (.plain (OpenSpec.upto proofKindsSpec)) proofKindsUptoCard

/-- THE SECOND FORM's CARD OF 'ephemeristlaw09.ProofMissed'. -/
def proofMissedUptoCard : Claim7 := { stood := { row := proofMissedUptoRow, standIns := [], harness := (true, "37bfc3ba26a816bdd744f413de7fa5ad01d8f38205d20d0bea52d9922db35776"), looks := true }, kinds := [], alts := [], laidByText := true, laidKinds := [.data, .data, .data, .data, .pinned], laidTests := true, laidLooks := .later }
def ProofMissedUptoCardSaid : Prop := Claim7.holds Tryz.pinned (.plain (OpenSpec.upto proofMissedSpec)) proofMissedUptoCard

/-- THE SECOND FORM's CARD OF 'ephemeristlaw09.ProofSeen'. -/
def proofSeenUptoCard : Claim7 := { stood := { row := proofSeenUptoRow, standIns := [], harness := (true, "37bfc3ba26a816bdd744f413de7fa5ad01d8f38205d20d0bea52d9922db35776"), looks := true }, kinds := [], alts := [], laidByText := true, laidKinds := [.data, .data, .data, .data, .pinned], laidTests := true, laidLooks := .later }
def ProofSeenUptoCardSaid : Prop := Claim7.holds Tryz.pinned (.plain (OpenSpec.upto proofSeenSpec)) proofSeenUptoCard

/-- THE SECOND FORM's CARD OF 'ephemeristlaw09.ProofUseless'. -/
def proofUselessUptoCard : Claim7 := { stood := { row := proofUselessUptoRow, standIns := [], harness := (true, "37bfc3ba26a816bdd744f413de7fa5ad01d8f38205d20d0bea52d9922db35776"), looks := true }, kinds := [], alts := [], laidByText := true, laidKinds := [.data, .data, .data, .data, .pinned], laidTests := true, laidLooks := .later }
def ProofUselessUptoCardSaid : Prop := Claim7.holds Tryz.pinned (.plain (OpenSpec.upto proofUselessSpec)) proofUselessUptoCard
end Rows
end Go.Proofs.YthdjndbnnajpoaaGreatDoor
