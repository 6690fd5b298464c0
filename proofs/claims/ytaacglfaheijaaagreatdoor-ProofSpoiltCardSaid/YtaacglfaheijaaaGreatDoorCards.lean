/-
  DERIVED. GIVEN WITH THE SEED: THE CARDS: each row of YtaacglfaheijaaaGreatDoorRows.lean that lists a variable, with what it lists TIED to the program's text (the seventh form; the later family's looks); each row that meets fmt, with fmt's text TOLD by the authors' own Lean function (tested against real Go, not proved from fmt's source: count such statements apart). THE CARD IS WHAT COUNTS. Prove the row's statement (the work); the ties are given (YtaacglfaheijaaaGreatDoorTie.lean); close each card by the builder's one call (the guide's Derived/Test/ToyasCard.lean, 'card_holds'). Laid BY PROGRAM, IN A SANDBOX (cutbox-door.mjs). By AI agents, Wed Nov 11 2026. No macro, syntax, notation, axiom, sorry.
-/
import Derived.Test.YtaacglfaheijaaaGreatDoorRows
import GoSem.ClaimSeven
namespace Go.Proofs.YtaacglfaheijaaaGreatDoor
namespace Rows

/-- THE TIED CARD OF 'ephemeristlaw09.ProofSpoilt'. -/
def proofSpoiltCard : Claim7 := { stood := { row := proofSpoiltRow, standIns := [], harness := (true, "435b441f2497b2d66d48a3d1f145fb462b1150ab4bdc5397294dfe73fe5bd84f"), looks := true }, kinds := [], alts := [], laidByText := true, laidKinds := [.data, .data, .data, .data, .pinned], laidTests := true, laidLooks := .later }
def ProofSpoiltCardSaid : Prop := Claim7.holds Tryz.pinned (.plain (OpenSpec.ofChange proofSpoiltSpec)) proofSpoiltCard

/-- THE SECOND FORM's CARD OF 'ephemeristlaw09.ProofSpoilt'. -/
def proofSpoiltUptoCard : Claim7 := { stood := { row := proofSpoiltUptoRow, standIns := [], harness := (true, "435b441f2497b2d66d48a3d1f145fb462b1150ab4bdc5397294dfe73fe5bd84f"), looks := true }, kinds := [], alts := [], laidByText := true, laidKinds := [.data, .data, .data, .data, .pinned], laidTests := true, laidLooks := .later }
def ProofSpoiltUptoCardSaid : Prop := Claim7.holds Tryz.pinned (.plain (OpenSpec.upto proofSpoiltSpec)) proofSpoiltUptoCard
end Rows
end Go.Proofs.YtaacglfaheijaaaGreatDoor
