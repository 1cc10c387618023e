/-
  DERIVED. GIVEN WITH THE SEED: THE CARDS: each row of YtdlmnloikakjpaaGreatDoorRows.lean that lists a variable, with what it lists TIED to the program's text (the seventh form; the later family's looks); each row that meets fmt, with fmt's text TOLD by the authors' own Lean function (tested against real Go, not proved from fmt's source: count such statements apart). THE CARD IS WHAT COUNTS. Prove the row's statement (the work); the ties are given (YtdlmnloikakjpaaGreatDoorTie.lean); close each card by the builder's one call (the guide's Derived/Test/ToyasCard.lean, 'card_holds'). Laid BY PROGRAM, IN A SANDBOX (cutbox-door.mjs). By AI agents, Wed Nov 11 2026. No macro, syntax, notation, axiom, sorry.
-/
import Derived.Test.YtdlmnloikakjpaaGreatDoorRows
import GoSem.ClaimSeven
namespace Go.Proofs.YtdlmnloikakjpaaGreatDoor
namespace Rows

/-- THE TIED CARD OF 'cocyclelaw02.MatrixWrong'. -/
def matrixWrongCard : Claim7 := { stood := { row := matrixWrongRow, standIns := [], harness := (true, "92388b50f3a93ba5a08d8d18c12c023c2934921ad2ebd158828173a27f7aee81"), looks := false }, kinds := [], alts := [], laidByText := true, laidKinds := [.data, .pinned], laidTests := true, laidLooks := .later }
def MatrixWrongCardSaid : Prop := Claim7.holds Tryz.pinned (.plain (OpenSpec.ofChange matrixWrongSpec)) matrixWrongCard

/-- THE SECOND FORM's CARD OF 'cocyclelaw02.MatrixWrong'. -/
def matrixWrongUptoCard : Claim7 := { stood := { row := matrixWrongUptoRow, standIns := [], harness := (true, "92388b50f3a93ba5a08d8d18c12c023c2934921ad2ebd158828173a27f7aee81"), looks := false }, kinds := [], alts := [], laidByText := true, laidKinds := [.data, .pinned], laidTests := true, laidLooks := .later }
def MatrixWrongUptoCardSaid : Prop := Claim7.holds Tryz.pinned (.plain (OpenSpec.upto matrixWrongSpec)) matrixWrongUptoCard
end Rows
end Go.Proofs.YtdlmnloikakjpaaGreatDoor
