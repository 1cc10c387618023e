/-
  DERIVED. GIVEN WITH THE SEED: THE CARDS: each row of YtemdknkghacheaaDoorRows.lean that lists a variable, with what it lists TIED to the program's text (the seventh form; the later family's looks); each row that meets fmt, with fmt's text TOLD by the authors' own Lean function (tested against real Go, not proved from fmt's source: count such statements apart). THE CARD IS WHAT COUNTS. Prove the row's statement (the work); the ties are given (YtemdknkghacheaaDoorTie.lean); close each card by the builder's one call (the guide's Derived/Test/ToyasCard.lean, 'card_holds'). Laid BY PROGRAM, IN A SANDBOX (cutbox-door.mjs). By AI agents, Wed Nov 11 2026. No macro, syntax, notation, axiom, sorry.
-/
import Derived.Test.YtemdknkghacheaaDoorRows
import GoSem.ClaimSeven
namespace Go.Proofs.YtemdknkghacheaaDoor
namespace Rows

/-- THE TIED CARD OF 'cocyclelaw03.SmithDivide'. -/
def smithDivideCard : Claim7 := { stood := { row := smithDivideRow, standIns := [], harness := (true, "cc23a4903c81a88f9f2d30ccd7eb806dc09b48692cbe9d190c5dfe290dcbcea7"), looks := false }, kinds := [], alts := [], laidByText := true, laidKinds := [.data, .pinned], laidTests := true, laidLooks := .later }
def SmithDivideCardSaid : Prop := Claim7.holds Tryd.pinned (.plain (OpenSpec.ofChange smithDivideSpec)) smithDivideCard

/-- THE TIED CARD OF 'cocyclelaw03.SmithDiagonal'. -/
def smithDiagonalCard : Claim7 := { stood := { row := smithDiagonalRow, standIns := [], harness := (true, "cc23a4903c81a88f9f2d30ccd7eb806dc09b48692cbe9d190c5dfe290dcbcea7"), looks := false }, kinds := [], alts := [], laidByText := true, laidKinds := [.data, .pinned], laidTests := true, laidLooks := .later }
def SmithDiagonalCardSaid : Prop := Claim7.holds Tryd.pinned (.plain (OpenSpec.ofChange smithDiagonalSpec)) smithDiagonalCard

/-- THE TIED CARD OF 'cocyclelaw03.SmithWrong'. -/
def smithWrongCard : Claim7 := { stood := { row := smithWrongRow, standIns := [], harness := (true, "cc23a4903c81a88f9f2d30ccd7eb806dc09b48692cbe9d190c5dfe290dcbcea7"), looks := false }, kinds := [], alts := [], laidByText := true, laidKinds := [.data, .pinned], laidTests := true, laidLooks := .later }
def SmithWrongCardSaid : Prop := Claim7.holds Tryd.pinned (.plain (OpenSpec.ofChange smithWrongSpec)) smithWrongCard

/-- THE TIED CARD OF 'cocyclelaw03.SmithMinors'. -/
def smithMinorsCard : Claim7 := { stood := { row := smithMinorsRow, standIns := [], harness := (true, "cc23a4903c81a88f9f2d30ccd7eb806dc09b48692cbe9d190c5dfe290dcbcea7"), looks := false }, kinds := [], alts := [], laidByText := true, laidKinds := [.data, .pinned], laidTests := true, laidLooks := .later }
def SmithMinorsCardSaid : Prop := Claim7.holds Tryd.pinned (.plain (OpenSpec.ofChange smithMinorsSpec)) smithMinorsCard

/-- THE SECOND FORM's CARD OF 'cocyclelaw03.SmithDivide'. -/
def smithDivideUptoCard : Claim7 := { stood := { row := smithDivideUptoRow, standIns := [], harness := (true, "cc23a4903c81a88f9f2d30ccd7eb806dc09b48692cbe9d190c5dfe290dcbcea7"), looks := false }, kinds := [], alts := [], laidByText := true, laidKinds := [.data, .pinned], laidTests := true, laidLooks := .later }
def SmithDivideUptoCardSaid : Prop := Claim7.holds Tryd.pinned (.plain (OpenSpec.upto smithDivideSpec)) smithDivideUptoCard

/-- THE SECOND FORM's CARD OF 'cocyclelaw03.SmithDiagonal'. -/
def smithDiagonalUptoCard : Claim7 := { stood := { row := smithDiagonalUptoRow, standIns := [], harness := (true, "cc23a4903c81a88f9f2d30ccd7eb806dc09b48692cbe9d190c5dfe290dcbcea7"), looks := false }, kinds := [], alts := [], laidByText := true, laidKinds := [.data, .pinned], laidTests := true, laidLooks := .later }
def SmithDiagonalUptoCardSaid : Prop := Claim7.holds Tryd.pinned (.plain (OpenSpec.upto smithDiagonalSpec)) smithDiagonalUptoCard

/-- THE SECOND FORM's CARD OF 'cocyclelaw03.SmithWrong'. -/
def smithWrongUptoCard : Claim7 := { stood := { row := smithWrongUptoRow, standIns := [], harness := (true, "cc23a4903c81a88f9f2d30ccd7eb806dc09b48692cbe9d190c5dfe290dcbcea7"), looks := false }, kinds := [], alts := [], laidByText := true, laidKinds := [.data, .pinned], laidTests := true, laidLooks := .later }
def SmithWrongUptoCardSaid : Prop := Claim7.holds Tryd.pinned (.plain (OpenSpec.upto smithWrongSpec)) smithWrongUptoCard

/-- THE SECOND FORM's CARD OF 'cocyclelaw03.SmithMinors'. -/
def smithMinorsUptoCard : Claim7 := { stood := { row := smithMinorsUptoRow, standIns := [], harness := (true, "cc23a4903c81a88f9f2d30ccd7eb806dc09b48692cbe9d190c5dfe290dcbcea7"), looks := false }, kinds := [], alts := [], laidByText := true, laidKinds := [.data, .pinned], laidTests := true, laidLooks := .later }
def SmithMinorsUptoCardSaid : Prop := Claim7.holds Tryd.pinned (.plain (OpenSpec.upto smithMinorsSpec)) smithMinorsUptoCard
end Rows
end Go.Proofs.YtemdknkghacheaaDoor
