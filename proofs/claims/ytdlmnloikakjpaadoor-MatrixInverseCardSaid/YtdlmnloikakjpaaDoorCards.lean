/-
  DERIVED. GIVEN WITH THE SEED: THE CARDS: each row of YtdlmnloikakjpaaDoorRows.lean that lists a variable, with what it lists TIED to the program's text (the seventh form; the later family's looks); each row that meets fmt, with fmt's text TOLD by the authors' own Lean function (tested against real Go, not proved from fmt's source: count such statements apart). THE CARD IS WHAT COUNTS. Prove the row's statement (the work); the ties are given (YtdlmnloikakjpaaDoorTie.lean); close each card by the builder's one call (the guide's Derived/Test/ToyasCard.lean, 'card_holds'). Laid BY PROGRAM, IN A SANDBOX (cutbox-door.mjs). By AI agents, Wed Nov 11 2026. No macro, syntax, notation, axiom, sorry.
-/
import Derived.Test.YtdlmnloikakjpaaDoorRows
import GoSem.ClaimSeven
namespace Go.Proofs.YtdlmnloikakjpaaDoor
namespace Rows

/-- THE TIED CARD OF 'cocyclelaw02.MatrixParts'. -/
def matrixPartsCard : Claim7 := { stood := { row := matrixPartsRow, standIns := [], harness := (true, "1e720b878859d18141ea40e2dc597df34bde83979d72dc5a8b5bc54d7198a929"), looks := false }, kinds := [], alts := [], laidByText := true, laidKinds := [.data, .pinned], laidTests := true, laidLooks := .later }
def MatrixPartsCardSaid : Prop := Claim7.holds Tryd.pinned (.plain (OpenSpec.ofChange matrixPartsSpec)) matrixPartsCard

/-- THE TIED CARD OF 'cocyclelaw02.MatrixInverse'. -/
def matrixInverseCard : Claim7 := { stood := { row := matrixInverseRow, standIns := [], harness := (true, "1e720b878859d18141ea40e2dc597df34bde83979d72dc5a8b5bc54d7198a929"), looks := false }, kinds := [], alts := [], laidByText := true, laidKinds := [.data, .pinned], laidTests := true, laidLooks := .later }
def MatrixInverseCardSaid : Prop := Claim7.holds Tryd.pinned (.plain (OpenSpec.ofChange matrixInverseSpec)) matrixInverseCard

/-- THE TIED CARD OF 'cocyclelaw02.MatrixApplies'. -/
def matrixAppliesCard : Claim7 := { stood := { row := matrixAppliesRow, standIns := [], harness := (true, "1e720b878859d18141ea40e2dc597df34bde83979d72dc5a8b5bc54d7198a929"), looks := false }, kinds := [], alts := [], laidByText := true, laidKinds := [.data, .pinned], laidTests := true, laidLooks := .later }
def MatrixAppliesCardSaid : Prop := Claim7.holds Tryd.pinned (.plain (OpenSpec.ofChange matrixAppliesSpec)) matrixAppliesCard

/-- THE TIED CARD OF 'cocyclelaw02.MatrixBuilds'. -/
def matrixBuildsCard : Claim7 := { stood := { row := matrixBuildsRow, standIns := [], harness := (true, "1e720b878859d18141ea40e2dc597df34bde83979d72dc5a8b5bc54d7198a929"), looks := false }, kinds := [], alts := [], laidByText := true, laidKinds := [.data, .pinned], laidTests := true, laidLooks := .later }
def MatrixBuildsCardSaid : Prop := Claim7.holds Tryd.pinned (.plain (OpenSpec.ofChange matrixBuildsSpec)) matrixBuildsCard

/-- THE TIED CARD OF 'cocyclelaw02.MatrixSmall'. -/
def matrixSmallCard : Claim7 := { stood := { row := matrixSmallRow, standIns := [], harness := (true, "1e720b878859d18141ea40e2dc597df34bde83979d72dc5a8b5bc54d7198a929"), looks := false }, kinds := [], alts := [], laidByText := true, laidKinds := [.data, .pinned], laidTests := true, laidLooks := .later }
def MatrixSmallCardSaid : Prop := Claim7.holds Tryd.pinned (.plain (OpenSpec.ofChange matrixSmallSpec)) matrixSmallCard

/-- THE TIED CARD OF 'cocyclelaw02.MatrixDets'. -/
def matrixDetsCard : Claim7 := { stood := { row := matrixDetsRow, standIns := [], harness := (true, "1e720b878859d18141ea40e2dc597df34bde83979d72dc5a8b5bc54d7198a929"), looks := false }, kinds := [], alts := [], laidByText := true, laidKinds := [.data, .pinned], laidTests := true, laidLooks := .later }
def MatrixDetsCardSaid : Prop := Claim7.holds Tryd.pinned (.plain (OpenSpec.ofChange matrixDetsSpec)) matrixDetsCard

/-- THE TIED CARD OF 'cocyclelaw02.MatrixSums'. -/
def matrixSumsCard : Claim7 := { stood := { row := matrixSumsRow, standIns := [], harness := (true, "1e720b878859d18141ea40e2dc597df34bde83979d72dc5a8b5bc54d7198a929"), looks := false }, kinds := [], alts := [], laidByText := true, laidKinds := [.data, .pinned], laidTests := true, laidLooks := .later }
def MatrixSumsCardSaid : Prop := Claim7.holds Tryd.pinned (.plain (OpenSpec.ofChange matrixSumsSpec)) matrixSumsCard

/-- THE TIED CARD OF 'cocyclelaw02.MatrixRings'. -/
def matrixRingsCard : Claim7 := { stood := { row := matrixRingsRow, standIns := [], harness := (true, "1e720b878859d18141ea40e2dc597df34bde83979d72dc5a8b5bc54d7198a929"), looks := false }, kinds := [], alts := [], laidByText := true, laidKinds := [.data, .pinned], laidTests := true, laidLooks := .later }
def MatrixRingsCardSaid : Prop := Claim7.holds Tryd.pinned (.plain (OpenSpec.ofChange matrixRingsSpec)) matrixRingsCard

/-- THE TIED CARD OF 'cocyclelaw02.MatrixOwn'. -/
def matrixOwnCard : Claim7 := { stood := { row := matrixOwnRow, standIns := [], harness := (true, "1e720b878859d18141ea40e2dc597df34bde83979d72dc5a8b5bc54d7198a929"), looks := false }, kinds := [], alts := [], laidByText := true, laidKinds := [.data, .pinned], laidTests := true, laidLooks := .later }
def MatrixOwnCardSaid : Prop := Claim7.holds Tryd.pinned (.plain (OpenSpec.ofChange matrixOwnSpec)) matrixOwnCard

/-- THE TIED CARD OF 'cocyclelaw02.MatrixTurns'. -/
def matrixTurnsCard : Claim7 := { stood := { row := matrixTurnsRow, standIns := [], harness := (true, "1e720b878859d18141ea40e2dc597df34bde83979d72dc5a8b5bc54d7198a929"), looks := false }, kinds := [], alts := [], laidByText := true, laidKinds := [.data, .pinned], laidTests := true, laidLooks := .later }
def MatrixTurnsCardSaid : Prop := Claim7.holds Tryd.pinned (.plain (OpenSpec.ofChange matrixTurnsSpec)) matrixTurnsCard

/-- THE SECOND FORM's CARD OF 'cocyclelaw02.MatrixParts'. -/
def matrixPartsUptoCard : Claim7 := { stood := { row := matrixPartsUptoRow, standIns := [], harness := (true, "1e720b878859d18141ea40e2dc597df34bde83979d72dc5a8b5bc54d7198a929"), looks := false }, kinds := [], alts := [], laidByText := true, laidKinds := [.data, .pinned], laidTests := true, laidLooks := .later }
def MatrixPartsUptoCardSaid : Prop := Claim7.holds Tryd.pinned (.plain (OpenSpec.upto matrixPartsSpec)) matrixPartsUptoCard

/-- THE SECOND FORM's CARD OF 'cocyclelaw02.MatrixInverse'. -/
def matrixInverseUptoCard : Claim7 := { stood := { row := matrixInverseUptoRow, standIns := [], harness := (true, "1e720b878859d18141ea40e2dc597df34bde83979d72dc5a8b5bc54d7198a929"), looks := false }, kinds := [], alts := [], laidByText := true, laidKinds := [.data, .pinned], laidTests := true, laidLooks := .later }
def MatrixInverseUptoCardSaid : Prop := Claim7.holds Tryd.pinned (.plain (OpenSpec.upto matrixInverseSpec)) matrixInverseUptoCard

/-- THE SECOND FORM's CARD OF 'cocyclelaw02.MatrixApplies'. -/
def matrixAppliesUptoCard : Claim7 := { stood := { row := matrixAppliesUptoRow, standIns := [], harness := (true, "1e720b878859d18141ea40e2dc597df34bde83979d72dc5a8b5bc54d7198a929"), looks := false }, kinds := [], alts := [], laidByText := true, laidKinds := [.data, .pinned], laidTests := true, laidLooks := .later }
def MatrixAppliesUptoCardSaid : Prop := Claim7.holds Tryd.pinned (.plain (OpenSpec.upto matrixAppliesSpec)) matrixAppliesUptoCard

/-- THE SECOND FORM's CARD OF 'cocyclelaw02.MatrixBuilds'. -/
def matrixBuildsUptoCard : Claim7 := { stood := { row := matrixBuildsUptoRow, standIns := [], harness := (true, "1e720b878859d18141ea40e2dc597df34bde83979d72dc5a8b5bc54d7198a929"), looks := false }, kinds := [], alts := [], laidByText := true, laidKinds := [.data, .pinned], laidTests := true, laidLooks := .later }
def MatrixBuildsUptoCardSaid : Prop := Claim7.holds Tryd.pinned (.plain (OpenSpec.upto matrixBuildsSpec)) matrixBuildsUptoCard

/-- THE SECOND FORM's CARD OF 'cocyclelaw02.MatrixSmall'. -/
def matrixSmallUptoCard : Claim7 := { stood := { row := matrixSmallUptoRow, standIns := [], harness := (true, "1e720b878859d18141ea40e2dc597df34bde83979d72dc5a8b5bc54d7198a929"), looks := false }, kinds := [], alts := [], laidByText := true, laidKinds := [.data, .pinned], laidTests := true, laidLooks := .later }
def MatrixSmallUptoCardSaid : Prop := Claim7.holds Tryd.pinned (.plain (OpenSpec.upto matrixSmallSpec)) matrixSmallUptoCard

/-- THE SECOND FORM's CARD OF 'cocyclelaw02.MatrixDets'. -/
def matrixDetsUptoCard : Claim7 := { stood := { row := matrixDetsUptoRow, standIns := [], harness := (true, "1e720b878859d18141ea40e2dc597df34bde83979d72dc5a8b5bc54d7198a929"), looks := false }, kinds := [], alts := [], laidByText := true, laidKinds := [.data, .pinned], laidTests := true, laidLooks := .later }
def MatrixDetsUptoCardSaid : Prop := Claim7.holds Tryd.pinned (.plain (OpenSpec.upto matrixDetsSpec)) matrixDetsUptoCard

/-- THE SECOND FORM's CARD OF 'cocyclelaw02.MatrixSums'. -/
def matrixSumsUptoCard : Claim7 := { stood := { row := matrixSumsUptoRow, standIns := [], harness := (true, "1e720b878859d18141ea40e2dc597df34bde83979d72dc5a8b5bc54d7198a929"), looks := false }, kinds := [], alts := [], laidByText := true, laidKinds := [.data, .pinned], laidTests := true, laidLooks := .later }
def MatrixSumsUptoCardSaid : Prop := Claim7.holds Tryd.pinned (.plain (OpenSpec.upto matrixSumsSpec)) matrixSumsUptoCard

/-- THE SECOND FORM's CARD OF 'cocyclelaw02.MatrixRings'. -/
def matrixRingsUptoCard : Claim7 := { stood := { row := matrixRingsUptoRow, standIns := [], harness := (true, "1e720b878859d18141ea40e2dc597df34bde83979d72dc5a8b5bc54d7198a929"), looks := false }, kinds := [], alts := [], laidByText := true, laidKinds := [.data, .pinned], laidTests := true, laidLooks := .later }
def MatrixRingsUptoCardSaid : Prop := Claim7.holds Tryd.pinned (.plain (OpenSpec.upto matrixRingsSpec)) matrixRingsUptoCard

/-- THE SECOND FORM's CARD OF 'cocyclelaw02.MatrixOwn'. -/
def matrixOwnUptoCard : Claim7 := { stood := { row := matrixOwnUptoRow, standIns := [], harness := (true, "1e720b878859d18141ea40e2dc597df34bde83979d72dc5a8b5bc54d7198a929"), looks := false }, kinds := [], alts := [], laidByText := true, laidKinds := [.data, .pinned], laidTests := true, laidLooks := .later }
def MatrixOwnUptoCardSaid : Prop := Claim7.holds Tryd.pinned (.plain (OpenSpec.upto matrixOwnSpec)) matrixOwnUptoCard

/-- THE SECOND FORM's CARD OF 'cocyclelaw02.MatrixTurns'. -/
def matrixTurnsUptoCard : Claim7 := { stood := { row := matrixTurnsUptoRow, standIns := [], harness := (true, "1e720b878859d18141ea40e2dc597df34bde83979d72dc5a8b5bc54d7198a929"), looks := false }, kinds := [], alts := [], laidByText := true, laidKinds := [.data, .pinned], laidTests := true, laidLooks := .later }
def MatrixTurnsUptoCardSaid : Prop := Claim7.holds Tryd.pinned (.plain (OpenSpec.upto matrixTurnsSpec)) matrixTurnsUptoCard
end Rows
end Go.Proofs.YtdlmnloikakjpaaDoor
