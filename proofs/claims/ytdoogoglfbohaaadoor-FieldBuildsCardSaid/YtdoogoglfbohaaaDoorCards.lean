/-
  DERIVED. GIVEN WITH THE SEED: THE CARDS: each row of YtdoogoglfbohaaaDoorRows.lean that lists a variable, with what it lists TIED to the program's text (the seventh form; the later family's looks); each row that meets fmt, with fmt's text TOLD by the authors' own Lean function (tested against real Go, not proved from fmt's source: count such statements apart). THE CARD IS WHAT COUNTS. Prove the row's statement (the work); the ties are given (YtdoogoglfbohaaaDoorTie.lean); close each card by the builder's one call (the guide's Derived/Test/ToyasCard.lean, 'card_holds'). Laid BY PROGRAM, IN A SANDBOX (cutbox-door.mjs). By AI agents, Wed Nov 11 2026. No macro, syntax, notation, axiom, sorry.
-/
import Derived.Test.YtdoogoglfbohaaaDoorRows
import GoSem.ClaimSeven
namespace Go.Proofs.YtdoogoglfbohaaaDoor
namespace Rows

/-- THE TIED CARD OF 'cocyclelaw05.FieldBuilds'. -/
def fieldBuildsCard : Claim7 := { stood := { row := fieldBuildsRow, standIns := [], harness := (true, "34a5bcd1dfc48e97e95dbb8ea890745645fe926b7e239f8bd65a6c4f66225770"), looks := false }, kinds := [], alts := [], laidByText := true, laidKinds := [.data, .pinned], laidTests := true, laidLooks := .later }
def FieldBuildsCardSaid : Prop := Claim7.holds Tryd.pinned (.plain (OpenSpec.ofChange fieldBuildsSpec)) fieldBuildsCard

/-- THE TIED CARD OF 'cocyclelaw05.FieldMod'. -/
def fieldModCard : Claim7 := { stood := { row := fieldModRow, standIns := [], harness := (true, "34a5bcd1dfc48e97e95dbb8ea890745645fe926b7e239f8bd65a6c4f66225770"), looks := false }, kinds := [], alts := [], laidByText := true, laidKinds := [.data, .pinned], laidTests := true, laidLooks := .later }
def FieldModCardSaid : Prop := Claim7.holds Tryd.pinned (.plain (OpenSpec.ofChange fieldModSpec)) fieldModCard

/-- THE SECOND FORM's CARD OF 'cocyclelaw05.FieldBuilds'. -/
def fieldBuildsUptoCard : Claim7 := { stood := { row := fieldBuildsUptoRow, standIns := [], harness := (true, "34a5bcd1dfc48e97e95dbb8ea890745645fe926b7e239f8bd65a6c4f66225770"), looks := false }, kinds := [], alts := [], laidByText := true, laidKinds := [.data, .pinned], laidTests := true, laidLooks := .later }
def FieldBuildsUptoCardSaid : Prop := Claim7.holds Tryd.pinned (.plain (OpenSpec.upto fieldBuildsSpec)) fieldBuildsUptoCard

/-- THE SECOND FORM's CARD OF 'cocyclelaw05.FieldMod'. -/
def fieldModUptoCard : Claim7 := { stood := { row := fieldModUptoRow, standIns := [], harness := (true, "34a5bcd1dfc48e97e95dbb8ea890745645fe926b7e239f8bd65a6c4f66225770"), looks := false }, kinds := [], alts := [], laidByText := true, laidKinds := [.data, .pinned], laidTests := true, laidLooks := .later }
def FieldModUptoCardSaid : Prop := Claim7.holds Tryd.pinned (.plain (OpenSpec.upto fieldModSpec)) fieldModUptoCard
end Rows
end Go.Proofs.YtdoogoglfbohaaaDoor
