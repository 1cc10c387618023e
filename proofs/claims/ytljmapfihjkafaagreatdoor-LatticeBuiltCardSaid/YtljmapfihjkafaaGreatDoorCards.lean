/-
  DERIVED. GIVEN WITH THE SEED: THE CARDS: each row of YtljmapfihjkafaaGreatDoorRows.lean that lists a variable, with what it lists TIED to the program's text (the seventh form; the later family's looks); each row that meets fmt, with fmt's text TOLD by the authors' own Lean function (tested against real Go, not proved from fmt's source: count such statements apart). THE CARD IS WHAT COUNTS. Prove the row's statement (the work); the ties are given (YtljmapfihjkafaaGreatDoorTie.lean); close each card by the builder's one call (the guide's Derived/Test/ToyasCard.lean, 'card_holds'). Laid BY PROGRAM, IN A SANDBOX (cutbox-door.mjs). By AI agents, Wed Nov 11 2026. No macro, syntax, notation, axiom, sorry.
-/
import Derived.Test.YtljmapfihjkafaaGreatDoorRows
import GoSem.ClaimSeven
namespace Go.Proofs.YtljmapfihjkafaaGreatDoor
namespace Rows

/-- THE TIED CARD OF 'cocyclelaw04.LatticeKernel'. -/
def latticeKernelCard : Claim7 := { stood := { row := latticeKernelRow, standIns := [], harness := (true, "2a55c8c770411d0033a71932175e8e630641c3bf870bcb95329879352daafdde"), looks := false }, kinds := [], alts := [], laidByText := true, laidKinds := [.data, .pinned], laidTests := true, laidLooks := .later }
def LatticeKernelCardSaid : Prop := Claim7.holds Tryz.pinned (.plain (OpenSpec.ofChange latticeKernelSpec)) latticeKernelCard

/-- THE TIED CARD OF 'cocyclelaw04.LatticeQuotients'. -/
def latticeQuotientsCard : Claim7 := { stood := { row := latticeQuotientsRow, standIns := [], harness := (true, "2a55c8c770411d0033a71932175e8e630641c3bf870bcb95329879352daafdde"), looks := false }, kinds := [], alts := [], laidByText := true, laidKinds := [.data, .pinned], laidTests := true, laidLooks := .later }
def LatticeQuotientsCardSaid : Prop := Claim7.holds Tryz.pinned (.plain (OpenSpec.ofChange latticeQuotientsSpec)) latticeQuotientsCard

/-- THE TIED CARD OF 'cocyclelaw04.LatticeGenerates'. -/
def latticeGeneratesCard : Claim7 := { stood := { row := latticeGeneratesRow, standIns := [], harness := (true, "2a55c8c770411d0033a71932175e8e630641c3bf870bcb95329879352daafdde"), looks := false }, kinds := [], alts := [], laidByText := true, laidKinds := [.data, .pinned], laidTests := true, laidLooks := .later }
def LatticeGeneratesCardSaid : Prop := Claim7.holds Tryz.pinned (.plain (OpenSpec.ofChange latticeGeneratesSpec)) latticeGeneratesCard

/-- THE TIED CARD OF 'cocyclelaw04.LatticeFactors'. -/
def latticeFactorsCard : Claim7 := { stood := { row := latticeFactorsRow, standIns := [], harness := (true, "2a55c8c770411d0033a71932175e8e630641c3bf870bcb95329879352daafdde"), looks := false }, kinds := [], alts := [], laidByText := true, laidKinds := [.data, .pinned], laidTests := true, laidLooks := .later }
def LatticeFactorsCardSaid : Prop := Claim7.holds Tryz.pinned (.plain (OpenSpec.ofChange latticeFactorsSpec)) latticeFactorsCard

/-- THE TIED CARD OF 'cocyclelaw04.LatticeKeeps'. -/
def latticeKeepsCard : Claim7 := { stood := { row := latticeKeepsRow, standIns := [], harness := (true, "2a55c8c770411d0033a71932175e8e630641c3bf870bcb95329879352daafdde"), looks := false }, kinds := [], alts := [], laidByText := true, laidKinds := [.data, .pinned], laidTests := true, laidLooks := .later }
def LatticeKeepsCardSaid : Prop := Claim7.holds Tryz.pinned (.plain (OpenSpec.ofChange latticeKeepsSpec)) latticeKeepsCard

/-- THE TIED CARD OF 'cocyclelaw04.LatticeBuilt'. -/
def latticeBuiltCard : Claim7 := { stood := { row := latticeBuiltRow, standIns := [], harness := (true, "2a55c8c770411d0033a71932175e8e630641c3bf870bcb95329879352daafdde"), looks := false }, kinds := [], alts := [], laidByText := true, laidKinds := [.data, .pinned], laidTests := true, laidLooks := .later }
def LatticeBuiltCardSaid : Prop := Claim7.holds Tryz.pinned (.plain (OpenSpec.ofChange latticeBuiltSpec)) latticeBuiltCard

/-- THE TIED CARD OF 'cocyclelaw04.LatticeSolves'. -/
def latticeSolvesCard : Claim7 := { stood := { row := latticeSolvesRow, standIns := [], harness := (true, "2a55c8c770411d0033a71932175e8e630641c3bf870bcb95329879352daafdde"), looks := false }, kinds := [], alts := [], laidByText := true, laidKinds := [.data, .pinned], laidTests := true, laidLooks := .later }
def LatticeSolvesCardSaid : Prop := Claim7.holds Tryz.pinned (.plain (OpenSpec.ofChange latticeSolvesSpec)) latticeSolvesCard

/-- THE TIED CARD OF 'cocyclelaw04.LatticeChecks'. -/
def latticeChecksCard : Claim7 := { stood := { row := latticeChecksRow, standIns := [], harness := (true, "2a55c8c770411d0033a71932175e8e630641c3bf870bcb95329879352daafdde"), looks := false }, kinds := [], alts := [], laidByText := true, laidKinds := [.data, .pinned], laidTests := true, laidLooks := .later }
def LatticeChecksCardSaid : Prop := Claim7.holds Tryz.pinned (.plain (OpenSpec.ofChange latticeChecksSpec)) latticeChecksCard

/-- THE TIED CARD OF 'cocyclelaw04.LatticeNever'. -/
def latticeNeverCard : Claim7 := { stood := { row := latticeNeverRow, standIns := [], harness := (true, "2a55c8c770411d0033a71932175e8e630641c3bf870bcb95329879352daafdde"), looks := false }, kinds := [], alts := [], laidByText := true, laidKinds := [.data, .pinned], laidTests := true, laidLooks := .later }
def LatticeNeverCardSaid : Prop := Claim7.holds Tryz.pinned (.plain (OpenSpec.ofChange latticeNeverSpec)) latticeNeverCard

/-- THE TIED CARD OF 'cocyclelaw04.LatticeWrong'. -/
def latticeWrongCard : Claim7 := { stood := { row := latticeWrongRow, standIns := [], harness := (true, "2a55c8c770411d0033a71932175e8e630641c3bf870bcb95329879352daafdde"), looks := false }, kinds := [], alts := [], laidByText := true, laidKinds := [.data, .pinned], laidTests := true, laidLooks := .later }
def LatticeWrongCardSaid : Prop := Claim7.holds Tryz.pinned (.plain (OpenSpec.ofChange latticeWrongSpec)) latticeWrongCard

/-- THE SECOND FORM's CARD OF 'cocyclelaw04.LatticeKernel'. -/
def latticeKernelUptoCard : Claim7 := { stood := { row := latticeKernelUptoRow, standIns := [], harness := (true, "2a55c8c770411d0033a71932175e8e630641c3bf870bcb95329879352daafdde"), looks := false }, kinds := [], alts := [], laidByText := true, laidKinds := [.data, .pinned], laidTests := true, laidLooks := .later }
def LatticeKernelUptoCardSaid : Prop := Claim7.holds Tryz.pinned (.plain (OpenSpec.upto latticeKernelSpec)) latticeKernelUptoCard

/-- THE SECOND FORM's CARD OF 'cocyclelaw04.LatticeQuotients'. -/
def latticeQuotientsUptoCard : Claim7 := { stood := { row := latticeQuotientsUptoRow, standIns := [], harness := (true, "2a55c8c770411d0033a71932175e8e630641c3bf870bcb95329879352daafdde"), looks := false }, kinds := [], alts := [], laidByText := true, laidKinds := [.data, .pinned], laidTests := true, laidLooks := .later }
def LatticeQuotientsUptoCardSaid : Prop := Claim7.holds Tryz.pinned (.plain (OpenSpec.upto latticeQuotientsSpec)) latticeQuotientsUptoCard

/-- THE SECOND FORM's CARD OF 'cocyclelaw04.LatticeGenerates'. -/
def latticeGeneratesUptoCard : Claim7 := { stood := { row := latticeGeneratesUptoRow, standIns := [], harness := (true, "2a55c8c770411d0033a71932175e8e630641c3bf870bcb95329879352daafdde"), looks := false }, kinds := [], alts := [], laidByText := true, laidKinds := [.data, .pinned], laidTests := true, laidLooks := .later }
def LatticeGeneratesUptoCardSaid : Prop := Claim7.holds Tryz.pinned (.plain (OpenSpec.upto latticeGeneratesSpec)) latticeGeneratesUptoCard

/-- THE SECOND FORM's CARD OF 'cocyclelaw04.LatticeFactors'. -/
def latticeFactorsUptoCard : Claim7 := { stood := { row := latticeFactorsUptoRow, standIns := [], harness := (true, "2a55c8c770411d0033a71932175e8e630641c3bf870bcb95329879352daafdde"), looks := false }, kinds := [], alts := [], laidByText := true, laidKinds := [.data, .pinned], laidTests := true, laidLooks := .later }
def LatticeFactorsUptoCardSaid : Prop := Claim7.holds Tryz.pinned (.plain (OpenSpec.upto latticeFactorsSpec)) latticeFactorsUptoCard

/-- THE SECOND FORM's CARD OF 'cocyclelaw04.LatticeKeeps'. -/
def latticeKeepsUptoCard : Claim7 := { stood := { row := latticeKeepsUptoRow, standIns := [], harness := (true, "2a55c8c770411d0033a71932175e8e630641c3bf870bcb95329879352daafdde"), looks := false }, kinds := [], alts := [], laidByText := true, laidKinds := [.data, .pinned], laidTests := true, laidLooks := .later }
def LatticeKeepsUptoCardSaid : Prop := Claim7.holds Tryz.pinned (.plain (OpenSpec.upto latticeKeepsSpec)) latticeKeepsUptoCard

/-- THE SECOND FORM's CARD OF 'cocyclelaw04.LatticeBuilt'. -/
def latticeBuiltUptoCard : Claim7 := { stood := { row := latticeBuiltUptoRow, standIns := [], harness := (true, "2a55c8c770411d0033a71932175e8e630641c3bf870bcb95329879352daafdde"), looks := false }, kinds := [], alts := [], laidByText := true, laidKinds := [.data, .pinned], laidTests := true, laidLooks := .later }
def LatticeBuiltUptoCardSaid : Prop := Claim7.holds Tryz.pinned (.plain (OpenSpec.upto latticeBuiltSpec)) latticeBuiltUptoCard

/-- THE SECOND FORM's CARD OF 'cocyclelaw04.LatticeSolves'. -/
def latticeSolvesUptoCard : Claim7 := { stood := { row := latticeSolvesUptoRow, standIns := [], harness := (true, "2a55c8c770411d0033a71932175e8e630641c3bf870bcb95329879352daafdde"), looks := false }, kinds := [], alts := [], laidByText := true, laidKinds := [.data, .pinned], laidTests := true, laidLooks := .later }
def LatticeSolvesUptoCardSaid : Prop := Claim7.holds Tryz.pinned (.plain (OpenSpec.upto latticeSolvesSpec)) latticeSolvesUptoCard

/-- THE SECOND FORM's CARD OF 'cocyclelaw04.LatticeChecks'. -/
def latticeChecksUptoCard : Claim7 := { stood := { row := latticeChecksUptoRow, standIns := [], harness := (true, "2a55c8c770411d0033a71932175e8e630641c3bf870bcb95329879352daafdde"), looks := false }, kinds := [], alts := [], laidByText := true, laidKinds := [.data, .pinned], laidTests := true, laidLooks := .later }
def LatticeChecksUptoCardSaid : Prop := Claim7.holds Tryz.pinned (.plain (OpenSpec.upto latticeChecksSpec)) latticeChecksUptoCard

/-- THE SECOND FORM's CARD OF 'cocyclelaw04.LatticeNever'. -/
def latticeNeverUptoCard : Claim7 := { stood := { row := latticeNeverUptoRow, standIns := [], harness := (true, "2a55c8c770411d0033a71932175e8e630641c3bf870bcb95329879352daafdde"), looks := false }, kinds := [], alts := [], laidByText := true, laidKinds := [.data, .pinned], laidTests := true, laidLooks := .later }
def LatticeNeverUptoCardSaid : Prop := Claim7.holds Tryz.pinned (.plain (OpenSpec.upto latticeNeverSpec)) latticeNeverUptoCard

/-- THE SECOND FORM's CARD OF 'cocyclelaw04.LatticeWrong'. -/
def latticeWrongUptoCard : Claim7 := { stood := { row := latticeWrongUptoRow, standIns := [], harness := (true, "2a55c8c770411d0033a71932175e8e630641c3bf870bcb95329879352daafdde"), looks := false }, kinds := [], alts := [], laidByText := true, laidKinds := [.data, .pinned], laidTests := true, laidLooks := .later }
def LatticeWrongUptoCardSaid : Prop := Claim7.holds Tryz.pinned (.plain (OpenSpec.upto latticeWrongSpec)) latticeWrongUptoCard
end Rows
end Go.Proofs.YtljmapfihjkafaaGreatDoor
