/-
  DERIVED. GIVEN WITH THE SEED: THE CARDS: each row of YtbofgpenopcfaaaGreatDoorRows.lean that lists a variable, with what it lists TIED to the program's text (the seventh form; the later family's looks); each row that meets fmt, with fmt's text TOLD by the authors' own Lean function (tested against real Go, not proved from fmt's source: count such statements apart). THE CARD IS WHAT COUNTS. Prove the row's statement (the work); the ties are given (YtbofgpenopcfaaaGreatDoorTie.lean); close each card by the builder's one call (the guide's Derived/Test/ToyasCard.lean, 'card_holds'). Laid BY PROGRAM, IN A SANDBOX (cutbox-door.mjs). By AI agents, Wed Nov 11 2026. No macro, syntax, notation, axiom, sorry.
-/
import Derived.Test.YtbofgpenopcfaaaGreatDoorRows
import GoSem.ClaimSeven
namespace Go.Proofs.YtbofgpenopcfaaaGreatDoor
namespace Rows

/-- THE TIED CARD OF 'cocyclelaw26.BudgetKnown'. -/
def budgetKnownCard : Claim7 := { stood := { row := budgetKnownRow, standIns := [], harness := (true, "4eee24e68e9da2f3535c5523be67926112959e5e11c21b25d64df063dc7a57d9"), looks := false }, kinds := [], alts := [], laidByText := true, laidKinds := [.data, .data, .data, .data, .pinned], laidTests := true, laidLooks := .later }
def BudgetKnownCardSaid : Prop := Claim7.holds Tryz.pinned (.plain (OpenSpec.ofChange budgetKnownSpec)) budgetKnownCard

/-- THE TIED CARD OF 'cocyclelaw26.BudgetForms'. -/
def budgetFormsCard : Claim7 := { stood := { row := budgetFormsRow, standIns := [], harness := (true, "4eee24e68e9da2f3535c5523be67926112959e5e11c21b25d64df063dc7a57d9"), looks := false }, kinds := [], alts := [], laidByText := true, laidKinds := [.data, .data, .data, .data, .pinned], laidTests := true, laidLooks := .later }
def BudgetFormsCardSaid : Prop := Claim7.holds Tryz.pinned (.plain (OpenSpec.ofChange budgetFormsSpec)) budgetFormsCard

/-- THE TIED CARD OF 'cocyclelaw26.BudgetSame'. -/
def budgetSameCard : Claim7 := { stood := { row := budgetSameRow, standIns := [], harness := (true, "4eee24e68e9da2f3535c5523be67926112959e5e11c21b25d64df063dc7a57d9"), looks := false }, kinds := [], alts := [], laidByText := true, laidKinds := [.data, .data, .data, .data, .pinned], laidTests := true, laidLooks := .later }
def BudgetSameCardSaid : Prop := Claim7.holds Tryz.pinned (.plain (OpenSpec.ofChange budgetSameSpec)) budgetSameCard

/-- THE TIED CARD OF 'cocyclelaw26.BudgetRuns'. -/
def budgetRunsCard : Claim7 := { stood := { row := budgetRunsRow, standIns := [], harness := (true, "4eee24e68e9da2f3535c5523be67926112959e5e11c21b25d64df063dc7a57d9"), looks := false }, kinds := [], alts := [], laidByText := true, laidKinds := [.data, .data, .data, .data, .pinned], laidTests := true, laidLooks := .later }
def BudgetRunsCardSaid : Prop := Claim7.holds Tryz.pinned (.plain (OpenSpec.ofChange budgetRunsSpec)) budgetRunsCard

/-- THE TIED CARD OF 'cocyclelaw26.BudgetGreat'. -/
def budgetGreatCard : Claim7 := { stood := { row := budgetGreatRow, standIns := [], harness := (true, "4eee24e68e9da2f3535c5523be67926112959e5e11c21b25d64df063dc7a57d9"), looks := false }, kinds := [], alts := [], laidByText := true, laidKinds := [.data, .data, .data, .data, .pinned], laidTests := true, laidLooks := .later }
def BudgetGreatCardSaid : Prop := Claim7.holds Tryz.pinned (.plain (OpenSpec.ofChange budgetGreatSpec)) budgetGreatCard

/-- THE TIED CARD OF 'cocyclelaw26.BudgetParts'. -/
def budgetPartsCard : Claim7 := { stood := { row := budgetPartsRow, standIns := [], harness := (true, "4eee24e68e9da2f3535c5523be67926112959e5e11c21b25d64df063dc7a57d9"), looks := false }, kinds := [], alts := [], laidByText := true, laidKinds := [.data, .data, .data, .data, .pinned], laidTests := true, laidLooks := .later }
def BudgetPartsCardSaid : Prop := Claim7.holds Tryz.pinned (.plain (OpenSpec.ofChange budgetPartsSpec)) budgetPartsCard

/-- THE TIED CARD OF 'cocyclelaw26.BudgetCounts'. -/
def budgetCountsCard : Claim7 := { stood := { row := budgetCountsRow, standIns := [], harness := (true, "4eee24e68e9da2f3535c5523be67926112959e5e11c21b25d64df063dc7a57d9"), looks := false }, kinds := [], alts := [], laidByText := true, laidKinds := [.data, .data, .data, .data, .pinned], laidTests := true, laidLooks := .later }
def BudgetCountsCardSaid : Prop := Claim7.holds Tryz.pinned (.plain (OpenSpec.ofChange budgetCountsSpec)) budgetCountsCard

/-- THE TIED CARD OF 'cocyclelaw26.BudgetCodes'. -/
def budgetCodesCard : Claim7 := { stood := { row := budgetCodesRow, standIns := [], harness := (true, "4eee24e68e9da2f3535c5523be67926112959e5e11c21b25d64df063dc7a57d9"), looks := false }, kinds := [], alts := [], laidByText := true, laidKinds := [.data, .data, .data, .data, .pinned], laidTests := true, laidLooks := .later }
def BudgetCodesCardSaid : Prop := Claim7.holds Tryz.pinned (.plain (OpenSpec.ofChange budgetCodesSpec)) budgetCodesCard

/-- THE TIED CARD OF 'cocyclelaw26.BudgetLies'. -/
def budgetLiesCard : Claim7 := { stood := { row := budgetLiesRow, standIns := [], harness := (true, "4eee24e68e9da2f3535c5523be67926112959e5e11c21b25d64df063dc7a57d9"), looks := false }, kinds := [], alts := [], laidByText := true, laidKinds := [.data, .data, .data, .data, .pinned], laidTests := true, laidLooks := .later }
def BudgetLiesCardSaid : Prop := Claim7.holds Tryz.pinned (.plain (OpenSpec.ofChange budgetLiesSpec)) budgetLiesCard

/-- THE TIED CARD OF 'cocyclelaw26.BudgetNone'. -/
def budgetNoneCard : Claim7 := { stood := { row := budgetNoneRow, standIns := [], harness := (true, "4eee24e68e9da2f3535c5523be67926112959e5e11c21b25d64df063dc7a57d9"), looks := false }, kinds := [], alts := [], laidByText := true, laidKinds := [.data, .data, .data, .data, .pinned], laidTests := true, laidLooks := .later }
def BudgetNoneCardSaid : Prop := Claim7.holds Tryz.pinned (.plain (OpenSpec.ofChange budgetNoneSpec)) budgetNoneCard

/-- THE SECOND FORM's CARD OF 'cocyclelaw26.BudgetKnown'. -/
def budgetKnownUptoCard : Claim7 := { stood := { row := budgetKnownUptoRow, standIns := [], harness := (true, "4eee24e68e9da2f3535c5523be67926112959e5e11c21b25d64df063dc7a57d9"), looks := false }, kinds := [], alts := [], laidByText := true, laidKinds := [.data, .data, .data, .data, .pinned], laidTests := true, laidLooks := .later }
def BudgetKnownUptoCardSaid : Prop := Claim7.holds Tryz.pinned (.plain (OpenSpec.upto budgetKnownSpec)) budgetKnownUptoCard

/-- THE SECOND FORM's CARD OF 'cocyclelaw26.BudgetForms'. -/
def budgetFormsUptoCard : Claim7 := { stood := { row := budgetFormsUptoRow, standIns := [], harness := (true, "4eee24e68e9da2f3535c5523be67926112959e5e11c21b25d64df063dc7a57d9"), looks := false }, kinds := [], alts := [], laidByText := true, laidKinds := [.data, .data, .data, .data, .pinned], laidTests := true, laidLooks := .later }
def BudgetFormsUptoCardSaid : Prop := Claim7.holds Tryz.pinned (.plain (OpenSpec.upto budgetFormsSpec)) budgetFormsUptoCard

/-- THE SECOND FORM's CARD OF 'cocyclelaw26.BudgetSame'. -/
def budgetSameUptoCard : Claim7 := { stood := { row := budgetSameUptoRow, standIns := [], harness := (true, "4eee24e68e9da2f3535c5523be67926112959e5e11c21b25d64df063dc7a57d9"), looks := false }, kinds := [], alts := [], laidByText := true, laidKinds := [.data, .data, .data, .data, .pinned], laidTests := true, laidLooks := .later }
def BudgetSameUptoCardSaid : Prop := Claim7.holds Tryz.pinned (.plain (OpenSpec.upto budgetSameSpec)) budgetSameUptoCard

/-- THE SECOND FORM's CARD OF 'cocyclelaw26.BudgetRuns'. -/
def budgetRunsUptoCard : Claim7 := { stood := { row := budgetRunsUptoRow, standIns := [], harness := (true, "4eee24e68e9da2f3535c5523be67926112959e5e11c21b25d64df063dc7a57d9"), looks := false }, kinds := [], alts := [], laidByText := true, laidKinds := [.data, .data, .data, .data, .pinned], laidTests := true, laidLooks := .later }
def BudgetRunsUptoCardSaid : Prop := Claim7.holds Tryz.pinned (.plain (OpenSpec.upto budgetRunsSpec)) budgetRunsUptoCard

/-- THE SECOND FORM's CARD OF 'cocyclelaw26.BudgetGreat'. -/
def budgetGreatUptoCard : Claim7 := { stood := { row := budgetGreatUptoRow, standIns := [], harness := (true, "4eee24e68e9da2f3535c5523be67926112959e5e11c21b25d64df063dc7a57d9"), looks := false }, kinds := [], alts := [], laidByText := true, laidKinds := [.data, .data, .data, .data, .pinned], laidTests := true, laidLooks := .later }
def BudgetGreatUptoCardSaid : Prop := Claim7.holds Tryz.pinned (.plain (OpenSpec.upto budgetGreatSpec)) budgetGreatUptoCard

/-- THE SECOND FORM's CARD OF 'cocyclelaw26.BudgetParts'. -/
def budgetPartsUptoCard : Claim7 := { stood := { row := budgetPartsUptoRow, standIns := [], harness := (true, "4eee24e68e9da2f3535c5523be67926112959e5e11c21b25d64df063dc7a57d9"), looks := false }, kinds := [], alts := [], laidByText := true, laidKinds := [.data, .data, .data, .data, .pinned], laidTests := true, laidLooks := .later }
def BudgetPartsUptoCardSaid : Prop := Claim7.holds Tryz.pinned (.plain (OpenSpec.upto budgetPartsSpec)) budgetPartsUptoCard

/-- THE SECOND FORM's CARD OF 'cocyclelaw26.BudgetCounts'. -/
def budgetCountsUptoCard : Claim7 := { stood := { row := budgetCountsUptoRow, standIns := [], harness := (true, "4eee24e68e9da2f3535c5523be67926112959e5e11c21b25d64df063dc7a57d9"), looks := false }, kinds := [], alts := [], laidByText := true, laidKinds := [.data, .data, .data, .data, .pinned], laidTests := true, laidLooks := .later }
def BudgetCountsUptoCardSaid : Prop := Claim7.holds Tryz.pinned (.plain (OpenSpec.upto budgetCountsSpec)) budgetCountsUptoCard

/-- THE SECOND FORM's CARD OF 'cocyclelaw26.BudgetCodes'. -/
def budgetCodesUptoCard : Claim7 := { stood := { row := budgetCodesUptoRow, standIns := [], harness := (true, "4eee24e68e9da2f3535c5523be67926112959e5e11c21b25d64df063dc7a57d9"), looks := false }, kinds := [], alts := [], laidByText := true, laidKinds := [.data, .data, .data, .data, .pinned], laidTests := true, laidLooks := .later }
def BudgetCodesUptoCardSaid : Prop := Claim7.holds Tryz.pinned (.plain (OpenSpec.upto budgetCodesSpec)) budgetCodesUptoCard

/-- THE SECOND FORM's CARD OF 'cocyclelaw26.BudgetLies'. -/
def budgetLiesUptoCard : Claim7 := { stood := { row := budgetLiesUptoRow, standIns := [], harness := (true, "4eee24e68e9da2f3535c5523be67926112959e5e11c21b25d64df063dc7a57d9"), looks := false }, kinds := [], alts := [], laidByText := true, laidKinds := [.data, .data, .data, .data, .pinned], laidTests := true, laidLooks := .later }
def BudgetLiesUptoCardSaid : Prop := Claim7.holds Tryz.pinned (.plain (OpenSpec.upto budgetLiesSpec)) budgetLiesUptoCard

/-- THE SECOND FORM's CARD OF 'cocyclelaw26.BudgetNone'. -/
def budgetNoneUptoCard : Claim7 := { stood := { row := budgetNoneUptoRow, standIns := [], harness := (true, "4eee24e68e9da2f3535c5523be67926112959e5e11c21b25d64df063dc7a57d9"), looks := false }, kinds := [], alts := [], laidByText := true, laidKinds := [.data, .data, .data, .data, .pinned], laidTests := true, laidLooks := .later }
def BudgetNoneUptoCardSaid : Prop := Claim7.holds Tryz.pinned (.plain (OpenSpec.upto budgetNoneSpec)) budgetNoneUptoCard
end Rows
end Go.Proofs.YtbofgpenopcfaaaGreatDoor
