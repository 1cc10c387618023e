/-
  NARROWER THAN 'FOR EVERY INPUT', by the rows' own cells (each row's printed sentence says how): LatticeKernel: laid · LatticeQuotients: laid · LatticeGenerates: laid · LatticeFactors: laid · LatticeKeeps: laid · LatticeBuilt: laid · LatticeSolves: laid · LatticeChecks: laid · LatticeNever: laid · LatticeWrong: laid.
  DERIVED. THE GIVEN ROWS OF THIS SEAT. 10 by the template 'for every input the law returns true; each argument reads behind the call as it read before'; 0 by the template 'total and deterministic' (their statements: YtljmapfihjkafaaGreatDoorTotals.lean).
  GIVEN WITH THE SEED: the statements are not yours to turn. If you find one false, say at which input.
  Laid BY PROGRAM, IN A SANDBOX (cutbox-rows.mjs): the forced cells as the released guide's own fill.sh prints them over the translation d60310594ac1fa99… (all of the seat's roots in one cut). By AI agents, Wed Nov 11 2026. No macro, syntax, notation, axiom, sorry.
-/
import Derived.Test.YtljmapfihjkafaaGreatDoorChecked
import GoSem.PinnedTables
import GoSem.Claim
import GoSem.ClaimJoined
import GoSem.ClaimMapViews
import Derived.JoinedTies
import Derived.KernelRfl
namespace Go.Proofs.YtljmapfihjkafaaGreatDoor
/- THE CELL 'sum', in the pinned program and in every row, IS THE sha256 OF THE DUMP (.gsa) THAT YtljmapfihjkafaaGreatDoorProg.lean LOADS. Nothing in Lean hashes anything: it is a label: what it is worth is what the hold of that sum in a sandbox is worth. -/
noncomputable def Tryz.pinned : Pinned := { name := "ytljmapfihjkafaagreatdoor", sum := "d60310594ac1fa998e89ddbabda150c8e94b978e2f4d8b28bd525788104b6a61", checked := Tryz.checked }
namespace Rows
def none {H : Type} : Left H := { results := [], args := [] }

/- WHAT THE LISTED PACKAGE-LEVEL VARIABLES READ AS WHEN THE CALL BEGINS. Each datum BY PROGRAM (the guide's laid-datum.mjs) off the statement by which the dump's own 'gosem.cut.vars' lays the variable. In a bare row this is a premise. The card (YtljmapfihjkafaaGreatDoorCards.lean) ties it to the program's text. -/
def laid_unicode_utf8_acceptRanges {H : Type} : DataW H := .agg [.agg [.lit (.int .u8 128), .lit (.int .u8 191)], .agg [.lit (.int .u8 160), .lit (.int .u8 191)], .agg [.lit (.int .u8 128), .lit (.int .u8 159)], .agg [.lit (.int .u8 144), .lit (.int .u8 191)], .agg [.lit (.int .u8 128), .lit (.int .u8 143)], .agg [.lit (.int .u8 0), .lit (.int .u8 0)], .agg [.lit (.int .u8 0), .lit (.int .u8 0)], .agg [.lit (.int .u8 0), .lit (.int .u8 0)], .agg [.lit (.int .u8 0), .lit (.int .u8 0)], .agg [.lit (.int .u8 0), .lit (.int .u8 0)], .agg [.lit (.int .u8 0), .lit (.int .u8 0)], .agg [.lit (.int .u8 0), .lit (.int .u8 0)], .agg [.lit (.int .u8 0), .lit (.int .u8 0)], .agg [.lit (.int .u8 0), .lit (.int .u8 0)], .agg [.lit (.int .u8 0), .lit (.int .u8 0)], .agg [.lit (.int .u8 0), .lit (.int .u8 0)]]
/-- One of Go's own tables, pinned by name: the form's constant. -/
def laid_unicode_utf8_first : DataW Unit := Go.Pinned.utf8First

/-- 'cocyclelaw04.LatticeKernel': WHATEVER THE INPUT: true; the input reads as it did. -/
def latticeKernelSpec : ChangeSpec := { name := "latticeKernel", fn := fun _ => fun
  | [d1, d2] => { results := [.lit (.bool true)], args := [d1, d2] }
  | _ => none }
def latticeKernelRow : OpenClaim := { program := "ytljmapfihjkafaagreatdoor", sum := "d60310594ac1fa998e89ddbabda150c8e94b978e2f4d8b28bd525788104b6a61", func := "cocycle/cocyclelaw04.LatticeKernel", spec := "latticeKernel", inPlace := ["internal/bytealg.IndexByteString", "internal/bytealg.IndexString"], unfollowed := true, recurses := true, named := ["unicode/utf8.first", "unicode/utf8.acceptRanges", "internal/bytealg.MaxLen"], apart := false, laid := [("unicode/utf8.acceptRanges", laid_unicode_utf8_acceptRanges), ("unicode/utf8.first", laid_unicode_utf8_first)] }
def LatticeKernelSaid : Prop := latticeKernelRow.holds Tryz.pinned (OpenSpec.ofChange latticeKernelSpec)

/-- ITS FALSE NEIGHBOUR: 'it returns false'. Refute it at one input. -/
def latticeKernelWrong : ChangeSpec := { name := "latticeKernel", fn := fun _ => fun
  | [d1, d2] => { results := [.lit (.bool false)], args := [d1, d2] }
  | _ => none }
def LatticeKernelWrongFalsely : Prop := latticeKernelRow.holds Tryz.pinned (OpenSpec.ofChange latticeKernelWrong)

/-- 'cocyclelaw04.LatticeQuotients': WHATEVER THE INPUT: true; the input reads as it did. -/
def latticeQuotientsSpec : ChangeSpec := { name := "latticeQuotients", fn := fun _ => fun
  | [d1, d2, d3] => { results := [.lit (.bool true)], args := [d1, d2, d3] }
  | _ => none }
def latticeQuotientsRow : OpenClaim := { program := "ytljmapfihjkafaagreatdoor", sum := "d60310594ac1fa998e89ddbabda150c8e94b978e2f4d8b28bd525788104b6a61", func := "cocycle/cocyclelaw04.LatticeQuotients", spec := "latticeQuotients", inPlace := ["internal/bytealg.IndexByteString", "internal/bytealg.IndexString"], unfollowed := true, recurses := true, named := ["unicode/utf8.first", "unicode/utf8.acceptRanges", "internal/bytealg.MaxLen"], apart := false, laid := [("unicode/utf8.acceptRanges", laid_unicode_utf8_acceptRanges), ("unicode/utf8.first", laid_unicode_utf8_first)] }
def LatticeQuotientsSaid : Prop := latticeQuotientsRow.holds Tryz.pinned (OpenSpec.ofChange latticeQuotientsSpec)

/-- ITS FALSE NEIGHBOUR: 'it returns false'. Refute it at one input. -/
def latticeQuotientsWrong : ChangeSpec := { name := "latticeQuotients", fn := fun _ => fun
  | [d1, d2, d3] => { results := [.lit (.bool false)], args := [d1, d2, d3] }
  | _ => none }
def LatticeQuotientsWrongFalsely : Prop := latticeQuotientsRow.holds Tryz.pinned (OpenSpec.ofChange latticeQuotientsWrong)

/-- 'cocyclelaw04.LatticeGenerates': WHATEVER THE INPUT: true; the input reads as it did. -/
def latticeGeneratesSpec : ChangeSpec := { name := "latticeGenerates", fn := fun _ => fun
  | [d1, d2, d3] => { results := [.lit (.bool true)], args := [d1, d2, d3] }
  | _ => none }
def latticeGeneratesRow : OpenClaim := { program := "ytljmapfihjkafaagreatdoor", sum := "d60310594ac1fa998e89ddbabda150c8e94b978e2f4d8b28bd525788104b6a61", func := "cocycle/cocyclelaw04.LatticeGenerates", spec := "latticeGenerates", inPlace := ["internal/bytealg.IndexByteString", "internal/bytealg.IndexString"], unfollowed := true, recurses := true, named := ["unicode/utf8.first", "unicode/utf8.acceptRanges", "internal/bytealg.MaxLen"], apart := false, laid := [("unicode/utf8.acceptRanges", laid_unicode_utf8_acceptRanges), ("unicode/utf8.first", laid_unicode_utf8_first)] }
def LatticeGeneratesSaid : Prop := latticeGeneratesRow.holds Tryz.pinned (OpenSpec.ofChange latticeGeneratesSpec)

/-- ITS FALSE NEIGHBOUR: 'it returns false'. Refute it at one input. -/
def latticeGeneratesWrong : ChangeSpec := { name := "latticeGenerates", fn := fun _ => fun
  | [d1, d2, d3] => { results := [.lit (.bool false)], args := [d1, d2, d3] }
  | _ => none }
def LatticeGeneratesWrongFalsely : Prop := latticeGeneratesRow.holds Tryz.pinned (OpenSpec.ofChange latticeGeneratesWrong)

/-- 'cocyclelaw04.LatticeFactors': WHATEVER THE INPUT: true; the input reads as it did. -/
def latticeFactorsSpec : ChangeSpec := { name := "latticeFactors", fn := fun _ => fun
  | [d1, d2] => { results := [.lit (.bool true)], args := [d1, d2] }
  | _ => none }
def latticeFactorsRow : OpenClaim := { program := "ytljmapfihjkafaagreatdoor", sum := "d60310594ac1fa998e89ddbabda150c8e94b978e2f4d8b28bd525788104b6a61", func := "cocycle/cocyclelaw04.LatticeFactors", spec := "latticeFactors", inPlace := ["internal/bytealg.IndexByteString", "internal/bytealg.IndexString"], unfollowed := true, recurses := true, named := ["unicode/utf8.first", "unicode/utf8.acceptRanges", "internal/bytealg.MaxLen"], apart := false, laid := [("unicode/utf8.acceptRanges", laid_unicode_utf8_acceptRanges), ("unicode/utf8.first", laid_unicode_utf8_first)] }
def LatticeFactorsSaid : Prop := latticeFactorsRow.holds Tryz.pinned (OpenSpec.ofChange latticeFactorsSpec)

/-- ITS FALSE NEIGHBOUR: 'it returns false'. Refute it at one input. -/
def latticeFactorsWrong : ChangeSpec := { name := "latticeFactors", fn := fun _ => fun
  | [d1, d2] => { results := [.lit (.bool false)], args := [d1, d2] }
  | _ => none }
def LatticeFactorsWrongFalsely : Prop := latticeFactorsRow.holds Tryz.pinned (OpenSpec.ofChange latticeFactorsWrong)

/-- 'cocyclelaw04.LatticeKeeps': WHATEVER THE INPUT: true; the input reads as it did. -/
def latticeKeepsSpec : ChangeSpec := { name := "latticeKeeps", fn := fun _ => fun
  | [d1, d2] => { results := [.lit (.bool true)], args := [d1, d2] }
  | _ => none }
def latticeKeepsRow : OpenClaim := { program := "ytljmapfihjkafaagreatdoor", sum := "d60310594ac1fa998e89ddbabda150c8e94b978e2f4d8b28bd525788104b6a61", func := "cocycle/cocyclelaw04.LatticeKeeps", spec := "latticeKeeps", inPlace := ["internal/bytealg.IndexByteString", "internal/bytealg.IndexString"], unfollowed := true, recurses := true, named := ["unicode/utf8.first", "unicode/utf8.acceptRanges", "internal/bytealg.MaxLen"], apart := false, laid := [("unicode/utf8.acceptRanges", laid_unicode_utf8_acceptRanges), ("unicode/utf8.first", laid_unicode_utf8_first)] }
def LatticeKeepsSaid : Prop := latticeKeepsRow.holds Tryz.pinned (OpenSpec.ofChange latticeKeepsSpec)

/-- ITS FALSE NEIGHBOUR: 'it returns false'. Refute it at one input. -/
def latticeKeepsWrong : ChangeSpec := { name := "latticeKeeps", fn := fun _ => fun
  | [d1, d2] => { results := [.lit (.bool false)], args := [d1, d2] }
  | _ => none }
def LatticeKeepsWrongFalsely : Prop := latticeKeepsRow.holds Tryz.pinned (OpenSpec.ofChange latticeKeepsWrong)

/-- 'cocyclelaw04.LatticeBuilt': WHATEVER THE INPUT: true; the input reads as it did. -/
def latticeBuiltSpec : ChangeSpec := { name := "latticeBuilt", fn := fun _ => fun
  | [d1, d2, d3] => { results := [.lit (.bool true)], args := [d1, d2, d3] }
  | _ => none }
def latticeBuiltRow : OpenClaim := { program := "ytljmapfihjkafaagreatdoor", sum := "d60310594ac1fa998e89ddbabda150c8e94b978e2f4d8b28bd525788104b6a61", func := "cocycle/cocyclelaw04.LatticeBuilt", spec := "latticeBuilt", inPlace := ["internal/bytealg.IndexByteString", "internal/bytealg.IndexString"], unfollowed := true, recurses := true, named := ["unicode/utf8.first", "unicode/utf8.acceptRanges", "internal/bytealg.MaxLen"], apart := false, laid := [("unicode/utf8.acceptRanges", laid_unicode_utf8_acceptRanges), ("unicode/utf8.first", laid_unicode_utf8_first)] }
def LatticeBuiltSaid : Prop := latticeBuiltRow.holds Tryz.pinned (OpenSpec.ofChange latticeBuiltSpec)

/-- ITS FALSE NEIGHBOUR: 'it returns false'. Refute it at one input. -/
def latticeBuiltWrong : ChangeSpec := { name := "latticeBuilt", fn := fun _ => fun
  | [d1, d2, d3] => { results := [.lit (.bool false)], args := [d1, d2, d3] }
  | _ => none }
def LatticeBuiltWrongFalsely : Prop := latticeBuiltRow.holds Tryz.pinned (OpenSpec.ofChange latticeBuiltWrong)

/-- 'cocyclelaw04.LatticeSolves': WHATEVER THE INPUT: true; the input reads as it did. -/
def latticeSolvesSpec : ChangeSpec := { name := "latticeSolves", fn := fun _ => fun
  | [d1, d2, d3] => { results := [.lit (.bool true)], args := [d1, d2, d3] }
  | _ => none }
def latticeSolvesRow : OpenClaim := { program := "ytljmapfihjkafaagreatdoor", sum := "d60310594ac1fa998e89ddbabda150c8e94b978e2f4d8b28bd525788104b6a61", func := "cocycle/cocyclelaw04.LatticeSolves", spec := "latticeSolves", inPlace := ["internal/bytealg.IndexByteString", "internal/bytealg.IndexString"], unfollowed := true, recurses := true, named := ["unicode/utf8.first", "unicode/utf8.acceptRanges", "internal/bytealg.MaxLen"], apart := false, laid := [("unicode/utf8.acceptRanges", laid_unicode_utf8_acceptRanges), ("unicode/utf8.first", laid_unicode_utf8_first)] }
def LatticeSolvesSaid : Prop := latticeSolvesRow.holds Tryz.pinned (OpenSpec.ofChange latticeSolvesSpec)

/-- ITS FALSE NEIGHBOUR: 'it returns false'. Refute it at one input. -/
def latticeSolvesWrong : ChangeSpec := { name := "latticeSolves", fn := fun _ => fun
  | [d1, d2, d3] => { results := [.lit (.bool false)], args := [d1, d2, d3] }
  | _ => none }
def LatticeSolvesWrongFalsely : Prop := latticeSolvesRow.holds Tryz.pinned (OpenSpec.ofChange latticeSolvesWrong)

/-- 'cocyclelaw04.LatticeChecks': WHATEVER THE INPUT: true; the input reads as it did. -/
def latticeChecksSpec : ChangeSpec := { name := "latticeChecks", fn := fun _ => fun
  | [d1, d2, d3] => { results := [.lit (.bool true)], args := [d1, d2, d3] }
  | _ => none }
def latticeChecksRow : OpenClaim := { program := "ytljmapfihjkafaagreatdoor", sum := "d60310594ac1fa998e89ddbabda150c8e94b978e2f4d8b28bd525788104b6a61", func := "cocycle/cocyclelaw04.LatticeChecks", spec := "latticeChecks", inPlace := ["internal/bytealg.IndexByteString", "internal/bytealg.IndexString"], unfollowed := true, recurses := true, named := ["unicode/utf8.first", "unicode/utf8.acceptRanges", "internal/bytealg.MaxLen"], apart := false, laid := [("unicode/utf8.acceptRanges", laid_unicode_utf8_acceptRanges), ("unicode/utf8.first", laid_unicode_utf8_first)] }
def LatticeChecksSaid : Prop := latticeChecksRow.holds Tryz.pinned (OpenSpec.ofChange latticeChecksSpec)

/-- ITS FALSE NEIGHBOUR: 'it returns false'. Refute it at one input. -/
def latticeChecksWrong : ChangeSpec := { name := "latticeChecks", fn := fun _ => fun
  | [d1, d2, d3] => { results := [.lit (.bool false)], args := [d1, d2, d3] }
  | _ => none }
def LatticeChecksWrongFalsely : Prop := latticeChecksRow.holds Tryz.pinned (OpenSpec.ofChange latticeChecksWrong)

/-- 'cocyclelaw04.LatticeNever': WHATEVER THE INPUT: true; the input reads as it did. -/
def latticeNeverSpec : ChangeSpec := { name := "latticeNever", fn := fun _ => fun
  | [d1, d2, d3] => { results := [.lit (.bool true)], args := [d1, d2, d3] }
  | _ => none }
def latticeNeverRow : OpenClaim := { program := "ytljmapfihjkafaagreatdoor", sum := "d60310594ac1fa998e89ddbabda150c8e94b978e2f4d8b28bd525788104b6a61", func := "cocycle/cocyclelaw04.LatticeNever", spec := "latticeNever", inPlace := ["internal/bytealg.IndexByteString", "internal/bytealg.IndexString"], unfollowed := true, recurses := true, named := ["unicode/utf8.first", "unicode/utf8.acceptRanges", "internal/bytealg.MaxLen"], apart := false, laid := [("unicode/utf8.acceptRanges", laid_unicode_utf8_acceptRanges), ("unicode/utf8.first", laid_unicode_utf8_first)] }
def LatticeNeverSaid : Prop := latticeNeverRow.holds Tryz.pinned (OpenSpec.ofChange latticeNeverSpec)

/-- ITS FALSE NEIGHBOUR: 'it returns false'. Refute it at one input. -/
def latticeNeverWrong : ChangeSpec := { name := "latticeNever", fn := fun _ => fun
  | [d1, d2, d3] => { results := [.lit (.bool false)], args := [d1, d2, d3] }
  | _ => none }
def LatticeNeverWrongFalsely : Prop := latticeNeverRow.holds Tryz.pinned (OpenSpec.ofChange latticeNeverWrong)

/-- 'cocyclelaw04.LatticeWrong': WHATEVER THE INPUT: true; the input reads as it did. -/
def latticeWrongSpec : ChangeSpec := { name := "latticeWrong", fn := fun _ => fun
  | [d1, d2, d3] => { results := [.lit (.bool true)], args := [d1, d2, d3] }
  | _ => none }
def latticeWrongRow : OpenClaim := { program := "ytljmapfihjkafaagreatdoor", sum := "d60310594ac1fa998e89ddbabda150c8e94b978e2f4d8b28bd525788104b6a61", func := "cocycle/cocyclelaw04.LatticeWrong", spec := "latticeWrong", inPlace := ["internal/bytealg.IndexByteString", "internal/bytealg.IndexString"], unfollowed := true, recurses := true, named := ["unicode/utf8.first", "unicode/utf8.acceptRanges", "internal/bytealg.MaxLen"], apart := false, laid := [("unicode/utf8.acceptRanges", laid_unicode_utf8_acceptRanges), ("unicode/utf8.first", laid_unicode_utf8_first)] }
def LatticeWrongSaid : Prop := latticeWrongRow.holds Tryz.pinned (OpenSpec.ofChange latticeWrongSpec)

/-- ITS FALSE NEIGHBOUR: 'it returns false'. Refute it at one input. -/
def latticeWrongWrong : ChangeSpec := { name := "latticeWrong", fn := fun _ => fun
  | [d1, d2, d3] => { results := [.lit (.bool false)], args := [d1, d2, d3] }
  | _ => none }
def LatticeWrongWrongFalsely : Prop := latticeWrongRow.holds Tryz.pinned (OpenSpec.ofChange latticeWrongWrong)

/- THE SECOND FORM. 'bulk': how many values and letters a reading holds, each counted each time it is reached (what is shared counts as often as it is met; a slice's spare places count too). A statement '..UptoSaid' is the law's where the arguments, and the package variables that the reading takes, are together of bulk at most 1048576: NARROWER than '..Said'. Prove '..Said' where nothing that the law and all that it calls make is longer than what came in: it says more and counts as full. Else prove '..UptoSaid'. A law counts once. -/
mutual
def uptoBulk {H : Type} : DataW H → Nat
  | .lit (.string bytes) => bytes.length + 1
  | .lit _ => 1
  | .nil => 1
  | .ptr d => uptoBulk d + 1
  | .slice elems spare => uptoBulkAll elems + uptoBulkAll spare + 1
  | .agg parts => uptoBulkAll parts + 1
  | .iface _ d => uptoBulk d + 1
  | .map entries => uptoBulkEntries entries + 1
  | .held _ => 1
def uptoBulkAll {H : Type} : List (DataW H) → Nat
  | [] => 0
  | d :: r => uptoBulk d + uptoBulkAll r
def uptoBulkEntries {H : Type} : List (Lit × DataW H) → Nat
  | [] => 0
  | x :: r => uptoBulkEntry x + uptoBulkEntries r
def uptoBulkEntry {H : Type} : Lit × DataW H → Nat
  | (.string bytes, d) => bytes.length + uptoBulk d + 1
  | (_, d) => uptoBulk d + 1
 end
def uptoSmall : (H : Type) → List (DataW H) → Bool := fun _ ds => decide (uptoBulkAll ds ≤ 1048576)
def OpenSpec.upto (s : _root_.Go.ChangeSpec) : _root_.Go.OpenSpec := { _root_.Go.OpenSpec.ofChange s with cond := some uptoSmall }

/-- 'cocyclelaw04.LatticeKernel', WHERE WHAT IT READS IS OF BULK AT MOST 1048576: true; the input reads as it did. -/
def latticeKernelUptoRow : OpenClaim := { program := "ytljmapfihjkafaagreatdoor", sum := "d60310594ac1fa998e89ddbabda150c8e94b978e2f4d8b28bd525788104b6a61", func := "cocycle/cocyclelaw04.LatticeKernel", spec := "latticeKernel", inPlace := ["internal/bytealg.IndexByteString", "internal/bytealg.IndexString"], unfollowed := true, recurses := true, named := ["unicode/utf8.first", "unicode/utf8.acceptRanges", "internal/bytealg.MaxLen"], apart := false, laid := [("unicode/utf8.acceptRanges", laid_unicode_utf8_acceptRanges), ("unicode/utf8.first", laid_unicode_utf8_first)], narrowed := true }
def LatticeKernelUptoSaid : Prop := latticeKernelUptoRow.holds Tryz.pinned (OpenSpec.upto latticeKernelSpec)

/-- 'cocyclelaw04.LatticeQuotients', WHERE WHAT IT READS IS OF BULK AT MOST 1048576: true; the input reads as it did. -/
def latticeQuotientsUptoRow : OpenClaim := { program := "ytljmapfihjkafaagreatdoor", sum := "d60310594ac1fa998e89ddbabda150c8e94b978e2f4d8b28bd525788104b6a61", func := "cocycle/cocyclelaw04.LatticeQuotients", spec := "latticeQuotients", inPlace := ["internal/bytealg.IndexByteString", "internal/bytealg.IndexString"], unfollowed := true, recurses := true, named := ["unicode/utf8.first", "unicode/utf8.acceptRanges", "internal/bytealg.MaxLen"], apart := false, laid := [("unicode/utf8.acceptRanges", laid_unicode_utf8_acceptRanges), ("unicode/utf8.first", laid_unicode_utf8_first)], narrowed := true }
def LatticeQuotientsUptoSaid : Prop := latticeQuotientsUptoRow.holds Tryz.pinned (OpenSpec.upto latticeQuotientsSpec)

/-- 'cocyclelaw04.LatticeGenerates', WHERE WHAT IT READS IS OF BULK AT MOST 1048576: true; the input reads as it did. -/
def latticeGeneratesUptoRow : OpenClaim := { program := "ytljmapfihjkafaagreatdoor", sum := "d60310594ac1fa998e89ddbabda150c8e94b978e2f4d8b28bd525788104b6a61", func := "cocycle/cocyclelaw04.LatticeGenerates", spec := "latticeGenerates", inPlace := ["internal/bytealg.IndexByteString", "internal/bytealg.IndexString"], unfollowed := true, recurses := true, named := ["unicode/utf8.first", "unicode/utf8.acceptRanges", "internal/bytealg.MaxLen"], apart := false, laid := [("unicode/utf8.acceptRanges", laid_unicode_utf8_acceptRanges), ("unicode/utf8.first", laid_unicode_utf8_first)], narrowed := true }
def LatticeGeneratesUptoSaid : Prop := latticeGeneratesUptoRow.holds Tryz.pinned (OpenSpec.upto latticeGeneratesSpec)

/-- 'cocyclelaw04.LatticeFactors', WHERE WHAT IT READS IS OF BULK AT MOST 1048576: true; the input reads as it did. -/
def latticeFactorsUptoRow : OpenClaim := { program := "ytljmapfihjkafaagreatdoor", sum := "d60310594ac1fa998e89ddbabda150c8e94b978e2f4d8b28bd525788104b6a61", func := "cocycle/cocyclelaw04.LatticeFactors", spec := "latticeFactors", inPlace := ["internal/bytealg.IndexByteString", "internal/bytealg.IndexString"], unfollowed := true, recurses := true, named := ["unicode/utf8.first", "unicode/utf8.acceptRanges", "internal/bytealg.MaxLen"], apart := false, laid := [("unicode/utf8.acceptRanges", laid_unicode_utf8_acceptRanges), ("unicode/utf8.first", laid_unicode_utf8_first)], narrowed := true }
def LatticeFactorsUptoSaid : Prop := latticeFactorsUptoRow.holds Tryz.pinned (OpenSpec.upto latticeFactorsSpec)

/-- 'cocyclelaw04.LatticeKeeps', WHERE WHAT IT READS IS OF BULK AT MOST 1048576: true; the input reads as it did. -/
def latticeKeepsUptoRow : OpenClaim := { program := "ytljmapfihjkafaagreatdoor", sum := "d60310594ac1fa998e89ddbabda150c8e94b978e2f4d8b28bd525788104b6a61", func := "cocycle/cocyclelaw04.LatticeKeeps", spec := "latticeKeeps", inPlace := ["internal/bytealg.IndexByteString", "internal/bytealg.IndexString"], unfollowed := true, recurses := true, named := ["unicode/utf8.first", "unicode/utf8.acceptRanges", "internal/bytealg.MaxLen"], apart := false, laid := [("unicode/utf8.acceptRanges", laid_unicode_utf8_acceptRanges), ("unicode/utf8.first", laid_unicode_utf8_first)], narrowed := true }
def LatticeKeepsUptoSaid : Prop := latticeKeepsUptoRow.holds Tryz.pinned (OpenSpec.upto latticeKeepsSpec)

/-- 'cocyclelaw04.LatticeBuilt', WHERE WHAT IT READS IS OF BULK AT MOST 1048576: true; the input reads as it did. -/
def latticeBuiltUptoRow : OpenClaim := { program := "ytljmapfihjkafaagreatdoor", sum := "d60310594ac1fa998e89ddbabda150c8e94b978e2f4d8b28bd525788104b6a61", func := "cocycle/cocyclelaw04.LatticeBuilt", spec := "latticeBuilt", inPlace := ["internal/bytealg.IndexByteString", "internal/bytealg.IndexString"], unfollowed := true, recurses := true, named := ["unicode/utf8.first", "unicode/utf8.acceptRanges", "internal/bytealg.MaxLen"], apart := false, laid := [("unicode/utf8.acceptRanges", laid_unicode_utf8_acceptRanges), ("unicode/utf8.first", laid_unicode_utf8_first)], narrowed := true }
def LatticeBuiltUptoSaid : Prop := latticeBuiltUptoRow.holds Tryz.pinned (OpenSpec.upto latticeBuiltSpec)

/-- 'cocyclelaw04.LatticeSolves', WHERE WHAT IT READS IS OF BULK AT MOST 1048576: true; the input reads as it did. -/
def latticeSolvesUptoRow : OpenClaim := { program := "ytljmapfihjkafaagreatdoor", sum := "d60310594ac1fa998e89ddbabda150c8e94b978e2f4d8b28bd525788104b6a61", func := "cocycle/cocyclelaw04.LatticeSolves", spec := "latticeSolves", inPlace := ["internal/bytealg.IndexByteString", "internal/bytealg.IndexString"], unfollowed := true, recurses := true, named := ["unicode/utf8.first", "unicode/utf8.acceptRanges", "internal/bytealg.MaxLen"], apart := false, laid := [("unicode/utf8.acceptRanges", laid_unicode_utf8_acceptRanges), ("unicode/utf8.first", laid_unicode_utf8_first)], narrowed := true }
def LatticeSolvesUptoSaid : Prop := latticeSolvesUptoRow.holds Tryz.pinned (OpenSpec.upto latticeSolvesSpec)

/-- 'cocyclelaw04.LatticeChecks', WHERE WHAT IT READS IS OF BULK AT MOST 1048576: true; the input reads as it did. -/
def latticeChecksUptoRow : OpenClaim := { program := "ytljmapfihjkafaagreatdoor", sum := "d60310594ac1fa998e89ddbabda150c8e94b978e2f4d8b28bd525788104b6a61", func := "cocycle/cocyclelaw04.LatticeChecks", spec := "latticeChecks", inPlace := ["internal/bytealg.IndexByteString", "internal/bytealg.IndexString"], unfollowed := true, recurses := true, named := ["unicode/utf8.first", "unicode/utf8.acceptRanges", "internal/bytealg.MaxLen"], apart := false, laid := [("unicode/utf8.acceptRanges", laid_unicode_utf8_acceptRanges), ("unicode/utf8.first", laid_unicode_utf8_first)], narrowed := true }
def LatticeChecksUptoSaid : Prop := latticeChecksUptoRow.holds Tryz.pinned (OpenSpec.upto latticeChecksSpec)

/-- 'cocyclelaw04.LatticeNever', WHERE WHAT IT READS IS OF BULK AT MOST 1048576: true; the input reads as it did. -/
def latticeNeverUptoRow : OpenClaim := { program := "ytljmapfihjkafaagreatdoor", sum := "d60310594ac1fa998e89ddbabda150c8e94b978e2f4d8b28bd525788104b6a61", func := "cocycle/cocyclelaw04.LatticeNever", spec := "latticeNever", inPlace := ["internal/bytealg.IndexByteString", "internal/bytealg.IndexString"], unfollowed := true, recurses := true, named := ["unicode/utf8.first", "unicode/utf8.acceptRanges", "internal/bytealg.MaxLen"], apart := false, laid := [("unicode/utf8.acceptRanges", laid_unicode_utf8_acceptRanges), ("unicode/utf8.first", laid_unicode_utf8_first)], narrowed := true }
def LatticeNeverUptoSaid : Prop := latticeNeverUptoRow.holds Tryz.pinned (OpenSpec.upto latticeNeverSpec)

/-- 'cocyclelaw04.LatticeWrong', WHERE WHAT IT READS IS OF BULK AT MOST 1048576: true; the input reads as it did. -/
def latticeWrongUptoRow : OpenClaim := { program := "ytljmapfihjkafaagreatdoor", sum := "d60310594ac1fa998e89ddbabda150c8e94b978e2f4d8b28bd525788104b6a61", func := "cocycle/cocyclelaw04.LatticeWrong", spec := "latticeWrong", inPlace := ["internal/bytealg.IndexByteString", "internal/bytealg.IndexString"], unfollowed := true, recurses := true, named := ["unicode/utf8.first", "unicode/utf8.acceptRanges", "internal/bytealg.MaxLen"], apart := false, laid := [("unicode/utf8.acceptRanges", laid_unicode_utf8_acceptRanges), ("unicode/utf8.first", laid_unicode_utf8_first)], narrowed := true }
def LatticeWrongUptoSaid : Prop := latticeWrongUptoRow.holds Tryz.pinned (OpenSpec.upto latticeWrongSpec)

end Rows
end Go.Proofs.YtljmapfihjkafaaGreatDoor
