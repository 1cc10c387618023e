/-
  NARROWER THAN 'FOR EVERY INPUT', by the rows' own cells (each row's printed sentence says how): MatrixParts: laid · MatrixInverse: laid · MatrixApplies: laid · MatrixBuilds: laid · MatrixSmall: laid · MatrixDets: laid · MatrixSums: laid · MatrixRings: laid · MatrixOwn: laid · MatrixTurns: laid.
  DERIVED. THE GIVEN ROWS OF THIS SEAT. 10 by the template 'for every input the law returns true; each argument reads behind the call as it read before'; 0 by the template 'total and deterministic' (their statements: YtdlmnloikakjpaaDoorTotals.lean).
  GIVEN WITH THE SEED: the statements are not yours to turn. If you find one false, say at which input.
  Laid BY PROGRAM, IN A SANDBOX (cutbox-rows.mjs): the forced cells as the released guide's own fill.sh prints them over the translation e5d8f363e77ef38a… (all of the seat's roots in one cut). By AI agents, Wed Nov 11 2026. No macro, syntax, notation, axiom, sorry.
-/
import Derived.Test.YtdlmnloikakjpaaDoorChecked
import GoSem.PinnedTables
import GoSem.Claim
import GoSem.ClaimJoined
import GoSem.ClaimMapViews
import Derived.JoinedTies
import Derived.KernelRfl
namespace Go.Proofs.YtdlmnloikakjpaaDoor
/- THE CELL 'sum', in the pinned program and in every row, IS THE sha256 OF THE DUMP (.gsa) THAT YtdlmnloikakjpaaDoorProg.lean LOADS. Nothing in Lean hashes anything: it is a label: what it is worth is what the hold of that sum in a sandbox is worth. -/
noncomputable def Tryd.pinned : Pinned := { name := "ytdlmnloikakjpaadoor", sum := "e5d8f363e77ef38a22cba5e295916b82c770f1d24899357510a393f1f533487b", checked := Tryd.checked }
namespace Rows
def none {H : Type} : Left H := { results := [], args := [] }

/- WHAT THE LISTED PACKAGE-LEVEL VARIABLES READ AS WHEN THE CALL BEGINS. Each datum BY PROGRAM (the guide's laid-datum.mjs) off the statement by which the dump's own 'gosem.cut.vars' lays the variable. In a bare row this is a premise. The card (YtdlmnloikakjpaaDoorCards.lean) ties it to the program's text. -/
def laid_unicode_utf8_acceptRanges {H : Type} : DataW H := .agg [.agg [.lit (.int .u8 128), .lit (.int .u8 191)], .agg [.lit (.int .u8 160), .lit (.int .u8 191)], .agg [.lit (.int .u8 128), .lit (.int .u8 159)], .agg [.lit (.int .u8 144), .lit (.int .u8 191)], .agg [.lit (.int .u8 128), .lit (.int .u8 143)], .agg [.lit (.int .u8 0), .lit (.int .u8 0)], .agg [.lit (.int .u8 0), .lit (.int .u8 0)], .agg [.lit (.int .u8 0), .lit (.int .u8 0)], .agg [.lit (.int .u8 0), .lit (.int .u8 0)], .agg [.lit (.int .u8 0), .lit (.int .u8 0)], .agg [.lit (.int .u8 0), .lit (.int .u8 0)], .agg [.lit (.int .u8 0), .lit (.int .u8 0)], .agg [.lit (.int .u8 0), .lit (.int .u8 0)], .agg [.lit (.int .u8 0), .lit (.int .u8 0)], .agg [.lit (.int .u8 0), .lit (.int .u8 0)], .agg [.lit (.int .u8 0), .lit (.int .u8 0)]]
/-- One of Go's own tables, pinned by name: the form's constant. -/
def laid_unicode_utf8_first : DataW Unit := Go.Pinned.utf8First

/-- 'cocyclelaw02.MatrixParts': WHATEVER THE INPUT: true; the input reads as it did. -/
def matrixPartsSpec : ChangeSpec := { name := "matrixParts", fn := fun _ => fun
  | [d1, d2, d3] => { results := [.lit (.bool true)], args := [d1, d2, d3] }
  | _ => none }
def matrixPartsRow : OpenClaim := { program := "ytdlmnloikakjpaadoor", sum := "e5d8f363e77ef38a22cba5e295916b82c770f1d24899357510a393f1f533487b", func := "cocycle/cocyclelaw02.MatrixParts", spec := "matrixParts", inPlace := ["internal/bytealg.IndexByteString", "internal/bytealg.IndexString"], unfollowed := true, recurses := true, named := ["unicode/utf8.first", "unicode/utf8.acceptRanges", "internal/bytealg.MaxLen"], apart := false, laid := [("unicode/utf8.acceptRanges", laid_unicode_utf8_acceptRanges), ("unicode/utf8.first", laid_unicode_utf8_first)] }
def MatrixPartsSaid : Prop := matrixPartsRow.holds Tryd.pinned (OpenSpec.ofChange matrixPartsSpec)

/-- ITS FALSE NEIGHBOUR: 'it returns false'. Refute it at one input. -/
def matrixPartsWrong : ChangeSpec := { name := "matrixParts", fn := fun _ => fun
  | [d1, d2, d3] => { results := [.lit (.bool false)], args := [d1, d2, d3] }
  | _ => none }
def MatrixPartsWrongFalsely : Prop := matrixPartsRow.holds Tryd.pinned (OpenSpec.ofChange matrixPartsWrong)

/-- 'cocyclelaw02.MatrixInverse': WHATEVER THE INPUT: true; the input reads as it did. -/
def matrixInverseSpec : ChangeSpec := { name := "matrixInverse", fn := fun _ => fun
  | [d1, d2, d3] => { results := [.lit (.bool true)], args := [d1, d2, d3] }
  | _ => none }
def matrixInverseRow : OpenClaim := { program := "ytdlmnloikakjpaadoor", sum := "e5d8f363e77ef38a22cba5e295916b82c770f1d24899357510a393f1f533487b", func := "cocycle/cocyclelaw02.MatrixInverse", spec := "matrixInverse", inPlace := ["internal/bytealg.IndexByteString", "internal/bytealg.IndexString"], unfollowed := true, recurses := true, named := ["unicode/utf8.first", "unicode/utf8.acceptRanges", "internal/bytealg.MaxLen"], apart := false, laid := [("unicode/utf8.acceptRanges", laid_unicode_utf8_acceptRanges), ("unicode/utf8.first", laid_unicode_utf8_first)] }
def MatrixInverseSaid : Prop := matrixInverseRow.holds Tryd.pinned (OpenSpec.ofChange matrixInverseSpec)

/-- ITS FALSE NEIGHBOUR: 'it returns false'. Refute it at one input. -/
def matrixInverseWrong : ChangeSpec := { name := "matrixInverse", fn := fun _ => fun
  | [d1, d2, d3] => { results := [.lit (.bool false)], args := [d1, d2, d3] }
  | _ => none }
def MatrixInverseWrongFalsely : Prop := matrixInverseRow.holds Tryd.pinned (OpenSpec.ofChange matrixInverseWrong)

/-- 'cocyclelaw02.MatrixApplies': WHATEVER THE INPUT: true; the input reads as it did. -/
def matrixAppliesSpec : ChangeSpec := { name := "matrixApplies", fn := fun _ => fun
  | [d1, d2] => { results := [.lit (.bool true)], args := [d1, d2] }
  | _ => none }
def matrixAppliesRow : OpenClaim := { program := "ytdlmnloikakjpaadoor", sum := "e5d8f363e77ef38a22cba5e295916b82c770f1d24899357510a393f1f533487b", func := "cocycle/cocyclelaw02.MatrixApplies", spec := "matrixApplies", inPlace := ["internal/bytealg.IndexByteString", "internal/bytealg.IndexString"], unfollowed := true, recurses := true, named := ["unicode/utf8.first", "unicode/utf8.acceptRanges", "internal/bytealg.MaxLen"], apart := false, laid := [("unicode/utf8.acceptRanges", laid_unicode_utf8_acceptRanges), ("unicode/utf8.first", laid_unicode_utf8_first)] }
def MatrixAppliesSaid : Prop := matrixAppliesRow.holds Tryd.pinned (OpenSpec.ofChange matrixAppliesSpec)

/-- ITS FALSE NEIGHBOUR: 'it returns false'. Refute it at one input. -/
def matrixAppliesWrong : ChangeSpec := { name := "matrixApplies", fn := fun _ => fun
  | [d1, d2] => { results := [.lit (.bool false)], args := [d1, d2] }
  | _ => none }
def MatrixAppliesWrongFalsely : Prop := matrixAppliesRow.holds Tryd.pinned (OpenSpec.ofChange matrixAppliesWrong)

/-- 'cocyclelaw02.MatrixBuilds': WHATEVER THE INPUT: true; the input reads as it did. -/
def matrixBuildsSpec : ChangeSpec := { name := "matrixBuilds", fn := fun _ => fun
  | [d1, d2, d3] => { results := [.lit (.bool true)], args := [d1, d2, d3] }
  | _ => none }
def matrixBuildsRow : OpenClaim := { program := "ytdlmnloikakjpaadoor", sum := "e5d8f363e77ef38a22cba5e295916b82c770f1d24899357510a393f1f533487b", func := "cocycle/cocyclelaw02.MatrixBuilds", spec := "matrixBuilds", inPlace := ["internal/bytealg.IndexByteString", "internal/bytealg.IndexString"], unfollowed := true, recurses := true, named := ["unicode/utf8.first", "unicode/utf8.acceptRanges", "internal/bytealg.MaxLen"], apart := false, laid := [("unicode/utf8.acceptRanges", laid_unicode_utf8_acceptRanges), ("unicode/utf8.first", laid_unicode_utf8_first)] }
def MatrixBuildsSaid : Prop := matrixBuildsRow.holds Tryd.pinned (OpenSpec.ofChange matrixBuildsSpec)

/-- ITS FALSE NEIGHBOUR: 'it returns false'. Refute it at one input. -/
def matrixBuildsWrong : ChangeSpec := { name := "matrixBuilds", fn := fun _ => fun
  | [d1, d2, d3] => { results := [.lit (.bool false)], args := [d1, d2, d3] }
  | _ => none }
def MatrixBuildsWrongFalsely : Prop := matrixBuildsRow.holds Tryd.pinned (OpenSpec.ofChange matrixBuildsWrong)

/-- 'cocyclelaw02.MatrixSmall': WHATEVER THE INPUT: true; the input reads as it did. -/
def matrixSmallSpec : ChangeSpec := { name := "matrixSmall", fn := fun _ => fun
  | [d] => { results := [.lit (.bool true)], args := [d] }
  | _ => none }
def matrixSmallRow : OpenClaim := { program := "ytdlmnloikakjpaadoor", sum := "e5d8f363e77ef38a22cba5e295916b82c770f1d24899357510a393f1f533487b", func := "cocycle/cocyclelaw02.MatrixSmall", spec := "matrixSmall", inPlace := ["internal/bytealg.IndexByteString", "internal/bytealg.IndexString"], unfollowed := true, recurses := true, named := ["unicode/utf8.first", "unicode/utf8.acceptRanges", "internal/bytealg.MaxLen"], apart := false, laid := [("unicode/utf8.acceptRanges", laid_unicode_utf8_acceptRanges), ("unicode/utf8.first", laid_unicode_utf8_first)] }
def MatrixSmallSaid : Prop := matrixSmallRow.holds Tryd.pinned (OpenSpec.ofChange matrixSmallSpec)

/-- ITS FALSE NEIGHBOUR: 'it returns false'. Refute it at one input. -/
def matrixSmallWrong : ChangeSpec := { name := "matrixSmall", fn := fun _ => fun
  | [d] => { results := [.lit (.bool false)], args := [d] }
  | _ => none }
def MatrixSmallWrongFalsely : Prop := matrixSmallRow.holds Tryd.pinned (OpenSpec.ofChange matrixSmallWrong)

/-- 'cocyclelaw02.MatrixDets': WHATEVER THE INPUT: true; the input reads as it did. -/
def matrixDetsSpec : ChangeSpec := { name := "matrixDets", fn := fun _ => fun
  | [d1, d2] => { results := [.lit (.bool true)], args := [d1, d2] }
  | _ => none }
def matrixDetsRow : OpenClaim := { program := "ytdlmnloikakjpaadoor", sum := "e5d8f363e77ef38a22cba5e295916b82c770f1d24899357510a393f1f533487b", func := "cocycle/cocyclelaw02.MatrixDets", spec := "matrixDets", inPlace := ["internal/bytealg.IndexByteString", "internal/bytealg.IndexString"], unfollowed := true, recurses := true, named := ["unicode/utf8.first", "unicode/utf8.acceptRanges", "internal/bytealg.MaxLen"], apart := false, laid := [("unicode/utf8.acceptRanges", laid_unicode_utf8_acceptRanges), ("unicode/utf8.first", laid_unicode_utf8_first)] }
def MatrixDetsSaid : Prop := matrixDetsRow.holds Tryd.pinned (OpenSpec.ofChange matrixDetsSpec)

/-- ITS FALSE NEIGHBOUR: 'it returns false'. Refute it at one input. -/
def matrixDetsWrong : ChangeSpec := { name := "matrixDets", fn := fun _ => fun
  | [d1, d2] => { results := [.lit (.bool false)], args := [d1, d2] }
  | _ => none }
def MatrixDetsWrongFalsely : Prop := matrixDetsRow.holds Tryd.pinned (OpenSpec.ofChange matrixDetsWrong)

/-- 'cocyclelaw02.MatrixSums': WHATEVER THE INPUT: true; the input reads as it did. -/
def matrixSumsSpec : ChangeSpec := { name := "matrixSums", fn := fun _ => fun
  | [d1, d2] => { results := [.lit (.bool true)], args := [d1, d2] }
  | _ => none }
def matrixSumsRow : OpenClaim := { program := "ytdlmnloikakjpaadoor", sum := "e5d8f363e77ef38a22cba5e295916b82c770f1d24899357510a393f1f533487b", func := "cocycle/cocyclelaw02.MatrixSums", spec := "matrixSums", inPlace := ["internal/bytealg.IndexByteString", "internal/bytealg.IndexString"], unfollowed := true, recurses := true, named := ["unicode/utf8.first", "unicode/utf8.acceptRanges", "internal/bytealg.MaxLen"], apart := false, laid := [("unicode/utf8.acceptRanges", laid_unicode_utf8_acceptRanges), ("unicode/utf8.first", laid_unicode_utf8_first)] }
def MatrixSumsSaid : Prop := matrixSumsRow.holds Tryd.pinned (OpenSpec.ofChange matrixSumsSpec)

/-- ITS FALSE NEIGHBOUR: 'it returns false'. Refute it at one input. -/
def matrixSumsWrong : ChangeSpec := { name := "matrixSums", fn := fun _ => fun
  | [d1, d2] => { results := [.lit (.bool false)], args := [d1, d2] }
  | _ => none }
def MatrixSumsWrongFalsely : Prop := matrixSumsRow.holds Tryd.pinned (OpenSpec.ofChange matrixSumsWrong)

/-- 'cocyclelaw02.MatrixRings': WHATEVER THE INPUT: true; the input reads as it did. -/
def matrixRingsSpec : ChangeSpec := { name := "matrixRings", fn := fun _ => fun
  | [d1, d2, d3] => { results := [.lit (.bool true)], args := [d1, d2, d3] }
  | _ => none }
def matrixRingsRow : OpenClaim := { program := "ytdlmnloikakjpaadoor", sum := "e5d8f363e77ef38a22cba5e295916b82c770f1d24899357510a393f1f533487b", func := "cocycle/cocyclelaw02.MatrixRings", spec := "matrixRings", inPlace := ["internal/bytealg.IndexByteString", "internal/bytealg.IndexString"], unfollowed := true, recurses := true, named := ["unicode/utf8.first", "unicode/utf8.acceptRanges", "internal/bytealg.MaxLen"], apart := false, laid := [("unicode/utf8.acceptRanges", laid_unicode_utf8_acceptRanges), ("unicode/utf8.first", laid_unicode_utf8_first)] }
def MatrixRingsSaid : Prop := matrixRingsRow.holds Tryd.pinned (OpenSpec.ofChange matrixRingsSpec)

/-- ITS FALSE NEIGHBOUR: 'it returns false'. Refute it at one input. -/
def matrixRingsWrong : ChangeSpec := { name := "matrixRings", fn := fun _ => fun
  | [d1, d2, d3] => { results := [.lit (.bool false)], args := [d1, d2, d3] }
  | _ => none }
def MatrixRingsWrongFalsely : Prop := matrixRingsRow.holds Tryd.pinned (OpenSpec.ofChange matrixRingsWrong)

/-- 'cocyclelaw02.MatrixOwn': WHATEVER THE INPUT: true; the input reads as it did. -/
def matrixOwnSpec : ChangeSpec := { name := "matrixOwn", fn := fun _ => fun
  | [d1, d2] => { results := [.lit (.bool true)], args := [d1, d2] }
  | _ => none }
def matrixOwnRow : OpenClaim := { program := "ytdlmnloikakjpaadoor", sum := "e5d8f363e77ef38a22cba5e295916b82c770f1d24899357510a393f1f533487b", func := "cocycle/cocyclelaw02.MatrixOwn", spec := "matrixOwn", inPlace := ["internal/bytealg.IndexByteString", "internal/bytealg.IndexString"], unfollowed := true, recurses := true, named := ["unicode/utf8.first", "unicode/utf8.acceptRanges", "internal/bytealg.MaxLen"], apart := false, laid := [("unicode/utf8.acceptRanges", laid_unicode_utf8_acceptRanges), ("unicode/utf8.first", laid_unicode_utf8_first)] }
def MatrixOwnSaid : Prop := matrixOwnRow.holds Tryd.pinned (OpenSpec.ofChange matrixOwnSpec)

/-- ITS FALSE NEIGHBOUR: 'it returns false'. Refute it at one input. -/
def matrixOwnWrong : ChangeSpec := { name := "matrixOwn", fn := fun _ => fun
  | [d1, d2] => { results := [.lit (.bool false)], args := [d1, d2] }
  | _ => none }
def MatrixOwnWrongFalsely : Prop := matrixOwnRow.holds Tryd.pinned (OpenSpec.ofChange matrixOwnWrong)

/-- 'cocyclelaw02.MatrixTurns': WHATEVER THE INPUT: true; the input reads as it did. -/
def matrixTurnsSpec : ChangeSpec := { name := "matrixTurns", fn := fun _ => fun
  | [d1, d2] => { results := [.lit (.bool true)], args := [d1, d2] }
  | _ => none }
def matrixTurnsRow : OpenClaim := { program := "ytdlmnloikakjpaadoor", sum := "e5d8f363e77ef38a22cba5e295916b82c770f1d24899357510a393f1f533487b", func := "cocycle/cocyclelaw02.MatrixTurns", spec := "matrixTurns", inPlace := ["internal/bytealg.IndexByteString", "internal/bytealg.IndexString"], unfollowed := true, recurses := true, named := ["unicode/utf8.first", "unicode/utf8.acceptRanges", "internal/bytealg.MaxLen"], apart := false, laid := [("unicode/utf8.acceptRanges", laid_unicode_utf8_acceptRanges), ("unicode/utf8.first", laid_unicode_utf8_first)] }
def MatrixTurnsSaid : Prop := matrixTurnsRow.holds Tryd.pinned (OpenSpec.ofChange matrixTurnsSpec)

/-- ITS FALSE NEIGHBOUR: 'it returns false'. Refute it at one input. -/
def matrixTurnsWrong : ChangeSpec := { name := "matrixTurns", fn := fun _ => fun
  | [d1, d2] => { results := [.lit (.bool false)], args := [d1, d2] }
  | _ => none }
def MatrixTurnsWrongFalsely : Prop := matrixTurnsRow.holds Tryd.pinned (OpenSpec.ofChange matrixTurnsWrong)

/- THE SECOND FORM. 'bulk': how many values and letters a reading holds, each counted each time it is reached (what is shared counts as often as it is met; a slice's spare places count too). A statement '..UptoSaid' is the law's where the arguments, and the package variables that the reading takes, are together of bulk at most 1048576: NARROWER than '..Said'. Prove '..Said' where nothing that the law and all that it calls make is longer than what came in: it says more and counts as full. Else prove '..UptoSaid'. A law counts once. -/
mutual
def uptoBulk {H : Type} : DataW H → Nat
  | .lit (.string bytes) => bytes.length + 1
  | .lit _ => 1
  | .nil => 1
  | .ptr d => uptoBulk d + 1
  | .slice elems spare => uptoBulkAll elems + uptoBulkAll spare + 1
  | .agg parts => uptoBulkAll parts + 1
  | .iface _ d => uptoBulk d + 1
  | .map entries => uptoBulkEntries entries + 1
  | .held _ => 1
def uptoBulkAll {H : Type} : List (DataW H) → Nat
  | [] => 0
  | d :: r => uptoBulk d + uptoBulkAll r
def uptoBulkEntries {H : Type} : List (Lit × DataW H) → Nat
  | [] => 0
  | x :: r => uptoBulkEntry x + uptoBulkEntries r
def uptoBulkEntry {H : Type} : Lit × DataW H → Nat
  | (.string bytes, d) => bytes.length + uptoBulk d + 1
  | (_, d) => uptoBulk d + 1
 end
def uptoSmall : (H : Type) → List (DataW H) → Bool := fun _ ds => decide (uptoBulkAll ds ≤ 1048576)
def OpenSpec.upto (s : _root_.Go.ChangeSpec) : _root_.Go.OpenSpec := { _root_.Go.OpenSpec.ofChange s with cond := some uptoSmall }

/-- 'cocyclelaw02.MatrixParts', WHERE WHAT IT READS IS OF BULK AT MOST 1048576: true; the input reads as it did. -/
def matrixPartsUptoRow : OpenClaim := { program := "ytdlmnloikakjpaadoor", sum := "e5d8f363e77ef38a22cba5e295916b82c770f1d24899357510a393f1f533487b", func := "cocycle/cocyclelaw02.MatrixParts", spec := "matrixParts", inPlace := ["internal/bytealg.IndexByteString", "internal/bytealg.IndexString"], unfollowed := true, recurses := true, named := ["unicode/utf8.first", "unicode/utf8.acceptRanges", "internal/bytealg.MaxLen"], apart := false, laid := [("unicode/utf8.acceptRanges", laid_unicode_utf8_acceptRanges), ("unicode/utf8.first", laid_unicode_utf8_first)], narrowed := true }
def MatrixPartsUptoSaid : Prop := matrixPartsUptoRow.holds Tryd.pinned (OpenSpec.upto matrixPartsSpec)

/-- 'cocyclelaw02.MatrixInverse', WHERE WHAT IT READS IS OF BULK AT MOST 1048576: true; the input reads as it did. -/
def matrixInverseUptoRow : OpenClaim := { program := "ytdlmnloikakjpaadoor", sum := "e5d8f363e77ef38a22cba5e295916b82c770f1d24899357510a393f1f533487b", func := "cocycle/cocyclelaw02.MatrixInverse", spec := "matrixInverse", inPlace := ["internal/bytealg.IndexByteString", "internal/bytealg.IndexString"], unfollowed := true, recurses := true, named := ["unicode/utf8.first", "unicode/utf8.acceptRanges", "internal/bytealg.MaxLen"], apart := false, laid := [("unicode/utf8.acceptRanges", laid_unicode_utf8_acceptRanges), ("unicode/utf8.first", laid_unicode_utf8_first)], narrowed := true }
def MatrixInverseUptoSaid : Prop := matrixInverseUptoRow.holds Tryd.pinned (OpenSpec.upto matrixInverseSpec)

/-- 'cocyclelaw02.MatrixApplies', WHERE WHAT IT READS IS OF BULK AT MOST 1048576: true; the input reads as it did. -/
def matrixAppliesUptoRow : OpenClaim := { program := "ytdlmnloikakjpaadoor", sum := "e5d8f363e77ef38a22cba5e295916b82c770f1d24899357510a393f1f533487b", func := "cocycle/cocyclelaw02.MatrixApplies", spec := "matrixApplies", inPlace := ["internal/bytealg.IndexByteString", "internal/bytealg.IndexString"], unfollowed := true, recurses := true, named := ["unicode/utf8.first", "unicode/utf8.acceptRanges", "internal/bytealg.MaxLen"], apart := false, laid := [("unicode/utf8.acceptRanges", laid_unicode_utf8_acceptRanges), ("unicode/utf8.first", laid_unicode_utf8_first)], narrowed := true }
def MatrixAppliesUptoSaid : Prop := matrixAppliesUptoRow.holds Tryd.pinned (OpenSpec.upto matrixAppliesSpec)

/-- 'cocyclelaw02.MatrixBuilds', WHERE WHAT IT READS IS OF BULK AT MOST 1048576: true; the input reads as it did. -/
def matrixBuildsUptoRow : OpenClaim := { program := "ytdlmnloikakjpaadoor", sum := "e5d8f363e77ef38a22cba5e295916b82c770f1d24899357510a393f1f533487b", func := "cocycle/cocyclelaw02.MatrixBuilds", spec := "matrixBuilds", inPlace := ["internal/bytealg.IndexByteString", "internal/bytealg.IndexString"], unfollowed := true, recurses := true, named := ["unicode/utf8.first", "unicode/utf8.acceptRanges", "internal/bytealg.MaxLen"], apart := false, laid := [("unicode/utf8.acceptRanges", laid_unicode_utf8_acceptRanges), ("unicode/utf8.first", laid_unicode_utf8_first)], narrowed := true }
def MatrixBuildsUptoSaid : Prop := matrixBuildsUptoRow.holds Tryd.pinned (OpenSpec.upto matrixBuildsSpec)

/-- 'cocyclelaw02.MatrixSmall', WHERE WHAT IT READS IS OF BULK AT MOST 1048576: true; the input reads as it did. -/
def matrixSmallUptoRow : OpenClaim := { program := "ytdlmnloikakjpaadoor", sum := "e5d8f363e77ef38a22cba5e295916b82c770f1d24899357510a393f1f533487b", func := "cocycle/cocyclelaw02.MatrixSmall", spec := "matrixSmall", inPlace := ["internal/bytealg.IndexByteString", "internal/bytealg.IndexString"], unfollowed := true, recurses := true, named := ["unicode/utf8.first", "unicode/utf8.acceptRanges", "internal/bytealg.MaxLen"], apart := false, laid := [("unicode/utf8.acceptRanges", laid_unicode_utf8_acceptRanges), ("unicode/utf8.first", laid_unicode_utf8_first)], narrowed := true }
def MatrixSmallUptoSaid : Prop := matrixSmallUptoRow.holds Tryd.pinned (OpenSpec.upto matrixSmallSpec)

/-- 'cocyclelaw02.MatrixDets', WHERE WHAT IT READS IS OF BULK AT MOST 1048576: true; the input reads as it did. -/
def matrixDetsUptoRow : OpenClaim := { program := "ytdlmnloikakjpaadoor", sum := "e5d8f363e77ef38a22cba5e295916b82c770f1d24899357510a393f1f533487b", func := "cocycle/cocyclelaw02.MatrixDets", spec := "matrixDets", inPlace := ["internal/bytealg.IndexByteString", "internal/bytealg.IndexString"], unfollowed := true, recurses := true, named := ["unicode/utf8.first", "unicode/utf8.acceptRanges", "internal/bytealg.MaxLen"], apart := false, laid := [("unicode/utf8.acceptRanges", laid_unicode_utf8_acceptRanges), ("unicode/utf8.first", laid_unicode_utf8_first)], narrowed := true }
def MatrixDetsUptoSaid : Prop := matrixDetsUptoRow.holds Tryd.pinned (OpenSpec.upto matrixDetsSpec)

/-- 'cocyclelaw02.MatrixSums', WHERE WHAT IT READS IS OF BULK AT MOST 1048576: true; the input reads as it did. -/
def matrixSumsUptoRow : OpenClaim := { program := "ytdlmnloikakjpaadoor", sum := "e5d8f363e77ef38a22cba5e295916b82c770f1d24899357510a393f1f533487b", func := "cocycle/cocyclelaw02.MatrixSums", spec := "matrixSums", inPlace := ["internal/bytealg.IndexByteString", "internal/bytealg.IndexString"], unfollowed := true, recurses := true, named := ["unicode/utf8.first", "unicode/utf8.acceptRanges", "internal/bytealg.MaxLen"], apart := false, laid := [("unicode/utf8.acceptRanges", laid_unicode_utf8_acceptRanges), ("unicode/utf8.first", laid_unicode_utf8_first)], narrowed := true }
def MatrixSumsUptoSaid : Prop := matrixSumsUptoRow.holds Tryd.pinned (OpenSpec.upto matrixSumsSpec)

/-- 'cocyclelaw02.MatrixRings', WHERE WHAT IT READS IS OF BULK AT MOST 1048576: true; the input reads as it did. -/
def matrixRingsUptoRow : OpenClaim := { program := "ytdlmnloikakjpaadoor", sum := "e5d8f363e77ef38a22cba5e295916b82c770f1d24899357510a393f1f533487b", func := "cocycle/cocyclelaw02.MatrixRings", spec := "matrixRings", inPlace := ["internal/bytealg.IndexByteString", "internal/bytealg.IndexString"], unfollowed := true, recurses := true, named := ["unicode/utf8.first", "unicode/utf8.acceptRanges", "internal/bytealg.MaxLen"], apart := false, laid := [("unicode/utf8.acceptRanges", laid_unicode_utf8_acceptRanges), ("unicode/utf8.first", laid_unicode_utf8_first)], narrowed := true }
def MatrixRingsUptoSaid : Prop := matrixRingsUptoRow.holds Tryd.pinned (OpenSpec.upto matrixRingsSpec)

/-- 'cocyclelaw02.MatrixOwn', WHERE WHAT IT READS IS OF BULK AT MOST 1048576: true; the input reads as it did. -/
def matrixOwnUptoRow : OpenClaim := { program := "ytdlmnloikakjpaadoor", sum := "e5d8f363e77ef38a22cba5e295916b82c770f1d24899357510a393f1f533487b", func := "cocycle/cocyclelaw02.MatrixOwn", spec := "matrixOwn", inPlace := ["internal/bytealg.IndexByteString", "internal/bytealg.IndexString"], unfollowed := true, recurses := true, named := ["unicode/utf8.first", "unicode/utf8.acceptRanges", "internal/bytealg.MaxLen"], apart := false, laid := [("unicode/utf8.acceptRanges", laid_unicode_utf8_acceptRanges), ("unicode/utf8.first", laid_unicode_utf8_first)], narrowed := true }
def MatrixOwnUptoSaid : Prop := matrixOwnUptoRow.holds Tryd.pinned (OpenSpec.upto matrixOwnSpec)

/-- 'cocyclelaw02.MatrixTurns', WHERE WHAT IT READS IS OF BULK AT MOST 1048576: true; the input reads as it did. -/
def matrixTurnsUptoRow : OpenClaim := { program := "ytdlmnloikakjpaadoor", sum := "e5d8f363e77ef38a22cba5e295916b82c770f1d24899357510a393f1f533487b", func := "cocycle/cocyclelaw02.MatrixTurns", spec := "matrixTurns", inPlace := ["internal/bytealg.IndexByteString", "internal/bytealg.IndexString"], unfollowed := true, recurses := true, named := ["unicode/utf8.first", "unicode/utf8.acceptRanges", "internal/bytealg.MaxLen"], apart := false, laid := [("unicode/utf8.acceptRanges", laid_unicode_utf8_acceptRanges), ("unicode/utf8.first", laid_unicode_utf8_first)], narrowed := true }
def MatrixTurnsUptoSaid : Prop := matrixTurnsUptoRow.holds Tryd.pinned (OpenSpec.upto matrixTurnsSpec)

end Rows
end Go.Proofs.YtdlmnloikakjpaaDoor
