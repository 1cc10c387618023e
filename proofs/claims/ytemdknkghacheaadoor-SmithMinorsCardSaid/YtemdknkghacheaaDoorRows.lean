/-
  NARROWER THAN 'FOR EVERY INPUT', by the rows' own cells (each row's printed sentence says how): SmithDivide: laid · SmithDiagonal: laid · SmithWrong: laid · SmithMinors: laid.
  DERIVED. THE GIVEN ROWS OF THIS SEAT. 4 by the template 'for every input the law returns true; each argument reads behind the call as it read before'; 0 by the template 'total and deterministic' (their statements: YtemdknkghacheaaDoorTotals.lean).
  GIVEN WITH THE SEED: the statements are not yours to turn. If you find one false, say at which input.
  Laid BY PROGRAM, IN A SANDBOX (cutbox-rows.mjs): the forced cells as the released guide's own fill.sh prints them over the translation 031e2e4fe7ec19e1… (all of the seat's roots in one cut). By AI agents, Wed Nov 11 2026. No macro, syntax, notation, axiom, sorry.
-/
import Derived.Test.YtemdknkghacheaaDoorChecked
import GoSem.PinnedTables
import GoSem.Claim
import GoSem.ClaimJoined
import GoSem.ClaimMapViews
import Derived.JoinedTies
import Derived.KernelRfl
namespace Go.Proofs.YtemdknkghacheaaDoor
/- THE CELL 'sum', in the pinned program and in every row, IS THE sha256 OF THE DUMP (.gsa) THAT YtemdknkghacheaaDoorProg.lean LOADS. Nothing in Lean hashes anything: it is a label: what it is worth is what the hold of that sum in a sandbox is worth. -/
noncomputable def Tryd.pinned : Pinned := { name := "ytemdknkghacheaadoor", sum := "031e2e4fe7ec19e131708f75996f0778970fa39647eba316b080f598488bb441", checked := Tryd.checked }
namespace Rows
def none {H : Type} : Left H := { results := [], args := [] }

/- WHAT THE LISTED PACKAGE-LEVEL VARIABLES READ AS WHEN THE CALL BEGINS. Each datum BY PROGRAM (the guide's laid-datum.mjs) off the statement by which the dump's own 'gosem.cut.vars' lays the variable. In a bare row this is a premise. The card (YtemdknkghacheaaDoorCards.lean) ties it to the program's text. -/
def laid_unicode_utf8_acceptRanges {H : Type} : DataW H := .agg [.agg [.lit (.int .u8 128), .lit (.int .u8 191)], .agg [.lit (.int .u8 160), .lit (.int .u8 191)], .agg [.lit (.int .u8 128), .lit (.int .u8 159)], .agg [.lit (.int .u8 144), .lit (.int .u8 191)], .agg [.lit (.int .u8 128), .lit (.int .u8 143)], .agg [.lit (.int .u8 0), .lit (.int .u8 0)], .agg [.lit (.int .u8 0), .lit (.int .u8 0)], .agg [.lit (.int .u8 0), .lit (.int .u8 0)], .agg [.lit (.int .u8 0), .lit (.int .u8 0)], .agg [.lit (.int .u8 0), .lit (.int .u8 0)], .agg [.lit (.int .u8 0), .lit (.int .u8 0)], .agg [.lit (.int .u8 0), .lit (.int .u8 0)], .agg [.lit (.int .u8 0), .lit (.int .u8 0)], .agg [.lit (.int .u8 0), .lit (.int .u8 0)], .agg [.lit (.int .u8 0), .lit (.int .u8 0)], .agg [.lit (.int .u8 0), .lit (.int .u8 0)]]
/-- One of Go's own tables, pinned by name: the form's constant. -/
def laid_unicode_utf8_first : DataW Unit := Go.Pinned.utf8First

/-- 'cocyclelaw03.SmithDivide': WHATEVER THE INPUT: true; the input reads as it did. -/
def smithDivideSpec : ChangeSpec := { name := "smithDivide", fn := fun _ => fun
  | [d] => { results := [.lit (.bool true)], args := [d] }
  | _ => none }
def smithDivideRow : OpenClaim := { program := "ytemdknkghacheaadoor", sum := "031e2e4fe7ec19e131708f75996f0778970fa39647eba316b080f598488bb441", func := "cocycle/cocyclelaw03.SmithDivide", spec := "smithDivide", inPlace := ["internal/bytealg.IndexByteString", "internal/bytealg.IndexString"], unfollowed := true, recurses := true, named := ["unicode/utf8.first", "unicode/utf8.acceptRanges", "internal/bytealg.MaxLen"], apart := false, laid := [("unicode/utf8.acceptRanges", laid_unicode_utf8_acceptRanges), ("unicode/utf8.first", laid_unicode_utf8_first)] }
def SmithDivideSaid : Prop := smithDivideRow.holds Tryd.pinned (OpenSpec.ofChange smithDivideSpec)

/-- ITS FALSE NEIGHBOUR: 'it returns false'. Refute it at one input. -/
def smithDivideWrong : ChangeSpec := { name := "smithDivide", fn := fun _ => fun
  | [d] => { results := [.lit (.bool false)], args := [d] }
  | _ => none }
def SmithDivideWrongFalsely : Prop := smithDivideRow.holds Tryd.pinned (OpenSpec.ofChange smithDivideWrong)

/-- 'cocyclelaw03.SmithDiagonal': WHATEVER THE INPUT: true; the input reads as it did. -/
def smithDiagonalSpec : ChangeSpec := { name := "smithDiagonal", fn := fun _ => fun
  | [d] => { results := [.lit (.bool true)], args := [d] }
  | _ => none }
def smithDiagonalRow : OpenClaim := { program := "ytemdknkghacheaadoor", sum := "031e2e4fe7ec19e131708f75996f0778970fa39647eba316b080f598488bb441", func := "cocycle/cocyclelaw03.SmithDiagonal", spec := "smithDiagonal", inPlace := ["internal/bytealg.IndexByteString", "internal/bytealg.IndexString"], unfollowed := true, recurses := true, named := ["unicode/utf8.first", "unicode/utf8.acceptRanges", "internal/bytealg.MaxLen"], apart := false, laid := [("unicode/utf8.acceptRanges", laid_unicode_utf8_acceptRanges), ("unicode/utf8.first", laid_unicode_utf8_first)] }
def SmithDiagonalSaid : Prop := smithDiagonalRow.holds Tryd.pinned (OpenSpec.ofChange smithDiagonalSpec)

/-- ITS FALSE NEIGHBOUR: 'it returns false'. Refute it at one input. -/
def smithDiagonalWrong : ChangeSpec := { name := "smithDiagonal", fn := fun _ => fun
  | [d] => { results := [.lit (.bool false)], args := [d] }
  | _ => none }
def SmithDiagonalWrongFalsely : Prop := smithDiagonalRow.holds Tryd.pinned (OpenSpec.ofChange smithDiagonalWrong)

/-- 'cocyclelaw03.SmithWrong': WHATEVER THE INPUT: true; the input reads as it did. -/
def smithWrongSpec : ChangeSpec := { name := "smithWrong", fn := fun _ => fun
  | [d1, d2] => { results := [.lit (.bool true)], args := [d1, d2] }
  | _ => none }
def smithWrongRow : OpenClaim := { program := "ytemdknkghacheaadoor", sum := "031e2e4fe7ec19e131708f75996f0778970fa39647eba316b080f598488bb441", func := "cocycle/cocyclelaw03.SmithWrong", spec := "smithWrong", inPlace := ["internal/bytealg.IndexByteString", "internal/bytealg.IndexString"], unfollowed := true, recurses := true, named := ["unicode/utf8.first", "unicode/utf8.acceptRanges", "internal/bytealg.MaxLen"], apart := false, laid := [("unicode/utf8.acceptRanges", laid_unicode_utf8_acceptRanges), ("unicode/utf8.first", laid_unicode_utf8_first)] }
def SmithWrongSaid : Prop := smithWrongRow.holds Tryd.pinned (OpenSpec.ofChange smithWrongSpec)

/-- ITS FALSE NEIGHBOUR: 'it returns false'. Refute it at one input. -/
def smithWrongWrong : ChangeSpec := { name := "smithWrong", fn := fun _ => fun
  | [d1, d2] => { results := [.lit (.bool false)], args := [d1, d2] }
  | _ => none }
def SmithWrongWrongFalsely : Prop := smithWrongRow.holds Tryd.pinned (OpenSpec.ofChange smithWrongWrong)

/-- 'cocyclelaw03.SmithMinors': WHATEVER THE INPUT: true; the input reads as it did. -/
def smithMinorsSpec : ChangeSpec := { name := "smithMinors", fn := fun _ => fun
  | [d] => { results := [.lit (.bool true)], args := [d] }
  | _ => none }
def smithMinorsRow : OpenClaim := { program := "ytemdknkghacheaadoor", sum := "031e2e4fe7ec19e131708f75996f0778970fa39647eba316b080f598488bb441", func := "cocycle/cocyclelaw03.SmithMinors", spec := "smithMinors", inPlace := ["internal/bytealg.IndexByteString", "internal/bytealg.IndexString"], unfollowed := true, recurses := true, named := ["unicode/utf8.first", "unicode/utf8.acceptRanges", "internal/bytealg.MaxLen"], apart := false, laid := [("unicode/utf8.acceptRanges", laid_unicode_utf8_acceptRanges), ("unicode/utf8.first", laid_unicode_utf8_first)] }
def SmithMinorsSaid : Prop := smithMinorsRow.holds Tryd.pinned (OpenSpec.ofChange smithMinorsSpec)

/-- ITS FALSE NEIGHBOUR: 'it returns false'. Refute it at one input. -/
def smithMinorsWrong : ChangeSpec := { name := "smithMinors", fn := fun _ => fun
  | [d] => { results := [.lit (.bool false)], args := [d] }
  | _ => none }
def SmithMinorsWrongFalsely : Prop := smithMinorsRow.holds Tryd.pinned (OpenSpec.ofChange smithMinorsWrong)

/- THE SECOND FORM. 'bulk': how many values and letters a reading holds, each counted each time it is reached (what is shared counts as often as it is met; a slice's spare places count too). A statement '..UptoSaid' is the law's where the arguments, and the package variables that the reading takes, are together of bulk at most 1048576: NARROWER than '..Said'. Prove '..Said' where nothing that the law and all that it calls make is longer than what came in: it says more and counts as full. Else prove '..UptoSaid'. A law counts once. -/
mutual
def uptoBulk {H : Type} : DataW H → Nat
  | .lit (.string bytes) => bytes.length + 1
  | .lit _ => 1
  | .nil => 1
  | .ptr d => uptoBulk d + 1
  | .slice elems spare => uptoBulkAll elems + uptoBulkAll spare + 1
  | .agg parts => uptoBulkAll parts + 1
  | .iface _ d => uptoBulk d + 1
  | .map entries => uptoBulkEntries entries + 1
  | .held _ => 1
def uptoBulkAll {H : Type} : List (DataW H) → Nat
  | [] => 0
  | d :: r => uptoBulk d + uptoBulkAll r
def uptoBulkEntries {H : Type} : List (Lit × DataW H) → Nat
  | [] => 0
  | x :: r => uptoBulkEntry x + uptoBulkEntries r
def uptoBulkEntry {H : Type} : Lit × DataW H → Nat
  | (.string bytes, d) => bytes.length + uptoBulk d + 1
  | (_, d) => uptoBulk d + 1
 end
def uptoSmall : (H : Type) → List (DataW H) → Bool := fun _ ds => decide (uptoBulkAll ds ≤ 1048576)
def OpenSpec.upto (s : _root_.Go.ChangeSpec) : _root_.Go.OpenSpec := { _root_.Go.OpenSpec.ofChange s with cond := some uptoSmall }

/-- 'cocyclelaw03.SmithDivide', WHERE WHAT IT READS IS OF BULK AT MOST 1048576: true; the input reads as it did. -/
def smithDivideUptoRow : OpenClaim := { program := "ytemdknkghacheaadoor", sum := "031e2e4fe7ec19e131708f75996f0778970fa39647eba316b080f598488bb441", func := "cocycle/cocyclelaw03.SmithDivide", spec := "smithDivide", inPlace := ["internal/bytealg.IndexByteString", "internal/bytealg.IndexString"], unfollowed := true, recurses := true, named := ["unicode/utf8.first", "unicode/utf8.acceptRanges", "internal/bytealg.MaxLen"], apart := false, laid := [("unicode/utf8.acceptRanges", laid_unicode_utf8_acceptRanges), ("unicode/utf8.first", laid_unicode_utf8_first)], narrowed := true }
def SmithDivideUptoSaid : Prop := smithDivideUptoRow.holds Tryd.pinned (OpenSpec.upto smithDivideSpec)

/-- 'cocyclelaw03.SmithDiagonal', WHERE WHAT IT READS IS OF BULK AT MOST 1048576: true; the input reads as it did. -/
def smithDiagonalUptoRow : OpenClaim := { program := "ytemdknkghacheaadoor", sum := "031e2e4fe7ec19e131708f75996f0778970fa39647eba316b080f598488bb441", func := "cocycle/cocyclelaw03.SmithDiagonal", spec := "smithDiagonal", inPlace := ["internal/bytealg.IndexByteString", "internal/bytealg.IndexString"], unfollowed := true, recurses := true, named := ["unicode/utf8.first", "unicode/utf8.acceptRanges", "internal/bytealg.MaxLen"], apart := false, laid := [("unicode/utf8.acceptRanges", laid_unicode_utf8_acceptRanges), ("unicode/utf8.first", laid_unicode_utf8_first)], narrowed := true }
def SmithDiagonalUptoSaid : Prop := smithDiagonalUptoRow.holds Tryd.pinned (OpenSpec.upto smithDiagonalSpec)

/-- 'cocyclelaw03.SmithWrong', WHERE WHAT IT READS IS OF BULK AT MOST 1048576: true; the input reads as it did. -/
def smithWrongUptoRow : OpenClaim := { program := "ytemdknkghacheaadoor", sum := "031e2e4fe7ec19e131708f75996f0778970fa39647eba316b080f598488bb441", func := "cocycle/cocyclelaw03.SmithWrong", spec := "smithWrong", inPlace := ["internal/bytealg.IndexByteString", "internal/bytealg.IndexString"], unfollowed := true, recurses := true, named := ["unicode/utf8.first", "unicode/utf8.acceptRanges", "internal/bytealg.MaxLen"], apart := false, laid := [("unicode/utf8.acceptRanges", laid_unicode_utf8_acceptRanges), ("unicode/utf8.first", laid_unicode_utf8_first)], narrowed := true }
def SmithWrongUptoSaid : Prop := smithWrongUptoRow.holds Tryd.pinned (OpenSpec.upto smithWrongSpec)

/-- 'cocyclelaw03.SmithMinors', WHERE WHAT IT READS IS OF BULK AT MOST 1048576: true; the input reads as it did. -/
def smithMinorsUptoRow : OpenClaim := { program := "ytemdknkghacheaadoor", sum := "031e2e4fe7ec19e131708f75996f0778970fa39647eba316b080f598488bb441", func := "cocycle/cocyclelaw03.SmithMinors", spec := "smithMinors", inPlace := ["internal/bytealg.IndexByteString", "internal/bytealg.IndexString"], unfollowed := true, recurses := true, named := ["unicode/utf8.first", "unicode/utf8.acceptRanges", "internal/bytealg.MaxLen"], apart := false, laid := [("unicode/utf8.acceptRanges", laid_unicode_utf8_acceptRanges), ("unicode/utf8.first", laid_unicode_utf8_first)], narrowed := true }
def SmithMinorsUptoSaid : Prop := smithMinorsUptoRow.holds Tryd.pinned (OpenSpec.upto smithMinorsSpec)

end Rows
end Go.Proofs.YtemdknkghacheaaDoor
