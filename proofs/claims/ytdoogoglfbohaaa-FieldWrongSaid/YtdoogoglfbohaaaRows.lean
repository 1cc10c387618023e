/-
  No cell of these rows narrows 'for every input' (looked for: loops, veiled, ifaces, maps, wideKeys, modest, calm, conditions, laid).
  DERIVED. THE GIVEN ROWS OF THIS SEAT. 8 by the template 'for every input the law returns true; each argument reads behind the call as it read before'; 0 by the template 'total and deterministic' (their statements: YtdoogoglfbohaaaTotals.lean).
  GIVEN WITH THE SEED: the statements are not yours to turn. If you find one false, say at which input.
  Laid BY PROGRAM, IN A SANDBOX (cutbox-rows.mjs): the forced cells as the released guide's own fill.sh prints them over the translation 9e40daf0589cd170… (all of the seat's roots in one cut). By AI agents, Wed Nov 11 2026. No macro, syntax, notation, axiom, sorry.
-/
import Derived.Test.YtdoogoglfbohaaaChecked
import GoSem.Claim
import GoSem.ClaimJoined
import GoSem.ClaimMapViews
import Derived.JoinedTies
import Derived.KernelRfl
namespace Go.Proofs.Ytdoogoglfbohaaa
/- THE CELL 'sum', in the pinned program and in every row, IS THE sha256 OF THE DUMP (.gsa) THAT YtdoogoglfbohaaaProg.lean LOADS. Nothing in Lean hashes anything: it is a label: what it is worth is what the hold of that sum in a sandbox is worth. -/
noncomputable def Try.pinned : Pinned := { name := "ytdoogoglfbohaaa", sum := "9e40daf0589cd17026e03aa45f928b93d129cf8466c5eeeffda5f27b71ebab3c", checked := Try.checked }
namespace Rows
def none {H : Type} : Left H := { results := [], args := [] }

/-- 'cocyclelaw05.FieldEchelon': WHATEVER THE INPUT: true; the input reads as it did. -/
def fieldEchelonSpec : ChangeSpec := { name := "fieldEchelon", fn := fun _ => fun
  | [d1, d2] => { results := [.lit (.bool true)], args := [d1, d2] }
  | _ => none }
def fieldEchelonRow : OpenClaim := { program := "ytdoogoglfbohaaa", sum := "9e40daf0589cd17026e03aa45f928b93d129cf8466c5eeeffda5f27b71ebab3c", func := "cocycle/cocyclelaw05.FieldEchelon", spec := "fieldEchelon", unfollowed := true, recurses := true, apart := false }
def FieldEchelonSaid : Prop := fieldEchelonRow.holds Try.pinned (OpenSpec.ofChange fieldEchelonSpec)

/-- ITS FALSE NEIGHBOUR: 'it returns false'. Refute it at one input. -/
def fieldEchelonWrong : ChangeSpec := { name := "fieldEchelon", fn := fun _ => fun
  | [d1, d2] => { results := [.lit (.bool false)], args := [d1, d2] }
  | _ => none }
def FieldEchelonWrongFalsely : Prop := fieldEchelonRow.holds Try.pinned (OpenSpec.ofChange fieldEchelonWrong)

/-- 'cocyclelaw05.FieldInverse': WHATEVER THE INPUT: true; the input reads as it did. -/
def fieldInverseSpec : ChangeSpec := { name := "fieldInverse", fn := fun _ => fun
  | [d] => { results := [.lit (.bool true)], args := [d] }
  | _ => none }
def fieldInverseRow : OpenClaim := { program := "ytdoogoglfbohaaa", sum := "9e40daf0589cd17026e03aa45f928b93d129cf8466c5eeeffda5f27b71ebab3c", func := "cocycle/cocyclelaw05.FieldInverse", spec := "fieldInverse", unfollowed := true, recurses := true, apart := false }
def FieldInverseSaid : Prop := fieldInverseRow.holds Try.pinned (OpenSpec.ofChange fieldInverseSpec)

/-- ITS FALSE NEIGHBOUR: 'it returns false'. Refute it at one input. -/
def fieldInverseWrong : ChangeSpec := { name := "fieldInverse", fn := fun _ => fun
  | [d] => { results := [.lit (.bool false)], args := [d] }
  | _ => none }
def FieldInverseWrongFalsely : Prop := fieldInverseRow.holds Try.pinned (OpenSpec.ofChange fieldInverseWrong)

/-- 'cocyclelaw05.FieldImage': WHATEVER THE INPUT: true; the input reads as it did. -/
def fieldImageSpec : ChangeSpec := { name := "fieldImage", fn := fun _ => fun
  | [d] => { results := [.lit (.bool true)], args := [d] }
  | _ => none }
def fieldImageRow : OpenClaim := { program := "ytdoogoglfbohaaa", sum := "9e40daf0589cd17026e03aa45f928b93d129cf8466c5eeeffda5f27b71ebab3c", func := "cocycle/cocyclelaw05.FieldImage", spec := "fieldImage", unfollowed := true, recurses := true, apart := false }
def FieldImageSaid : Prop := fieldImageRow.holds Try.pinned (OpenSpec.ofChange fieldImageSpec)

/-- ITS FALSE NEIGHBOUR: 'it returns false'. Refute it at one input. -/
def fieldImageWrong : ChangeSpec := { name := "fieldImage", fn := fun _ => fun
  | [d] => { results := [.lit (.bool false)], args := [d] }
  | _ => none }
def FieldImageWrongFalsely : Prop := fieldImageRow.holds Try.pinned (OpenSpec.ofChange fieldImageWrong)

/-- 'cocyclelaw05.FieldSolves': WHATEVER THE INPUT: true; the input reads as it did. -/
def fieldSolvesSpec : ChangeSpec := { name := "fieldSolves", fn := fun _ => fun
  | [d1, d2, d3] => { results := [.lit (.bool true)], args := [d1, d2, d3] }
  | _ => none }
def fieldSolvesRow : OpenClaim := { program := "ytdoogoglfbohaaa", sum := "9e40daf0589cd17026e03aa45f928b93d129cf8466c5eeeffda5f27b71ebab3c", func := "cocycle/cocyclelaw05.FieldSolves", spec := "fieldSolves", unfollowed := true, recurses := true, apart := false }
def FieldSolvesSaid : Prop := fieldSolvesRow.holds Try.pinned (OpenSpec.ofChange fieldSolvesSpec)

/-- ITS FALSE NEIGHBOUR: 'it returns false'. Refute it at one input. -/
def fieldSolvesWrong : ChangeSpec := { name := "fieldSolves", fn := fun _ => fun
  | [d1, d2, d3] => { results := [.lit (.bool false)], args := [d1, d2, d3] }
  | _ => none }
def FieldSolvesWrongFalsely : Prop := fieldSolvesRow.holds Try.pinned (OpenSpec.ofChange fieldSolvesWrong)

/-- 'cocyclelaw05.FieldKernel': WHATEVER THE INPUT: true; the input reads as it did. -/
def fieldKernelSpec : ChangeSpec := { name := "fieldKernel", fn := fun _ => fun
  | [d] => { results := [.lit (.bool true)], args := [d] }
  | _ => none }
def fieldKernelRow : OpenClaim := { program := "ytdoogoglfbohaaa", sum := "9e40daf0589cd17026e03aa45f928b93d129cf8466c5eeeffda5f27b71ebab3c", func := "cocycle/cocyclelaw05.FieldKernel", spec := "fieldKernel", unfollowed := true, recurses := true, apart := false }
def FieldKernelSaid : Prop := fieldKernelRow.holds Try.pinned (OpenSpec.ofChange fieldKernelSpec)

/-- ITS FALSE NEIGHBOUR: 'it returns false'. Refute it at one input. -/
def fieldKernelWrong : ChangeSpec := { name := "fieldKernel", fn := fun _ => fun
  | [d] => { results := [.lit (.bool false)], args := [d] }
  | _ => none }
def FieldKernelWrongFalsely : Prop := fieldKernelRow.holds Try.pinned (OpenSpec.ofChange fieldKernelWrong)

/-- 'cocyclelaw05.FieldOwn': WHATEVER THE INPUT: true; the input reads as it did. -/
def fieldOwnSpec : ChangeSpec := { name := "fieldOwn", fn := fun _ => fun
  | [d] => { results := [.lit (.bool true)], args := [d] }
  | _ => none }
def fieldOwnRow : OpenClaim := { program := "ytdoogoglfbohaaa", sum := "9e40daf0589cd17026e03aa45f928b93d129cf8466c5eeeffda5f27b71ebab3c", func := "cocycle/cocyclelaw05.FieldOwn", spec := "fieldOwn", unfollowed := true, recurses := true, apart := false }
def FieldOwnSaid : Prop := fieldOwnRow.holds Try.pinned (OpenSpec.ofChange fieldOwnSpec)

/-- ITS FALSE NEIGHBOUR: 'it returns false'. Refute it at one input. -/
def fieldOwnWrong : ChangeSpec := { name := "fieldOwn", fn := fun _ => fun
  | [d] => { results := [.lit (.bool false)], args := [d] }
  | _ => none }
def FieldOwnWrongFalsely : Prop := fieldOwnRow.holds Try.pinned (OpenSpec.ofChange fieldOwnWrong)

/-- 'cocyclelaw05.FieldWrong': WHATEVER THE INPUT: true; the input reads as it did. -/
def fieldWrongSpec : ChangeSpec := { name := "fieldWrong", fn := fun _ => fun
  | [d1, d2, d3] => { results := [.lit (.bool true)], args := [d1, d2, d3] }
  | _ => none }
def fieldWrongRow : OpenClaim := { program := "ytdoogoglfbohaaa", sum := "9e40daf0589cd17026e03aa45f928b93d129cf8466c5eeeffda5f27b71ebab3c", func := "cocycle/cocyclelaw05.FieldWrong", spec := "fieldWrong", unfollowed := true, recurses := true, apart := false }
def FieldWrongSaid : Prop := fieldWrongRow.holds Try.pinned (OpenSpec.ofChange fieldWrongSpec)

/-- ITS FALSE NEIGHBOUR: 'it returns false'. Refute it at one input. -/
def fieldWrongWrong : ChangeSpec := { name := "fieldWrong", fn := fun _ => fun
  | [d1, d2, d3] => { results := [.lit (.bool false)], args := [d1, d2, d3] }
  | _ => none }
def FieldWrongWrongFalsely : Prop := fieldWrongRow.holds Try.pinned (OpenSpec.ofChange fieldWrongWrong)

/-- 'cocyclelaw05.FieldSums': WHATEVER THE INPUT: true; the input reads as it did. -/
def fieldSumsSpec : ChangeSpec := { name := "fieldSums", fn := fun _ => fun
  | [d1, d2] => { results := [.lit (.bool true)], args := [d1, d2] }
  | _ => none }
def fieldSumsRow : OpenClaim := { program := "ytdoogoglfbohaaa", sum := "9e40daf0589cd17026e03aa45f928b93d129cf8466c5eeeffda5f27b71ebab3c", func := "cocycle/cocyclelaw05.FieldSums", spec := "fieldSums", unfollowed := true, recurses := true, apart := false }
def FieldSumsSaid : Prop := fieldSumsRow.holds Try.pinned (OpenSpec.ofChange fieldSumsSpec)

/-- ITS FALSE NEIGHBOUR: 'it returns false'. Refute it at one input. -/
def fieldSumsWrong : ChangeSpec := { name := "fieldSums", fn := fun _ => fun
  | [d1, d2] => { results := [.lit (.bool false)], args := [d1, d2] }
  | _ => none }
def FieldSumsWrongFalsely : Prop := fieldSumsRow.holds Try.pinned (OpenSpec.ofChange fieldSumsWrong)

/- THE SECOND FORM. 'bulk': how many values and letters a reading holds, each counted each time it is reached (what is shared counts as often as it is met; a slice's spare places count too). A statement '..UptoSaid' is the law's where the arguments, and the package variables that the reading takes, are together of bulk at most 1048576: NARROWER than '..Said'. Prove '..Said' where nothing that the law and all that it calls make is longer than what came in: it says more and counts as full. Else prove '..UptoSaid'. A law counts once. -/
mutual
def uptoBulk {H : Type} : DataW H → Nat
  | .lit (.string bytes) => bytes.length + 1
  | .lit _ => 1
  | .nil => 1
  | .ptr d => uptoBulk d + 1
  | .slice elems spare => uptoBulkAll elems + uptoBulkAll spare + 1
  | .agg parts => uptoBulkAll parts + 1
  | .iface _ d => uptoBulk d + 1
  | .map entries => uptoBulkEntries entries + 1
  | .held _ => 1
def uptoBulkAll {H : Type} : List (DataW H) → Nat
  | [] => 0
  | d :: r => uptoBulk d + uptoBulkAll r
def uptoBulkEntries {H : Type} : List (Lit × DataW H) → Nat
  | [] => 0
  | x :: r => uptoBulkEntry x + uptoBulkEntries r
def uptoBulkEntry {H : Type} : Lit × DataW H → Nat
  | (.string bytes, d) => bytes.length + uptoBulk d + 1
  | (_, d) => uptoBulk d + 1
 end
def uptoSmall : (H : Type) → List (DataW H) → Bool := fun _ ds => decide (uptoBulkAll ds ≤ 1048576)
def OpenSpec.upto (s : _root_.Go.ChangeSpec) : _root_.Go.OpenSpec := { _root_.Go.OpenSpec.ofChange s with cond := some uptoSmall }

/-- 'cocyclelaw05.FieldEchelon', WHERE WHAT IT READS IS OF BULK AT MOST 1048576: true; the input reads as it did. -/
def fieldEchelonUptoRow : OpenClaim := { program := "ytdoogoglfbohaaa", sum := "9e40daf0589cd17026e03aa45f928b93d129cf8466c5eeeffda5f27b71ebab3c", func := "cocycle/cocyclelaw05.FieldEchelon", spec := "fieldEchelon", unfollowed := true, recurses := true, apart := false, narrowed := true }
def FieldEchelonUptoSaid : Prop := fieldEchelonUptoRow.holds Try.pinned (OpenSpec.upto fieldEchelonSpec)

/-- 'cocyclelaw05.FieldInverse', WHERE WHAT IT READS IS OF BULK AT MOST 1048576: true; the input reads as it did. -/
def fieldInverseUptoRow : OpenClaim := { program := "ytdoogoglfbohaaa", sum := "9e40daf0589cd17026e03aa45f928b93d129cf8466c5eeeffda5f27b71ebab3c", func := "cocycle/cocyclelaw05.FieldInverse", spec := "fieldInverse", unfollowed := true, recurses := true, apart := false, narrowed := true }
def FieldInverseUptoSaid : Prop := fieldInverseUptoRow.holds Try.pinned (OpenSpec.upto fieldInverseSpec)

/-- 'cocyclelaw05.FieldImage', WHERE WHAT IT READS IS OF BULK AT MOST 1048576: true; the input reads as it did. -/
def fieldImageUptoRow : OpenClaim := { program := "ytdoogoglfbohaaa", sum := "9e40daf0589cd17026e03aa45f928b93d129cf8466c5eeeffda5f27b71ebab3c", func := "cocycle/cocyclelaw05.FieldImage", spec := "fieldImage", unfollowed := true, recurses := true, apart := false, narrowed := true }
def FieldImageUptoSaid : Prop := fieldImageUptoRow.holds Try.pinned (OpenSpec.upto fieldImageSpec)

/-- 'cocyclelaw05.FieldSolves', WHERE WHAT IT READS IS OF BULK AT MOST 1048576: true; the input reads as it did. -/
def fieldSolvesUptoRow : OpenClaim := { program := "ytdoogoglfbohaaa", sum := "9e40daf0589cd17026e03aa45f928b93d129cf8466c5eeeffda5f27b71ebab3c", func := "cocycle/cocyclelaw05.FieldSolves", spec := "fieldSolves", unfollowed := true, recurses := true, apart := false, narrowed := true }
def FieldSolvesUptoSaid : Prop := fieldSolvesUptoRow.holds Try.pinned (OpenSpec.upto fieldSolvesSpec)

/-- 'cocyclelaw05.FieldKernel', WHERE WHAT IT READS IS OF BULK AT MOST 1048576: true; the input reads as it did. -/
def fieldKernelUptoRow : OpenClaim := { program := "ytdoogoglfbohaaa", sum := "9e40daf0589cd17026e03aa45f928b93d129cf8466c5eeeffda5f27b71ebab3c", func := "cocycle/cocyclelaw05.FieldKernel", spec := "fieldKernel", unfollowed := true, recurses := true, apart := false, narrowed := true }
def FieldKernelUptoSaid : Prop := fieldKernelUptoRow.holds Try.pinned (OpenSpec.upto fieldKernelSpec)

/-- 'cocyclelaw05.FieldOwn', WHERE WHAT IT READS IS OF BULK AT MOST 1048576: true; the input reads as it did. -/
def fieldOwnUptoRow : OpenClaim := { program := "ytdoogoglfbohaaa", sum := "9e40daf0589cd17026e03aa45f928b93d129cf8466c5eeeffda5f27b71ebab3c", func := "cocycle/cocyclelaw05.FieldOwn", spec := "fieldOwn", unfollowed := true, recurses := true, apart := false, narrowed := true }
def FieldOwnUptoSaid : Prop := fieldOwnUptoRow.holds Try.pinned (OpenSpec.upto fieldOwnSpec)

/-- 'cocyclelaw05.FieldWrong', WHERE WHAT IT READS IS OF BULK AT MOST 1048576: true; the input reads as it did. -/
def fieldWrongUptoRow : OpenClaim := { program := "ytdoogoglfbohaaa", sum := "9e40daf0589cd17026e03aa45f928b93d129cf8466c5eeeffda5f27b71ebab3c", func := "cocycle/cocyclelaw05.FieldWrong", spec := "fieldWrong", unfollowed := true, recurses := true, apart := false, narrowed := true }
def FieldWrongUptoSaid : Prop := fieldWrongUptoRow.holds Try.pinned (OpenSpec.upto fieldWrongSpec)

/-- 'cocyclelaw05.FieldSums', WHERE WHAT IT READS IS OF BULK AT MOST 1048576: true; the input reads as it did. -/
def fieldSumsUptoRow : OpenClaim := { program := "ytdoogoglfbohaaa", sum := "9e40daf0589cd17026e03aa45f928b93d129cf8466c5eeeffda5f27b71ebab3c", func := "cocycle/cocyclelaw05.FieldSums", spec := "fieldSums", unfollowed := true, recurses := true, apart := false, narrowed := true }
def FieldSumsUptoSaid : Prop := fieldSumsUptoRow.holds Try.pinned (OpenSpec.upto fieldSumsSpec)

end Rows
end Go.Proofs.Ytdoogoglfbohaaa
