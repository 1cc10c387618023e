/- The rules of the judgement, continued: integers of other kinds, conversions, fields of values. -/
import Derived.Test.YtdoogoglfbohaaaExL
namespace Go.Proofs.Ytdoogoglfbohaaa
open Go Go.RowKit
set_option linter.unusedSimpArgs false
set_option linter.unusedVariables false
set_option linter.unusedSectionVars false

/-- An integer type. -/
class TI (P : Program) (t : TypeId) (k : outParam IntKind) : Prop where
  und : P.underlying t = some (.int k)

theorem TI.kind {P : Program} {t : TypeId} {k : IntKind} [h : TI P t k] : P.intKind t = k := by
  unfold Program.intKind
  rw [h.und]

section
variable {c : Cx} {Q : Exit → Act → World → Prop} {m : Mode} {F : SFrame} {H : SHeap} {r : List SOp} {g : Option (Option Tmp × Bool)} {ns : Bool} {d : Tmp} {ty t t' : TypeId} {x y : Operand}

/-- An integer that is made an int. -/
theorem r_convN {k : IntKind} {i : Nat} [TI c.P t k] [TI c.P t' .i64] (hd : dstOk c.n (some d) = true) (hg : guardF F g = some true) (hx : ev F x = some (.int k i)) (hb : i < 9223372036854775808)
    (h : JO c Q m r ((d, .int .i64 i) :: F) H) : JO c Q m (⟨some d, .convert t t' x, ty, g, .mov, ns⟩ :: r) F H :=
  r_mov hd hg (fun a w fr => by
    have h1 := run_convert_int w t t' k i (by rw [TI.und (P := c.P) (t := t)]; rfl) (by rw [TI.kind (k := .i64)]; exact TI.und)
    rw [TI.kind (k := .i64), in64N hb] at h1
    simp only [execOp, fr.ev hx, Sem.run_bind, h1, Result.andThen_ok, Sem.run_pure]) h

theorem r_modK {k : IntKind} {i : Nat} (j : Nat) (hd : dstOk c.n (some d) = true) (hg : guardF F g = some true) (hx : ev F x = some (.int k i)) (hy : ev F y = some (.int k (j : Nat))) (hb : 0 < j)
    (h : JO c Q m r ((d, (.int k ((i % j : Nat) : Int))) :: F) H) : JO c Q m (⟨some d, .binOp .rem t x y t', ty, g, .mov, ns⟩ :: r) F H :=
  r_arith hd hg hx hy (fun w => by
    have h0 : ¬ ((j : Int) = 0) := by omega
    rw [binOp_rem]; simp only [Op.intDiv, h0, if_false, Sem.run_pure, Int.ofNat_tmod]) h

theorem r_field {s : TypeId} {fs : Array Field} {fl : Field} {f : Nat} {vs : Array Value} {v : Value} (hu : c.P.underlying s = some (.struct fs)) (hf : fs[f]? = some fl) (ht : T1 c.P fl.type) (hd : dstOk c.n (some d) = true) (hg : guardF F g = some true) (hx : ev F x = some (.agg vs)) (hv : vs[fl.offset]? = some v)
    (h : JO c Q m r ((d, v) :: F) H) : JO c Q m (⟨some d, .field s x f, ty, g, .mov, ns⟩ :: r) F H :=
  r_mov hd hg (fun a w fr => by
    simp only [execOp, fr.ev hx, Instr.field, Sem.run_bind, run_underlying hu, Result.andThen_ok, hf, asAgg, Sem.run_pure, part, T1.agg, Bool.false_eq_true, if_false, hv]) h

end

instance : TI Try.prog 3 .i64 := ⟨Try.underlying3⟩
instance : TI Try.prog 5 .u8 := ⟨Try.underlying5⟩

end Go.Proofs.Ytdoogoglfbohaaa
