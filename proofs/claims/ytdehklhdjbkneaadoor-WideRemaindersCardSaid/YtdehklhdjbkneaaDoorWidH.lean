/- The value when a digit is set. -/
import Derived.Test.YtdehklhdjbkneaaDoorWidG
namespace Go.Proofs.YtdehklhdjbkneaaDoor
open Go Go.RowKit
set_option linter.unusedSimpArgs false
set_option linter.unusedVariables false
set_option linter.unusedSectionVars false

theorem val_set {b : Nat} : ∀ {l : List Nat} {j u : Nat}, j < l.length → val b (l.set j u) + b ^ j * l.getD j 0 = val b l + b ^ j * u
  | x :: l, 0, u, _ => by
    simp only [List.set_cons_zero, val, Nat.pow_zero, Nat.one_mul, List.getD_cons_zero]
    omega
  | x :: l, j + 1, u, h => by
    have ih := val_set (b := b) (l := l) (j := j) (u := u) (by simpa using h)
    simp only [List.set_cons_succ, val, List.getD_cons_succ, Nat.pow_succ]
    have h2 := congrArg (b * ·) ih
    simp only [Nat.mul_add] at h2
    have e : ∀ z, b ^ j * b * z = b * (b ^ j * z) := fun z => by rw [Nat.mul_comm (b ^ j) b, Nat.mul_assoc]
    rw [e, e]
    omega

end Go.Proofs.YtdehklhdjbkneaaDoor
