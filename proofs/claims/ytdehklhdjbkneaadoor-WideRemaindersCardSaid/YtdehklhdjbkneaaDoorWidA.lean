/- Numbers as lists of digits. -/
import Derived.Test.YtdehklhdjbkneaaDoorExW
namespace Go.Proofs.YtdehklhdjbkneaaDoor
open Go Go.RowKit
set_option linter.unusedSimpArgs false
set_option linter.unusedVariables false
set_option linter.unusedSectionVars false

/-- Without zeros at the end. -/
def nrm (l : List Nat) : List Nat := match l with
  | [] => []
  | x :: r => match nrm r with
    | [] => if x = 0 then [] else [x]
    | y :: s => x :: y :: s

theorem nrm_snoc0 (l : List Nat) : nrm (l ++ [0]) = nrm l := by
  induction l with
  | nil => rfl
  | cons x r ih => simp only [List.cons_append, nrm, ih]
theorem nrm_snoc (l : List Nat) {x : Nat} (hx : x ≠ 0) : nrm (l ++ [x]) = l ++ [x] := by
  induction l with
  | nil => simp [nrm, hx]
  | cons y r ih =>
    rw [List.cons_append, nrm, ih]
    cases r <;> rfl

/-- The value of digits to the base b. -/
def val (b : Nat) : List Nat → Nat
  | [] => 0
  | x :: r => x + b * val b r
theorem val_nrm (b : Nat) (l : List Nat) : val b (nrm l) = val b l := by
  induction l with
  | nil => rfl
  | cons x r ih =>
    rw [nrm, val]
    cases h : nrm r with
    | nil =>
      rw [h] at ih
      have : val b r = 0 := ih.symm
      rw [this]
      by_cases hx : x = 0
      · simp [hx, val]
      · simp [hx, val]
    | cons y s => rw [h] at ih; simp only [val] at ih ⊢; rw [← ih]
theorem val_append (b : Nat) (l r : List Nat) : val b (l ++ r) = val b l + b ^ l.length * val b r := by
  induction l with
  | nil => simp [val]
  | cons x l ih =>
    simp only [List.cons_append, val, ih, List.length_cons, Nat.pow_succ, Nat.mul_add]
    rw [Nat.mul_comm (b ^ l.length) b, Nat.mul_assoc]
    omega

end Go.Proofs.YtdehklhdjbkneaaDoor
