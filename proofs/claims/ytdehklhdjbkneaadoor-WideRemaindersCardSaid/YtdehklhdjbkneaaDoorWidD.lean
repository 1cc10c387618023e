/- The sum of words. -/
import Derived.Test.YtdehklhdjbkneaaDoorWidC
namespace Go.Proofs.YtdehklhdjbkneaaDoor
open Go Go.RowKit
set_option linter.unusedSimpArgs false
set_option linter.unusedVariables false
set_option linter.unusedSectionVars false

/-- The base of words. -/
abbrev W32 : Nat := 4294967296

theorem val_take {b : Nat} (l : List Nat) (i : Nat) : val b (l.take (i + 1)) = val b (l.take i) + b ^ i * l.getD i 0 := by
  rw [List.take_add_one]
  by_cases h : i < l.length
  · rw [gD_lt (d := 0) h, val_append]
    simp only [Option.toList_some, val, Nat.mul_zero, Nat.add_zero, List.length_take, Nat.min_eq_left (Nat.le_of_lt h)]
  · rw [List.getElem?_eq_none (by omega)]
    simp [List.getD, List.getElem?_eq_none (show l.length ≤ i by omega)]
theorem take_set {l : List Nat} {i u : Nat} : (l.set i u).take i = l.take i := by
  rw [List.take_set_of_le (Nat.le_refl _)]
theorem getD_set_self {l : List Nat} {i u : Nat} (h : i < l.length) : (l.set i u).getD i 0 = u := by
  simp [List.getD, h]
theorem mem_getD_lt {b : Nat} (hb : 0 < b) {l : List Nat} (h : ∀ x ∈ l, x < b) (i : Nat) : l.getD i 0 < b := by
  by_cases hi : i < l.length
  · exact h _ (mem_getD hi)
  · simp only [List.getD, List.getElem?_eq_none (show l.length ≤ i by omega), Option.getD_none]; exact hb

end Go.Proofs.YtdehklhdjbkneaaDoor
