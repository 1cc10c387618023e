/- Canonical digits: told by their value. -/
import Derived.Test.YtdehklhdjbkneaaDoorWidB
namespace Go.Proofs.YtdehklhdjbkneaaDoor
open Go Go.RowKit
set_option linter.unusedSimpArgs false
set_option linter.unusedVariables false
set_option linter.unusedSectionVars false

/-- Digits to the base b, without zeros at the end. -/
structure Dig (b : Nat) (l : List Nat) : Prop where
  lt : ∀ x ∈ l, x < b
  nrm : nrm l = l

theorem nrm_tail {x : Nat} {l : List Nat} (h : nrm (x :: l) = x :: l) : nrm l = l := by
  rw [nrm] at h
  cases hn : nrm l with
  | nil =>
    rw [hn] at h
    by_cases hx : x = 0
    · rw [if_pos hx] at h; cases h
    · rw [if_neg hx] at h; simpa using h
  | cons y s =>
    rw [hn] at h
    simpa using h
theorem nrm_mem {l : List Nat} : ∀ x ∈ nrm l, x ∈ l := by
  induction l with
  | nil => intro x h; exact h
  | cons y r ih =>
    intro x h
    rw [nrm] at h
    cases hn : nrm r with
    | nil =>
      rw [hn] at h
      by_cases hy : y = 0
      · rw [if_pos hy] at h; cases h
      · rw [if_neg hy] at h; simp at h; simp [h]
    | cons z s =>
      rw [hn] at h
      rcases List.mem_cons.1 h with rfl | h
      · simp
      · exact List.mem_cons_of_mem _ (ih x (by rw [hn]; exact h))
theorem nrm_nrm (l : List Nat) : nrm (nrm l) = nrm l := by
  induction l with
  | nil => rfl
  | cons x r ih =>
    rw [nrm]
    cases hn : nrm r with
    | nil =>
      by_cases hx : x = 0
      · simp [hx, nrm]
      · simp [hx, nrm]
    | cons y s =>
      rw [hn] at ih
      show nrm (x :: y :: s) = x :: y :: s
      rw [nrm, ih]
theorem Dig.of {b : Nat} {l : List Nat} (h : ∀ x ∈ l, x < b) : Dig b (Go.Proofs.YtdehklhdjbkneaaDoor.nrm l) := ⟨fun x hx => h x (nrm_mem x hx), nrm_nrm l⟩
theorem Dig.tail {b x : Nat} {l : List Nat} (h : Dig b (x :: l)) : Dig b l := ⟨fun y hy => h.lt y (List.mem_cons_of_mem _ hy), nrm_tail h.nrm⟩
theorem Dig.nil (b : Nat) : Dig b [] := ⟨fun x h => (by cases h), rfl⟩

theorem val_pos {b : Nat} (hb : 0 < b) : ∀ {l : List Nat}, Go.Proofs.YtdehklhdjbkneaaDoor.nrm l = l → l ≠ [] → 0 < val b l
  | [], _, h => absurd rfl h
  | x :: l, h, _ => by
    rw [val]
    by_cases hl : l = []
    · subst hl
      have hx : x ≠ 0 := fun e => by subst e; simp [Go.Proofs.YtdehklhdjbkneaaDoor.nrm] at h
      omega
    · have := Nat.mul_pos hb (val_pos hb (nrm_tail h) hl)
      omega

theorem Dig.inj {b : Nat} : ∀ {l r : List Nat}, Dig b l → Dig b r → val b l = val b r → l = r
  | [], [], _, _, _ => rfl
  | [], y :: r, _, hr, h => by
    have hb : 0 < b := Nat.lt_of_le_of_lt (Nat.zero_le _) (hr.lt y (by simp))
    have := val_pos hb hr.nrm (by simp)
    rw [← h] at this
    exact absurd this (Nat.lt_irrefl 0)
  | x :: l, [], hl, _, h => by
    have hb : 0 < b := Nat.lt_of_le_of_lt (Nat.zero_le _) (hl.lt x (by simp))
    have := val_pos hb hl.nrm (by simp)
    rw [h] at this
    exact absurd this (Nat.lt_irrefl 0)
  | x :: l, y :: r, hl, hr, h => by
    have hx := hl.lt x (by simp)
    have hy := hr.lt y (by simp)
    rw [val, val] at h
    have h1 : x = y := by
      have := congrArg (· % b) h
      simpa [Nat.add_mul_mod_self_left, Nat.mod_eq_of_lt hx, Nat.mod_eq_of_lt hy] using this
    have h2 : val b l = val b r := by
      have := congrArg (· / b) h
      have hb : 0 < b := by omega
      simpa [Nat.add_mul_div_left _ _ hb, Nat.div_eq_of_lt hx, Nat.div_eq_of_lt hy] using this
    rw [h1, Dig.inj hl.tail hr.tail h2]

theorem val_lt {b : Nat} : ∀ {l : List Nat}, (∀ x ∈ l, x < b) → val b l < b ^ l.length
  | [], _ => by simp [val]
  | x :: l, h => by
    have h1 := h x (by simp)
    have h2 := val_lt (l := l) fun y hy => h y (List.mem_cons_of_mem _ hy)
    rw [val, List.length_cons, Nat.pow_succ, Nat.mul_comm (b ^ l.length) b]
    have h3 : b * (val b l + 1) ≤ b * b ^ l.length := Nat.mul_le_mul_left _ h2
    rw [Nat.mul_add] at h3
    omega
theorem val_ge {b : Nat} (hb : 0 < b) {l : List Nat} (h : Go.Proofs.YtdehklhdjbkneaaDoor.nrm l = l) (hl : l ≠ []) : b ^ (l.length - 1) ≤ val b l := by
  induction l with
  | nil => exact absurd rfl hl
  | cons x l ih =>
    by_cases h0 : l = []
    · subst h0
      have := val_pos hb h (by simp)
      show b ^ 0 ≤ _
      rw [Nat.pow_zero]; exact this
    · have h1 := ih (nrm_tail h) h0
      have hp : 0 < l.length := List.length_pos_iff.2 h0
      rw [val, List.length_cons, Nat.add_sub_cancel]
      have h2 : b ^ l.length = b * b ^ (l.length - 1) := by
        conv => lhs; rw [show l.length = l.length - 1 + 1 by omega, Nat.pow_succ, Nat.mul_comm]
      rw [h2]
      have := Nat.mul_le_mul_left b h1
      omega

end Go.Proofs.YtdehklhdjbkneaaDoor
