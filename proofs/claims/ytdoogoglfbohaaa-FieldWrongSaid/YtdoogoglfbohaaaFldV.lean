/- The inverse of a number modulo a prime: by trial, once for all primes that are permitted. -/
import Derived.Test.YtdoogoglfbohaaaFldS
namespace Go.Proofs.Ytdoogoglfbohaaa
open Go Go.RowKit
set_option linter.unusedSimpArgs false
set_option linter.unusedVariables false
set_option linter.unusedSectionVars false

def chk1 (p : Nat) : Nat → Bool
  | 0 => true
  | n + 1 => (Nat.beq n 0 || Nat.beq ((n ^ (p - 2) * n) % p) 1) && chk1 p n
def noDiv (p : Nat) : Nat → Bool
  | 0 => true
  | d + 1 => (Nat.ble d 1 || Nat.ble p d || !Nat.beq (p % d) 0) && noDiv p d
def chkAll : Nat → Bool
  | 0 => true
  | p + 1 => (Nat.ble p 1 || !noDiv p 32 || chk1 p p) && chkAll p
theorem chkAll_true : chkAll 998 = true := by decide +kernel

theorem chk1_spec {p : Nat} : ∀ {k : Nat}, chk1 p k = true → ∀ n, 0 < n → n < k → n ^ (p - 2) * n % p = 1
  | 0, _, n, _, h => by omega
  | k + 1, h, n, h0, hn => by
    simp only [chk1, Bool.and_eq_true, Bool.or_eq_true, Nat.beq_eq] at h
    by_cases hk : n = k
    · subst hk
      rcases h.1 with h1 | h1
      · omega
      · exact h1
    · exact chk1_spec h.2 n h0 (by omega)
theorem noDiv_of {p : Nat} (hp : Pr p) : ∀ k, noDiv p k = true
  | 0 => rfl
  | k + 1 => by
    simp only [noDiv, Bool.and_eq_true, Bool.or_eq_true, Nat.ble_eq, Bool.not_eq_true']
    refine ⟨?_, noDiv_of hp k⟩
    by_cases h1 : k ≤ 1
    · exact .inl (.inl h1)
    · by_cases h2 : p ≤ k
      · exact .inl (.inr h2)
      · refine .inr ?_
        have := hp.2.2 k (by omega) (by omega)
        cases h : Nat.beq (p % k) 0 with
        | false => rfl
        | true => exact absurd (Nat.eq_of_beq_eq_true h) this
theorem chkAll_spec : ∀ {k : Nat}, chkAll k = true → ∀ p, Pr p → p < k → chk1 p p = true
  | 0, _, p, _, h => by omega
  | k + 1, h, p, hp, hk => by
    simp only [chkAll, Bool.and_eq_true, Bool.or_eq_true, Nat.ble_eq, Bool.not_eq_true'] at h
    by_cases e : p = k
    · subst e
      rcases h.1 with (h1 | h1) | h1
      · have := hp.1; omega
      · rw [noDiv_of hp] at h1; cases h1
      · exact h1
    · exact chkAll_spec h.2 p hp (by omega)
/-- The power is the inverse. -/
theorem inv_mul {p n : Nat} (hp : Pr p) (h0 : 0 < n) (hn : n < p) : n ^ (p - 2) * n % p = 1 :=
  chk1_spec (chkAll_spec chkAll_true p hp (by have := hp.2.1; omega)) n h0 hn

end Go.Proofs.Ytdoogoglfbohaaa
