/- Matrices as lists; sums, products, and the like, in plain words. -/
import Derived.Test.YtdoogoglfbohaaaFldS
namespace Go.Proofs.Ytdoogoglfbohaaa
open Go Go.RowKit
set_option linter.unusedSimpArgs false
set_option linter.unusedVariables false
set_option linter.unusedSectionVars false

theorem idx_lt {r c i j : Nat} (hi : i < r) (hj : j < c) : i * c + j < r * c := by
  have := Nat.mul_le_mul_right c (show i + 1 ≤ r by omega)
  rw [Nat.add_mul] at this
  omega
theorem idx_div {c i j : Nat} (hj : j < c) : (i * c + j) / c = i := by
  rw [Nat.mul_comm, Nat.mul_add_div (by omega), Nat.div_eq_of_lt hj]; omega
theorem idx_mod {c i j : Nat} (hj : j < c) : (i * c + j) % c = j := by
  rw [Nat.mul_comm, Nat.mul_add_mod, Nat.mod_eq_of_lt hj]
theorem idx_inj {c i j i' j' : Nat} (hj : j < c) (hj' : j' < c) (h : i * c + j = i' * c + j') : i = i' ∧ j = j' := by
  have h1 := idx_div (i := i) hj
  have h2 := idx_div (i := i') hj'
  have h3 := idx_mod (i := i) hj
  have h4 := idx_mod (i := i') hj'
  rw [h] at h1 h3
  exact ⟨by omega, by omega⟩
theorem idx_split {r c k : Nat} (h : k < r * c) : k / c < r ∧ k % c < c ∧ k = (k / c) * c + k % c := by
  have hc : 0 < c := Nat.pos_of_ne_zero fun e => by subst e; simp at h
  refine ⟨(Nat.div_lt_iff_lt_mul hc).2 h, Nat.mod_lt _ hc, ?_⟩
  have := Nat.div_add_mod k c
  rw [Nat.mul_comm] at this
  exact this.symm

/-- The element in row i, column j. -/
def ent (c : Nat) (xs : List Nat) (i j : Nat) : Nat := xs.getD (i * c + j) 0

/-- The matrix with these elements. -/
def tab2 (r c : Nat) (g : Nat → Nat → Nat) : List Nat := tab (r * c) fun k => g (k / c) (k % c)

@[simp] theorem tab2_len (r c : Nat) (g : Nat → Nat → Nat) : (tab2 r c g).length = r * c := tab_len _ _
theorem ent_tab2 {r c i j : Nat} {g : Nat → Nat → Nat} (hi : i < r) (hj : j < c) : ent c (tab2 r c g) i j = g i j := by
  unfold ent tab2
  rw [tab_getD (idx_lt hi hj), idx_div hj, idx_mod hj]
theorem tab2_congr {r c : Nat} {g g' : Nat → Nat → Nat} (h : ∀ i j, i < r → j < c → g i j = g' i j) : tab2 r c g = tab2 r c g' :=
  tab_congr fun k hk => by
    obtain ⟨h1, h2, _⟩ := idx_split hk
    exact h _ _ h1 h2
theorem tab2_set {r c i j x : Nat} {g : Nat → Nat → Nat} (hj : j < c) : (tab2 r c g).set (i * c + j) x = tab2 r c (fun a b => if a = i ∧ b = j then x else g a b) := by
  unfold tab2
  rw [tab_set]
  refine tab_congr fun k hk => ?_
  obtain ⟨h1, h2, h3⟩ := idx_split hk
  by_cases h : k = i * c + j
  · subst h
    rw [idx_div hj, idx_mod hj]; simp
  · have hne : ¬ (k / c = i ∧ k % c = j) := fun ⟨ha, hb⟩ => h (by rw [h3, ha, hb])
    rw [if_neg h]
    simp only [hne, if_false]
theorem tab2_of {r c : Nat} {xs : List Nat} (hl : xs.length = r * c) : tab2 r c (ent c xs) = xs := by
  refine Eq.trans (tab_congr fun k hk => ?_) (tab_of (d := 0) hl)
  obtain ⟨_, _, h3⟩ := idx_split hk
  unfold ent
  rw [← h3]
theorem mat_ext {r c : Nat} {xs ys : List Nat} (hx : xs.length = r * c) (hy : ys.length = r * c) (h : ∀ i j, i < r → j < c → ent c xs i j = ent c ys i j) : xs = ys := by
  rw [← tab2_of hx, ← tab2_of hy]
  exact tab2_congr h

def sumTo : Nat → (Nat → Nat) → Nat
  | 0, _ => 0
  | k + 1, f => sumTo k f + f k

/-- One element of the matrix. -/
theorem Rt.ent {m : NM} (h : Rt m) (i j : Nat) : ent m.c m.e i j < m.p := h.lt' _

def addM (m n : NM) : NM := ⟨m.p, m.r, m.c, tab (m.r * m.c) fun i => (m.e.getD i 0 + n.e.getD i 0) % m.p⟩
def dot (m n : NM) (i j k : Nat) : Nat := sumTo k (fun t => ent m.c m.e i t * ent n.c n.e t j) % m.p
def mulM (m n : NM) : NM := ⟨m.p, m.r, n.c, tab2 m.r n.c fun i j => dot m n i j m.c⟩
def trM (m : NM) : NM := ⟨m.p, m.c, m.r, tab2 m.c m.r fun i j => ent m.c m.e j i⟩
def joinM (m n : NM) : NM := ⟨m.p, m.r, m.c + n.c, tab2 m.r (m.c + n.c) fun i j => if j < m.c then ent m.c m.e i j else ent n.c n.e i (j - m.c)⟩

theorem Rt.pos {m : NM} (h : Rt m) : 0 < m.p := by have := h.pr.1; omega
theorem tab_lt {n p : Nat} {g : Nat → Nat} (h : ∀ i, i < n → g i < p) : ∀ x ∈ tab n g, x < p := by
  intro x hx
  obtain ⟨i, hi, rfl⟩ := List.mem_map.1 hx
  exact h i (List.mem_range.1 hi)
theorem tab2_lt {r c p : Nat} {g : Nat → Nat → Nat} (h : ∀ i j, i < r → j < c → g i j < p) : ∀ x ∈ tab2 r c g, x < p :=
  tab_lt fun k hk => by obtain ⟨h1, h2, _⟩ := idx_split hk; exact h _ _ h1 h2

theorem Rt.add {m n : NM} (h : Rt m) : Rt (addM m n) := ⟨h.pr, h.r, h.c, by simp [addM], tab_lt fun i _ => Nat.mod_lt _ h.pos⟩
theorem Rt.mul {m n : NM} (h : Rt m) (h' : Rt n) : Rt (mulM m n) := ⟨h.pr, h.r, h'.c, by simp [mulM], tab2_lt (r := m.r) (c := n.c) (p := m.p) (g := fun i j => dot m n i j m.c) fun i j _ _ => Nat.mod_lt _ h.pos⟩
theorem Rt.tr {m : NM} (h : Rt m) : Rt (trM m) := ⟨h.pr, h.c, h.r, by simp [trM], tab2_lt (r := m.c) (c := m.r) (p := m.p) (g := fun i j => Go.Proofs.Ytdoogoglfbohaaa.ent m.c m.e j i) fun i j _ _ => h.ent _ _⟩
theorem Rt.join {m n : NM} (h : Rt m) (h' : Rt n) (hp : m.p = n.p) (hc : m.c + n.c ≤ 400) : Rt (joinM m n) := ⟨h.pr, h.r, hc, by simp [joinM], tab2_lt (r := m.r) (c := m.c + n.c) (p := m.p) (g := fun i j => if j < m.c then Go.Proofs.Ytdoogoglfbohaaa.ent m.c m.e i j else Go.Proofs.Ytdoogoglfbohaaa.ent n.c n.e i (j - m.c)) fun i j _ _ => by
  show (if j < m.c then _ else _) < m.p
  split
  · exact h.ent _ _
  · rw [hp]; exact h'.ent _ _⟩

theorem dot_zero (m n : NM) (i j : Nat) : dot m n i j 0 = 0 := by simp [dot, sumTo]
theorem dot_succ (m n : NM) (i j k : Nat) : (dot m n i j k + ent m.c m.e i k * ent n.c n.e k j) % m.p = dot m n i j (k + 1) := by
  simp only [dot, sumTo]
  rw [Nat.add_mod, Nat.mod_mod, ← Nat.add_mod]

/-- The values that are no matrix. -/
def zeroV : Value := .agg #[iv 0, iv 0, iv 0, .slice none 0 0]
def GivesMB (m : NM) (w : World) (v : Value) (w' : World) : Prop := ∃ N u, v = .tuple #[u, .bool true] ∧ New N w w' ∧ OwnM N u m
def GivesM (m : NM) (w : World) (v : Value) (w' : World) : Prop := ∃ N, New N w w' ∧ OwnM N v m

end Go.Proofs.Ytdoogoglfbohaaa
