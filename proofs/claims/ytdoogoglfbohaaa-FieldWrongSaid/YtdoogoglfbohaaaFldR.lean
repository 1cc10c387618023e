/- Row reduction, in plain words: what it computes, and that it is a reduced form of the same rows. -/
import Derived.Test.YtdoogoglfbohaaaFldA
import Derived.Test.YtdoogoglfbohaaaFld7
namespace Go.Proofs.Ytdoogoglfbohaaa
open Go Go.RowKit
set_option linter.unusedSimpArgs false
set_option linter.unusedVariables false
set_option linter.unusedSectionVars false

section
variable {p : Nat} [NeZero p]

def fi (p : Nat) [NeZero p] (x : Nat) : Fin p := Fin.ofNat p x

theorem fi_val (x : Nat) : (fi p x).val = x % p := rfl
theorem fi_mod (x : Nat) : fi p (x % p) = fi p x := by apply Fin.ext; simp only [fi_val, Nat.mod_mod]
theorem fi_add (x y : Nat) : fi p (x + y) = fi p x + fi p y := by
  apply Fin.ext; rw [Fin.val_add]; simp only [fi_val]; rw [Nat.add_mod]
theorem fi_mul (x y : Nat) : fi p (x * y) = fi p x * fi p y := by
  apply Fin.ext; rw [Fin.val_mul]; simp only [fi_val]; rw [Nat.mul_mod]
theorem fi_zero : fi p 0 = 0 := rfl
theorem fi_one : fi p 1 = 1 := rfl
theorem fi_p : fi p p = 0 := by apply Fin.ext; rw [fi_val, Nat.mod_self]; rfl
theorem fi_sub {n : Nat} (h : n ≤ p) : fi p (p - n) = - fi p n := by
  have h1 : fi p (p - n) + fi p n = 0 := by rw [← fi_add, Nat.sub_add_cancel h, fi_p]
  grind
theorem fi_inj {x y : Nat} (hx : x < p) (hy : y < p) (h : fi p x = fi p y) : x = y := by
  have := congrArg Fin.val h
  rwa [fi_val, fi_val, Nat.mod_eq_of_lt hx, Nat.mod_eq_of_lt hy] at this
theorem fi_self (x : Fin p) : fi p x.val = x := by apply Fin.ext; rw [fi_val, Nat.mod_eq_of_lt x.isLt]
theorem fi_ne {x : Nat} (hx : x < p) (h : x ≠ 0) : fi p x ≠ 0 := fun e => h (fi_inj hx (Nat.lt_of_le_of_lt (Nat.zero_le x) hx) (e.trans fi_zero.symm))

end

theorem Pr.nz {p : Nat} (hp : Pr p) : NeZero p := ⟨by have := hp.1; omega⟩
theorem Pr.gt {p : Nat} (hp : Pr p) : 1 < p := by have := hp.1; omega

/-- The inverse. -/
def invN (p n : Nat) : Nat := n ^ (p - 2) % p
theorem invN_lt {p n : Nat} (hp : Pr p) : invN p n < p := Nat.mod_lt _ (by have := hp.1; omega)
theorem invN_mul {p n : Nat} (hp : Pr p) (h0 : 0 < n) (hn : n < p) : invN p n * n % p = 1 := by
  have h1 := inv_mul hp h0 hn
  rw [← Nat.mod_mul_mod]
  unfold invN
  rw [Nat.mod_mod, Nat.mod_mul_mod]
  exact h1
theorem fi_inv {p n : Nat} [NeZero p] (hp : Pr p) (h0 : 0 < n) (hn : n < p) : fi p (invN p n) * fi p n = 1 := by
  rw [← fi_mul, ← fi_mod, invN_mul hp h0 hn, fi_one]
theorem invN_unique {p n k : Nat} (hp : Pr p) (h0 : 0 < n) (hn : n < p) (hk : k < p) (h : n * k % p = 1) : k = invN p n := by
  haveI := hp.nz
  refine fi_inj hk (invN_lt hp) ?_
  have h1 := fi_inv hp h0 hn
  have h2 : fi p n * fi p k = 1 := by rw [← fi_mul, ← fi_mod, h, fi_one]
  grind
theorem invN_pos {p n : Nat} (hp : Pr p) (h0 : 0 < n) (hn : n < p) : 0 < invN p n := by
  rcases Nat.eq_zero_or_pos (invN p n) with h | h
  · have := invN_mul hp h0 hn; rw [h, Nat.zero_mul, Nat.zero_mod] at this; cases this
  · exact h
theorem Pr.inv {p : Nat} [NeZero p] (hp : Pr p) : Inv p := fun x hx => by
  refine ⟨fi p (invN p x.val), ?_⟩
  have h0 : 0 < x.val := Nat.pos_of_ne_zero fun h => hx (by rw [← fi_self x, h]; rfl)
  have := fi_inv hp h0 x.isLt
  rwa [fi_self] at this

/-- The new matrix, if there is a pivot in row i, column j, and k pivots came before. -/
def pvN (p k i j : Nat) (g : Nat → Nat → Nat) : Nat → Nat → Nat := fun a b =>
  if a = k then g i b * invN p (g i j) % p
  else ((if a = i then g k b else g a b) + (p - (if a = i then g k j else g a j)) * (g i b * invN p (g i j) % p)) % p

/-- The first row from i on that has no zero in column j. -/
def fndR (xs : List Nat) (c j : Nat) : Nat → Nat → Nat
  | 0, i => i
  | f + 1, i => if ent c xs i j = 0 then fndR xs c j f (i + 1) else i

theorem fndR_none {xs : List Nat} {c j : Nat} : ∀ {f i : Nat}, (∀ t, i ≤ t → t < i + f → ent c xs t j = 0) → fndR xs c j f i = i + f
  | 0, i, _ => rfl
  | f + 1, i, h => by
    rw [fndR, if_pos (h i (Nat.le_refl _) (by omega)), fndR_none (fun t h1 h2 => h t (by omega) (by omega))]
    omega
theorem fndR_some {xs : List Nat} {c j t : Nat} : ∀ {f i : Nat}, i ≤ t → t < i + f → (∀ s, i ≤ s → s < t → ent c xs s j = 0) → ent c xs t j ≠ 0 → fndR xs c j f i = t
  | 0, i, h1, h2, _, _ => by omega
  | f + 1, i, h1, h2, h3, h4 => by
    rw [fndR]
    by_cases hi : i = t
    · subst hi; rw [if_neg h4]
    · rw [if_pos (h3 i (Nat.le_refl _) (by omega)), fndR_some (by omega) (by omega) (fun s a b => h3 s (by omega) b) h4]
theorem fndR_spec {xs : List Nat} {c j : Nat} : ∀ (f i : Nat), (fndR xs c j f i = i + f ∧ ∀ t, i ≤ t → t < i + f → ent c xs t j = 0) ∨ (i ≤ fndR xs c j f i ∧ fndR xs c j f i < i + f ∧ ent c xs (fndR xs c j f i) j ≠ 0)
  | 0, i => .inl ⟨rfl, fun t _ _ => by omega⟩
  | f + 1, i => by
    rw [fndR]
    by_cases h : ent c xs i j = 0
    · rw [if_pos h]
      rcases fndR_spec f (i + 1) with ⟨h1, h2⟩ | ⟨h1, h2, h3⟩
      · refine .inl ⟨by rw [h1]; omega, fun t a b => ?_⟩
        by_cases ht : t = i
        · subst ht; exact h
        · exact h2 t (by omega) (by omega)
      · exact .inr ⟨by omega, by omega, h3⟩
    · rw [if_neg h]; exact .inr ⟨Nat.le_refl _, by omega, h⟩

/-- The matrix and the pivots, behind j columns. -/
def redTo (p r c : Nat) (xs : List Nat) : Nat → List Nat × List Nat
  | 0 => (xs, [])
  | j + 1 =>
    let s := redTo p r c xs j
    let i := fndR s.1 c j (r - s.2.length) s.2.length
    if i < r then (tab2 r c (pvN p s.2.length i j (ent c s.1)), s.2 ++ [j]) else s

theorem redTo_none {p r c j : Nat} {xs : List Nat} (hk : (redTo p r c xs j).2.length ≤ r) (h : ∀ i, (redTo p r c xs j).2.length ≤ i → i < r → ent c (redTo p r c xs j).1 i j = 0) : redTo p r c xs (j + 1) = redTo p r c xs j := by
  rw [redTo]
  rw [fndR_none (fun t h1 h2 => h t h1 (by omega)), if_neg (by omega)]
theorem redTo_some {p r c j i : Nat} {xs : List Nat} (hi : (redTo p r c xs j).2.length ≤ i) (hr : i < r) (h : ∀ t, (redTo p r c xs j).2.length ≤ t → t < i → ent c (redTo p r c xs j).1 t j = 0) (h0 : ent c (redTo p r c xs j).1 i j ≠ 0) :
    redTo p r c xs (j + 1) = (tab2 r c (pvN p (redTo p r c xs j).2.length i j (ent c (redTo p r c xs j).1)), (redTo p r c xs j).2 ++ [j]) := by
  rw [redTo]
  rw [fndR_some hi (by omega) h h0, if_pos hr]

/-- As a matrix modulo p. -/
def mxL (p : Nat) [NeZero p] (c : Nat) (xs : List Nat) : Mx p := fun i j => if j < c then fi p (ent c xs i j) else 0

theorem mxL_in {p : Nat} [NeZero p] {c i j : Nat} {xs : List Nat} (hj : j < c) : mxL p c xs i j = fi p (ent c xs i j) := if_pos hj
theorem mxL_out {p : Nat} [NeZero p] {c i j : Nat} {xs : List Nat} (hj : c ≤ j) : mxL p c xs i j = 0 := if_neg (by omega)

theorem Red.congr {p : Nat} [NeZero p] {r c k : Nat} {e e' : Mx p} {pv : Nat → Nat} (h : Red r c e k pv) (he : ∀ i, i < r → ∀ j, j < c → e i j = e' i j) : Red r c e' k pv :=
  ⟨h.kr, h.inc, h.lt, fun i hi => by rw [← he i (Nat.lt_of_lt_of_le hi h.kr) _ (h.lt i hi)]; exact h.one i hi,
    fun i i' hi hi' hne => by rw [← he i' hi' _ (h.lt i hi)]; exact h.col i i' hi hi' hne,
    fun i j hi hj => by rw [← he i (Nat.lt_of_lt_of_le hi h.kr) j (Nat.lt_trans hj (h.lt i hi))]; exact h.left i j hi hj,
    fun i j h1 h2 h3 => by rw [← he i h2 j h3]; exact h.rest i j h1 h2 h3⟩
theorem Red.pvc {p : Nat} [NeZero p] {r c k : Nat} {e : Mx p} {pv pv' : Nat → Nat} (h : Red r c e k pv) (he : ∀ i, i < k → pv i = pv' i) : Red r c e k pv' :=
  ⟨h.kr, fun i i' a b => by rw [← he i (by omega), ← he i' b]; exact h.inc i i' a b, fun i hi => by rw [← he i hi]; exact h.lt i hi, fun i hi => by rw [← he i hi]; exact h.one i hi,
    fun i i' hi hi' hne => by rw [← he i hi]; exact h.col i i' hi hi' hne, fun i j hi hj => h.left i j hi (by rw [he i hi]; exact hj), h.rest⟩

/-- The elements of a matrix are numbers below p. -/
structure Els (p r c : Nat) (xs : List Nat) : Prop where
  len : xs.length = r * c
  lt : ∀ x ∈ xs, x < p

theorem Els.ent {p r c : Nat} {xs : List Nat} (h : Els p r c xs) (hp : 0 < p) (i j : Nat) : ent c xs i j < p := by
  unfold Go.Proofs.Ytdoogoglfbohaaa.ent
  rcases Nat.lt_or_ge (i * c + j) xs.length with hi | hi
  · exact h.lt _ (mem_getD hi)
  · simp only [List.getD, List.getElem?_eq_none hi, Option.getD_none]; exact hp

theorem pvN_lt {p k i j : Nat} {g : Nat → Nat → Nat} (hp : 0 < p) (a b : Nat) : pvN p k i j g a b < p := by
  unfold pvN
  split
  · exact Nat.mod_lt _ hp
  · exact Nat.mod_lt _ hp

theorem fi_pvN {p r c k i j : Nat} [NeZero p] {xs : List Nat} (h : Els p r c xs) (hp : Pr p) (hj : j < c) (a b : Nat) (ha : a < r) :
    mxL p c (tab2 r c (pvN p k i j (ent c xs))) a b = pvt k i j (fi p (invN p (ent c xs i j))) (mxL p c xs) a b := by
  have hp0 : 0 < p := by have := hp.1; omega
  have hle : ∀ a j, ent c xs a j ≤ p := fun a j => Nat.le_of_lt (h.ent hp0 a j)
  by_cases hb : b < c
  · rw [mxL_in hb, ent_tab2 ha hb]
    unfold pvN pvt
    by_cases h1 : a = k
    · rw [if_pos h1, if_pos h1, fi_mod, fi_mul, mxL_in hb]; grind
    · rw [if_neg h1, if_neg h1, fi_mod, fi_add, fi_mul, fi_mod, fi_mul]
      by_cases h2 : a = i
      · simp only [if_pos h2]
        rw [fi_sub (hle k j), mxL_in hb, mxL_in hj, mxL_in hb]; grind
      · simp only [if_neg h2]
        rw [fi_sub (hle a j), mxL_in hb, mxL_in hj, mxL_in hb]; grind
  · rw [mxL_out (by omega)]
    unfold pvt
    simp only [mxL_out (show c ≤ b by omega)]
    split
    · grind
    · split <;> grind

structure RedOk (p r c : Nat) [NeZero p] (xs : List Nat) (j : Nat) (s : List Nat × List Nat) : Prop where
  els : Els p r c s.1
  red : Red r j (mxL p c s.1) s.2.length (fun i => s.2.getD i 0)
  req : REq r (mxL p c xs) (mxL p c s.1)

theorem redTo_ok {p r c : Nat} [NeZero p] {xs : List Nat} (hp : Pr p) (h : Els p r c xs) : ∀ j, j ≤ c → RedOk p r c xs j (redTo p r c xs j)
  | 0, _ => ⟨h, Red.start r _ _, REq.refl _ _⟩
  | j + 1, hj => by
    have hp0 : 0 < p := by have := hp.1; omega
    obtain ⟨h1, h2, h3⟩ := redTo_ok hp h j (by omega)
    have hk := h2.kr
    rcases fndR_spec (xs := (redTo p r c xs j).1) (c := c) (j := j) (r - (redTo p r c xs j).2.length) (redTo p r c xs j).2.length with ⟨h4, h5⟩ | ⟨h4, h5, h6⟩
    · rw [redTo_none hk (fun i a b => h5 i a (by omega))]
      exact ⟨h1, h2.none (fun i a b => by rw [mxL_in (by omega), h5 i a (by omega)]; exact fi_zero), h3⟩
    · rw [redTo]
      rw [if_pos (by omega)]
      generalize fndR (redTo p r c xs j).1 c j (r - (redTo p r c xs j).2.length) (redTo p r c xs j).2.length = i at h4 h5 h6 ⊢
      generalize redTo p r c xs j = s at *
      have hx := fi_inv hp (Nat.pos_of_ne_zero h6) (h1.ent hp0 i j)
      have hcg : ∀ a, a < r → ∀ b, pvt s.2.length i j (fi p (invN p (ent c s.1 i j))) (mxL p c s.1) a b = mxL p c (tab2 r c (pvN p s.2.length i j (ent c s.1))) a b := fun a ha b => (fi_pvN h1 hp (by omega) a b ha).symm
      refine ⟨⟨tab2_len _ _ _, tab2_lt (fun a b _ _ => pvN_lt hp0 a b)⟩, ?_, ?_⟩
      · have := h2.some h4 (by omega) (x := fi p (invN p (ent c s.1 i j))) (by rw [mxL_in (by omega)]; exact hx)
        have := (this.congr (fun a ha b _ => hcg a ha b)).pvc (pv' := fun t => (s.2 ++ [j]).getD t 0) (fun t ht => by
          rw [getD_app]
          by_cases e : t = s.2.length
          · subst e; simp
          · rw [if_neg e, if_pos (by omega)])
        simpa using this
      · exact (h3.trans (REq.pvt (by omega) (by omega) (y := mxL p c s.1 i j) (by rw [mxL_in (by omega)]; grind) _)).congr hcg

/-- The echelon form, the pivot columns. -/
def echM (m : NM) : NM := ⟨m.p, m.r, m.c, (redTo m.p m.r m.c m.e m.c).1⟩
def pivM (m : NM) : List Nat := (redTo m.p m.r m.c m.e m.c).2

end Go.Proofs.Ytdoogoglfbohaaa
