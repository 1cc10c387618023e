/- Matrices over the numbers modulo p: reduced forms are unique; ranks. -/
import Derived.Test.YtdoogoglfbohaaaFldV
namespace Go.Proofs.Ytdoogoglfbohaaa
open Go Go.RowKit
set_option linter.unusedSimpArgs false
set_option linter.unusedVariables false
set_option linter.unusedSectionVars false

section
variable {p : Nat} [NeZero p]

abbrev Mx (p : Nat) := Nat → Nat → Fin p

def sm : Nat → (Nat → Fin p) → Fin p
  | 0, _ => 0
  | n + 1, f => sm n f + f n

theorem sm_congr : ∀ {n : Nat} {f g : Nat → Fin p}, (∀ i, i < n → f i = g i) → sm n f = sm n g
  | 0, _, _, _ => rfl
  | n + 1, f, g, h => by rw [sm, sm, sm_congr (fun i hi => h i (by omega)), h n (by omega)]
theorem sm_zero : ∀ {n : Nat} {f : Nat → Fin p}, (∀ i, i < n → f i = 0) → sm n f = 0
  | 0, _, _ => rfl
  | n + 1, f, h => by rw [sm, sm_zero (fun i hi => h i (by omega)), h n (by omega)]; grind
theorem sm_add : ∀ {n : Nat} {f g : Nat → Fin p}, sm n (fun i => f i + g i) = sm n f + sm n g
  | 0, _, _ => by simp only [sm]; grind
  | n + 1, f, g => by simp only [sm]; rw [sm_add]; grind
theorem sm_mull : ∀ {n : Nat} {f : Nat → Fin p} (x : Fin p), sm n (fun i => x * f i) = x * sm n f
  | 0, _, x => by simp only [sm]; grind
  | n + 1, f, x => by simp only [sm]; rw [sm_mull]; grind
theorem sm_mulr : ∀ {n : Nat} {f : Nat → Fin p} (x : Fin p), sm n (fun i => f i * x) = sm n f * x
  | 0, _, x => by simp only [sm]; grind
  | n + 1, f, x => by simp only [sm]; rw [sm_mulr]; grind
theorem sm_swap : ∀ {n m : Nat} {f : Nat → Nat → Fin p}, sm n (fun i => sm m (fun j => f i j)) = sm m (fun j => sm n (fun i => f i j))
  | 0, m, f => by simp only [sm]; rw [sm_zero]; intro i _; rfl
  | n + 1, m, f => by simp only [sm]; rw [sm_swap, sm_add]
/-- Only one summand is other than 0. -/
theorem sm_one : ∀ {n k : Nat} {f : Nat → Fin p}, k < n → (∀ i, i < n → i ≠ k → f i = 0) → sm n f = f k
  | 0, k, _, h, _ => by omega
  | n + 1, k, f, h, h' => by
    rw [sm]
    by_cases hk : k = n
    · subst hk; rw [sm_zero (fun i hi => h' i (by omega) (by omega))]; grind
    · rw [sm_one (k := k) (by omega) (fun i hi hne => h' i (by omega) hne), h' n (by omega) (by omega)]; grind
/-- The summands from k on are 0. -/
theorem sm_cut : ∀ {n k : Nat} {f : Nat → Fin p}, k ≤ n → (∀ i, k ≤ i → i < n → f i = 0) → sm n f = sm k f
  | 0, k, f, h, _ => by obtain rfl : k = 0 := by omega
                        rfl
  | n + 1, k, f, h, h' => by
    by_cases hk : k = n + 1
    · subst hk; rfl
    · rw [sm, sm_cut (k := k) (by omega) (fun i a b => h' i a (by omega)), h' n (by omega) (by omega)]; grind
theorem sm_ne {n : Nat} {f : Nat → Fin p} (h : sm n f ≠ 0) : ∃ i, i < n ∧ f i ≠ 0 := by
  refine Classical.byContradiction fun hn => h (sm_zero fun i hi => ?_)
  refine Classical.byContradiction fun h' => hn ⟨i, hi, h'⟩

/-- A product. -/
def mm (n : Nat) (A B : Mx p) : Mx p := fun i j => sm n fun k => A i k * B k j
theorem mm_assoc {n m : Nat} {A B C : Mx p} {i j : Nat} : mm n (mm m A B) C i j = mm m A (mm n B C) i j := by
  unfold mm
  have h1 : ∀ k, sm m (fun t => A i t * B t k) * C k j = sm m (fun t => A i t * (B t k * C k j)) := fun k => by
    rw [← sm_mulr]; exact sm_congr fun t _ => by grind
  have h2 : ∀ t, A i t * sm n (fun k => B t k * C k j) = sm n (fun k => A i t * (B t k * C k j)) := fun t => by
    rw [← sm_mull]
  rw [sm_congr (fun k _ => h1 k), sm_congr (fun t _ => h2 t), sm_swap]
theorem mm_congr {n : Nat} {A A' B B' : Mx p} {i j : Nat} (h : ∀ k, k < n → A i k = A' i k) (h' : ∀ k, k < n → B k j = B' k j) : mm n A B i j = mm n A' B' i j :=
  sm_congr fun k hk => by rw [h k hk, h' k hk]

/-- Each is a product of the other one with something from the left (r rows; any columns). -/
def REq (r : Nat) (A B : Mx p) : Prop := ∃ U V : Mx p, (∀ i, i < r → ∀ j, B i j = mm r U A i j) ∧ (∀ i, i < r → ∀ j, A i j = mm r V B i j)

def idM : Mx p := fun i j => if i = j then 1 else 0
theorem mm_id {r : Nat} {A : Mx p} {i j : Nat} (hi : i < r) : mm r idM A i j = A i j := by
  unfold mm idM
  rw [sm_one hi (fun k _ hk => by rw [if_neg (fun e => hk e.symm)]; grind)]
  rw [if_pos rfl]; grind
theorem mm_idr {r : Nat} {A : Mx p} {i j : Nat} (hj : j < r) : mm r A idM i j = A i j := by
  unfold mm idM
  rw [sm_one hj (fun k _ hk => by rw [if_neg hk]; grind)]
  rw [if_pos rfl]; grind
theorem REq.refl (r : Nat) (A : Mx p) : REq r A A := ⟨idM, idM, fun _ hi _ => (mm_id hi).symm, fun _ hi _ => (mm_id hi).symm⟩
theorem REq.symm {r : Nat} {A B : Mx p} (h : REq r A B) : REq r B A := by obtain ⟨U, V, h1, h2⟩ := h; exact ⟨V, U, h2, h1⟩
theorem REq.trans {r : Nat} {A B C : Mx p} (h : REq r A B) (h' : REq r B C) : REq r A C := by
  obtain ⟨U, V, h1, h2⟩ := h
  obtain ⟨U', V', h3, h4⟩ := h'
  refine ⟨mm r U' U, mm r V V', fun i hi j => ?_, fun i hi j => ?_⟩
  · rw [h3 i hi, mm_assoc]; exact mm_congr (fun _ _ => rfl) (fun k hk => h1 k hk j)
  · rw [h2 i hi, mm_assoc]; exact mm_congr (fun _ _ => rfl) (fun k hk => h4 k hk j)
theorem REq.congr {r : Nat} {A B B' : Mx p} (h : REq r A B) (hb : ∀ i, i < r → ∀ j, B i j = B' i j) : REq r A B' := by
  obtain ⟨U, V, h1, h2⟩ := h
  exact ⟨U, V, fun i hi j => by rw [← hb i hi]; exact h1 i hi j, fun i hi j => by rw [h2 i hi]; exact mm_congr (fun _ _ => rfl) (fun k hk => hb k hk j)⟩
/-- The same for other columns. -/
theorem REq.cols {r : Nat} {A B : Mx p} (h : REq r A B) (φ : Nat → Nat) : REq r (fun i j => A i (φ j)) (fun i j => B i (φ j)) := by
  obtain ⟨U, V, h1, h2⟩ := h
  exact ⟨U, V, fun i hi j => h1 i hi (φ j), fun i hi j => h2 i hi (φ j)⟩

/-- A reduced form, with k pivot columns. -/
structure Red (r c : Nat) (e : Mx p) (k : Nat) (pv : Nat → Nat) : Prop where
  kr : k ≤ r
  inc : ∀ i i', i < i' → i' < k → pv i < pv i'
  lt : ∀ i, i < k → pv i < c
  one : ∀ i, i < k → e i (pv i) = 1
  col : ∀ i i', i < k → i' < r → i' ≠ i → e i' (pv i) = 0
  left : ∀ i j, i < k → j < pv i → e i j = 0
  rest : ∀ i j, k ≤ i → i < r → j < c → e i j = 0

variable {r c k k' : Nat} {e e' : Mx p} {pv pv' : Nat → Nat}

theorem one_ne (hp : 1 < p) : (1 : Fin p) ≠ 0 := by
  intro h
  have h1 : (1 : Fin p).val = 1 % p := rfl
  have h0 : (0 : Fin p).val = 0 % p := rfl
  have := congrArg Fin.val h
  rw [h1, h0, Nat.mod_eq_of_lt hp, Nat.zero_mod] at this
  omega

theorem Red.sel (h : Red r c e k pv) {U : Mx p} {i t : Nat} (ht : t < k) : mm r U e i (pv t) = U i t := by
  unfold mm
  rw [sm_one (k := t) (Nat.lt_of_lt_of_le ht h.kr) (fun s hs hne => by rw [h.col t s ht hs hne]; grind), h.one t ht]; grind
theorem Red.cut (h : Red r c e k pv) {U : Mx p} {i j : Nat} (hj : j < c) : mm r U e i j = sm k fun t => U i t * e t j := by
  unfold mm
  exact sm_cut h.kr fun t h1 h2 => by rw [h.rest t j h1 h2 hj]; grind

theorem Red.sub (hp : 1 < p) (h : Red r c e k pv) (h' : Red r c e' k' pv') {U : Mx p} (hU : ∀ i, i < r → ∀ j, e i j = mm r U e' i j) {i : Nat} (hi : i < k) : ∃ t, t < k' ∧ pv i = pv' t := by
  have hir := Nat.lt_of_lt_of_le hi h.kr
  have h1 := hU i hir (pv i)
  rw [h.one i hi, h'.cut (h.lt i hi)] at h1
  have h2 : sm k' (fun t => U i t * e' t (pv i)) ≠ 0 := by rw [← h1]; exact one_ne hp
  obtain ⟨t, ht, hne⟩ := sm_ne h2
  have h3 : U i t = e i (pv' t) := by rw [hU i hir, h'.sel ht]
  rw [h3] at hne
  refine ⟨t, ht, ?_⟩
  rcases Nat.lt_trichotomy (pv i) (pv' t) with h4 | h4 | h4
  · rw [h'.left t _ ht h4] at hne; exact absurd (by grind) hne
  · exact h4
  · rw [h.left i _ hi h4] at hne; exact absurd (by grind) hne

theorem inc_le {k k' : Nat} {pv pv' : Nat → Nat} (hi : ∀ i i', i < i' → i' < k → pv i < pv i') (hi' : ∀ i i', i < i' → i' < k' → pv' i < pv' i')
    (h : ∀ i, i < k → ∃ t, t < k' ∧ pv i = pv' t) : k ≤ k' ∧ ∀ i, i < k → pv' i ≤ pv i := by
  have key : ∀ i, i < k → ∃ t, i ≤ t ∧ t < k' ∧ pv i = pv' t := by
    intro i
    induction i with
    | zero => intro hk; obtain ⟨t, h1, h2⟩ := h 0 hk; exact ⟨t, by omega, h1, h2⟩
    | succ i ih =>
      intro hk
      obtain ⟨t, h1, h2, h3⟩ := ih (by omega)
      obtain ⟨t', h4, h5⟩ := h (i + 1) hk
      have h6 := hi i (i + 1) (by omega) hk
      refine ⟨t', ?_, h4, h5⟩
      rcases Nat.lt_or_ge t t' with h7 | h7
      · omega
      · rcases Nat.lt_or_ge t' t with h8 | h8
        · have := hi' t' t h8 h2; omega
        · have : t = t' := by omega
          subst this; omega
  refine ⟨?_, fun i hik => ?_⟩
  · rcases Nat.eq_zero_or_pos k with h0 | h0
    · omega
    · obtain ⟨t, h1, h2, _⟩ := key (k - 1) (by omega)
      omega
  · obtain ⟨t, h1, h2, h3⟩ := key i hik
    rw [h3]
    rcases Nat.lt_or_ge i t with h4 | h4
    · exact Nat.le_of_lt (hi' i t h4 h2)
    · have : i = t := by omega
      subst this; exact Nat.le_refl _

/-- Reduced forms are unique. -/
theorem Red.unique (hp : 1 < p) (h : Red r c e k pv) (h' : Red r c e' k' pv') (hq : REq r e e') : k = k' ∧ (∀ i, i < k → pv i = pv' i) ∧ ∀ i, i < r → ∀ j, j < c → e i j = e' i j := by
  obtain ⟨U, V, h1, h2⟩ := hq
  have a1 := inc_le h.inc h'.inc (fun i hi => h.sub hp h' h2 hi)
  have a2 := inc_le h'.inc h.inc (fun i hi => h'.sub hp h h1 hi)
  have hk : k = k' := by omega
  subst hk
  have hpv : ∀ i, i < k → pv i = pv' i := fun i hi => by have := a1.2 i hi; have := a2.2 i hi; omega
  refine ⟨rfl, hpv, fun i hi j hj => ?_⟩
  rw [h2 i hi, h'.cut hj]
  by_cases hik : i < k
  · rw [sm_one hik (fun t ht hne => ?_)]
    · have : V i i = 1 := by rw [← h'.sel (U := V) hik, ← h2 i hi, ← hpv i hik, h.one i hik]
      rw [this]; grind
    · have : V i t = 0 := by rw [← h'.sel (U := V) ht, ← h2 i hi, ← hpv t ht, h.col t i ht hi (fun e => hne e.symm)]
      rw [this]; grind
  · rw [h'.rest i j (by omega) hi hj]
    refine sm_zero fun t ht => ?_
    have : V i t = 0 := by rw [← h'.sel (U := V) ht, ← h2 i hi, h.rest i _ (by omega) hi (h'.lt t ht)]
    rw [this]; grind

/-! ## Making the reduced form -/

def swp (a b : Nat) (A : Mx p) : Mx p := fun i j => if i = a then A b j else if i = b then A a j else A i j
def scl (a : Nat) (x : Fin p) (A : Mx p) : Mx p := fun i j => if i = a then x * A a j else A i j
def elm (a : Nat) (y : Nat → Fin p) (A : Mx p) : Mx p := fun i j => if i = a then A a j else A i j + y i * A a j

theorem REq.of {r : Nat} {A B : Mx p} (U V : Mx p) (h1 : ∀ i, i < r → ∀ j, B i j = mm r U A i j) (h2 : ∀ i, i < r → ∀ j, A i j = mm r V B i j) : REq r A B := ⟨U, V, h1, h2⟩

theorem swp_mm {r a b : Nat} (ha : a < r) (hb : b < r) (A : Mx p) (i : Nat) (hi : i < r) (j : Nat) : swp a b A i j = mm r (swp a b idM) A i j := by
  unfold swp
  by_cases h1 : i = a
  · subst h1; rw [if_pos rfl]; unfold mm; simp only [if_true]; exact (mm_id (A := A) (j := j) hb).symm
  · by_cases h2 : i = b
    · subst h2; rw [if_neg h1, if_pos rfl]; unfold mm; simp only [if_neg h1, if_true]; exact (mm_id (A := A) (j := j) ha).symm
    · rw [if_neg h1, if_neg h2]; unfold mm; simp only [if_neg h1, if_neg h2]; exact (mm_id (A := A) (j := j) hi).symm
omit [NeZero p] in
theorem swp_swp {a b : Nat} (A : Mx p) : swp a b (swp a b A) = A := by
  funext i j
  unfold swp
  by_cases h1 : i = a
  · subst h1
    by_cases h2 : b = i
    · subst h2; simp
    · simp [h2]
  · by_cases h2 : i = b
    · subst h2; simp [h1]
    · simp [h1, h2]
theorem REq.swp {r a b : Nat} (ha : a < r) (hb : b < r) (A : Mx p) : REq r A (swp a b A) :=
  .of _ _ (fun i hi j => swp_mm ha hb A i hi j) (fun i hi j => by
    have := swp_mm ha hb (Go.Proofs.Ytdoogoglfbohaaa.swp a b A) i hi j
    rwa [swp_swp] at this)

theorem scl_mm {r a : Nat} (x : Fin p) (A : Mx p) (i : Nat) (hi : i < r) (j : Nat) : scl a x A i j = mm r (scl a x idM) A i j := by
  unfold scl
  by_cases h1 : i = a
  · subst h1; rw [if_pos rfl]; unfold mm; simp only [if_true]
    have h : ∀ k, x * idM i k * A k j = x * (idM i k * A k j) := fun k => by grind
    rw [sm_congr (fun k _ => h k), sm_mull]
    congr 1
    exact (mm_id (A := A) (j := j) hi).symm
  · rw [if_neg h1]; unfold mm; simp only [if_neg h1]; exact (mm_id (A := A) (j := j) hi).symm
theorem scl_scl {a : Nat} {x y : Fin p} (h : y * x = 1) (A : Mx p) : scl a y (scl a x A) = A := by
  funext i j
  unfold scl
  by_cases h1 : i = a
  · subst h1; simp only [if_true]; grind
  · simp [h1]
theorem REq.scl {r a : Nat} {x y : Fin p} (h : y * x = 1) (A : Mx p) : REq r A (scl a x A) :=
  .of _ _ (fun i hi j => scl_mm x A i hi j) (fun i hi j => by
    have := scl_mm (r := r) (a := a) y (Go.Proofs.Ytdoogoglfbohaaa.scl a x A) i hi j
    rwa [scl_scl h] at this)

theorem elm_mm {r a : Nat} (ha : a < r) (y : Nat → Fin p) (A : Mx p) (i : Nat) (hi : i < r) (j : Nat) : elm a y A i j = mm r (elm a y idM) A i j := by
  unfold elm
  by_cases h1 : i = a
  · subst h1; rw [if_pos rfl]; unfold mm; simp only [if_true]; exact (mm_id (A := A) (j := j) hi).symm
  · rw [if_neg h1]; unfold mm; simp only [if_neg h1]
    have h : ∀ k, (idM i k + y i * idM a k) * A k j = idM i k * A k j + y i * (idM a k * A k j) := fun k => by grind
    rw [sm_congr (fun k _ => h k), sm_add, sm_mull]
    have h2 : sm r (fun k => idM i k * A k j) = A i j := mm_id hi
    have h3 : sm r (fun k => idM a k * A k j) = A a j := mm_id ha
    rw [h2, h3]
theorem elm_elm {a : Nat} (y : Nat → Fin p) (A : Mx p) : elm a (fun i => -y i) (elm a y A) = A := by
  funext i j
  unfold elm
  by_cases h1 : i = a
  · subst h1; simp
  · simp only [if_neg h1, if_true]; grind
theorem REq.elm {r a : Nat} (ha : a < r) (y : Nat → Fin p) (A : Mx p) : REq r A (elm a y A) :=
  .of _ _ (fun i hi j => elm_mm ha y A i hi j) (fun i hi j => by
    have := elm_mm ha (fun i => -y i) (Go.Proofs.Ytdoogoglfbohaaa.elm a y A) i hi j
    rwa [elm_elm] at this)

/-- One column, without a pivot. -/
theorem Red.none (h : Red r c e k pv) (h0 : ∀ i, k ≤ i → i < r → e i c = 0) : Red r (c + 1) e k pv :=
  ⟨h.kr, h.inc, fun i hi => by have := h.lt i hi; omega, h.one, h.col, h.left, fun i j h1 h2 h3 => by
    by_cases hj : j = c
    · subst hj; exact h0 i h1 h2
    · exact h.rest i j h1 h2 (by omega)⟩

/-- The new matrix, if there is a pivot in row i, column c. -/
def pvt (k i c : Nat) (x : Fin p) (A : Mx p) : Mx p := fun a b =>
  if a = k then x * A i b else (if a = i then A k b else A a b) - (if a = i then A k c else A a c) * (x * A i b)

theorem pvt_eq {k i c : Nat} {x : Fin p} {A : Mx p} : pvt k i c x A = elm k (fun a => - (if a = i then A k c else A a c)) (scl k x (swp k i A)) := by
  funext a b
  unfold pvt elm scl swp
  by_cases h1 : a = k
  · subst h1; simp
  · simp only [if_neg h1, if_true]
    grind

theorem REq.pvt {r k i c : Nat} {x y : Fin p} (hk : k < r) (hi : i < r) (h : y * x = 1) (A : Mx p) : REq r A (pvt k i c x A) := by
  rw [pvt_eq]
  exact ((REq.swp hk hi A).trans (REq.scl h _)).trans (REq.elm hk _ _)

theorem Red.some (h : Red r c e k pv) {i : Nat} (hi : k ≤ i) (hir : i < r) {x : Fin p} (hx : x * e i c = 1) : Red r (c + 1) (pvt k i c x e) (k + 1) (fun t => if t = k then c else pv t) := by
  have hz : ∀ t j, k ≤ t → t < r → j < c → e t j = 0 := h.rest
  have hkr : k < r := by omega
  have hold : ∀ a b, a < r → b < c → a < k → pvt k i c x e a b = e a b := fun a b ha hb hak => by
    unfold pvt
    rw [if_neg (by omega), if_neg (by omega), if_neg (by omega), hz i b hi hir hb]; grind
  have hnew : ∀ a b, a < r → b < c → k ≤ a → pvt k i c x e a b = 0 := fun a b ha hb hak => by
    unfold pvt
    split
    · rw [hz i b hi hir hb]; grind
    · rw [hz i b hi hir hb]
      split
      · rw [hz k b (by omega) hkr hb]; grind
      · rw [hz a b hak ha hb]; grind
  have hk1 : pvt k i c x e k c = 1 := by unfold pvt; rw [if_pos rfl]; exact hx
  have hk0 : ∀ a, a ≠ k → pvt k i c x e a c = 0 := fun a ha => by unfold pvt; rw [if_neg ha, hx]; grind
  refine ⟨by omega, fun a b hab hb => ?_, fun a ha => ?_, fun a ha => ?_, fun a b ha hb hne => ?_, fun a b ha hb => ?_, fun a b ha har hb => ?_⟩
  · by_cases h1 : b = k
    · subst h1; rw [if_neg (by omega), if_pos rfl]; exact h.lt a hab
    · rw [if_neg (by omega), if_neg h1]; exact h.inc a b hab (by omega)
  · by_cases h1 : a = k
    · rw [if_pos h1]; omega
    · rw [if_neg h1]; have := h.lt a (by omega); omega
  · by_cases h1 : a = k
    · subst h1; rw [if_pos rfl]; exact hk1
    · rw [if_neg h1, hold a _ (by omega) (h.lt a (by omega)) (by omega)]; exact h.one a (by omega)
  · by_cases h1 : a = k
    · subst h1; rw [if_pos rfl]; exact hk0 b hne
    · rw [if_neg h1]
      have hlt := h.lt a (by omega)
      by_cases h2 : b < k
      · rw [hold b _ hb hlt h2]; exact h.col a b (by omega) hb hne
      · exact hnew b _ hb hlt (by omega)
  · by_cases h1 : a = k
    · subst h1; rw [if_pos rfl] at hb; exact hnew a b hkr hb (Nat.le_refl _)
    · rw [if_neg h1] at hb
      have hlt := h.lt a (by omega)
      rw [hold a b (by omega) (by omega) (by omega)]; exact h.left a b (by omega) hb
  · by_cases h1 : b = c
    · subst h1; exact hk0 a (by omega)
    · exact hnew a b har (by omega) (by omega)

theorem Red.start (r : Nat) (e : Mx p) (pv : Nat → Nat) : Red r 0 e 0 pv := ⟨by omega, fun _ _ _ h => by omega, fun _ h => by omega, fun _ h => by omega, fun _ _ h => by omega, fun _ _ h => by omega, fun _ _ _ _ h => by omega⟩

/-- Numbers other than 0 have inverses. -/
def Inv (p : Nat) [NeZero p] : Prop := ∀ x : Fin p, x ≠ 0 → ∃ y : Fin p, y * x = 1

theorem Red.exists (hI : Inv p) (A : Mx p) (r : Nat) : ∀ c, ∃ e k pv, Red r c e k pv ∧ REq r A e
  | 0 => ⟨A, 0, fun _ => 0, Red.start r A _, REq.refl r A⟩
  | c + 1 => by
    obtain ⟨e, k, pv, h, hq⟩ := Red.exists hI A r c
    by_cases h0 : ∀ i, k ≤ i → i < r → e i c = 0
    · exact ⟨e, k, pv, h.none h0, hq⟩
    · simp only [Classical.not_forall] at h0
      obtain ⟨i, h1, h2, h3⟩ := h0
      obtain ⟨x, hx⟩ := hI _ h3
      exact ⟨_, _, _, h.some h1 h2 hx, hq.trans (REq.pvt (by omega) h2 (y := e i c) (by grind) e)⟩

/-! ## Kernels, ranks -/

theorem Red.kc (h : Red r c e k pv) : k ≤ c := by
  have := inc_le (k' := c) (pv' := fun t => t) h.inc (fun _ _ a _ => a) (fun i hi => ⟨pv i, h.lt i hi, rfl⟩)
  exact this.1

/-- More columns than pivots: one column is free. -/
theorem Red.free (h : Red r c e k pv) (hk : k < c) : ∃ j, j < c ∧ ∀ i, i < k → pv i ≠ j := by
  refine Classical.byContradiction fun hn => ?_
  have h1 : ∀ j, j < c → ∃ i, i < k ∧ j = pv i := fun j hj => by
    refine Classical.byContradiction fun h' => hn ⟨j, hj, fun i hi he => h' ⟨i, hi, he.symm⟩⟩
  have := (inc_le (k := c) (pv := fun t => t) (fun _ _ a _ => a) h.inc h1).1
  omega

/-- The solution that belongs to a free column. -/
def ker (e : Mx p) (k : Nat) (pv : Nat → Nat) (j : Nat) : Nat → Fin p := fun t => if t = j then 1 else sm k fun i => if pv i = t then - e i j else 0

theorem ker_pv (h : Red r c e k pv) {i j : Nat} (hi : i < k) (hj : ∀ i, i < k → pv i ≠ j) : ker e k pv j (pv i) = - e i j := by
  unfold ker
  rw [if_neg (hj i hi), sm_one hi (fun t ht hne => ?_), if_pos rfl]
  rw [if_neg]
  intro he
  rcases Nat.lt_trichotomy t i with h1 | h1 | h1
  · have := h.inc t i h1 hi; omega
  · exact hne h1
  · have := h.inc i t h1 ht; omega
theorem ker_else {j t : Nat} (ht : t ≠ j) (h : ∀ i, i < k → pv i ≠ t) : ker e k pv j t = 0 := by
  unfold ker
  rw [if_neg ht]
  exact sm_zero fun i hi => if_neg (h i hi)
theorem ker_j {j : Nat} : ker e k pv j j = 1 := by unfold ker; rw [if_pos rfl]

theorem Red.dotker (h : Red r c e k pv) {i j : Nat} (hir : i < r) (hj : j < c) (hf : ∀ i, i < k → pv i ≠ j) (z : Nat → Fin p) (hz1 : z j = 1) (hzp : ∀ i, i < k → z (pv i) = - e i j) (hz0 : ∀ t, t < c → t ≠ j → (∀ i, i < k → pv i ≠ t) → z t = 0) :
    sm c (fun t => e i t * z t) = 0 := by
  by_cases hi : i < k
  · have h1 : ∀ t, t < c → e i t * z t = (if t = j then e i j else 0) + (if t = pv i then - e i j else 0) := fun t ht => by
      by_cases a : t = j
      · subst a; rw [if_pos rfl, if_neg (fun e => hf i hi e.symm), hz1]; grind
      · by_cases b : t = pv i
        · subst b; rw [if_neg a, if_pos rfl, h.one i hi, hzp i hi]; grind
        · rw [if_neg a, if_neg b]
          by_cases d : ∃ s, s < k ∧ pv s = t
          · obtain ⟨s, hs, rfl⟩ := d
            rw [h.col s i hs hir (fun e => b (by rw [e]))]; grind
          · rw [hz0 t ht a (fun s hs he => d ⟨s, hs, he⟩)]; grind
    rw [sm_congr h1, sm_add, sm_one hj (fun t _ hne => if_neg hne), sm_one (h.lt i hi) (fun t _ hne => if_neg hne), if_pos rfl, if_pos rfl]
    grind
  · exact sm_zero fun t ht => by rw [h.rest i t (by omega) hir ht]; grind

/-- More unknowns than equations: there is a solution other than 0. -/
theorem exists_ker (hp : 1 < p) (hI : Inv p) (W : Mx p) {r c : Nat} (h : r < c) : ∃ z : Nat → Fin p, (∃ j, j < c ∧ z j ≠ 0) ∧ ∀ i, i < r → sm c (fun t => W i t * z t) = 0 := by
  obtain ⟨e, k, pv, hr, U, V, h1, h2⟩ := Red.exists hI W r c
  obtain ⟨j, hj, hf⟩ := hr.free (by have := hr.kr; omega)
  refine ⟨ker e k pv j, ⟨j, hj, by rw [ker_j]; exact one_ne hp⟩, fun i hi => ?_⟩
  have h3 : ∀ t, W i t * ker e k pv j t = sm r (fun s => V i s * (e s t * ker e k pv j t)) := fun t => by
    rw [h2 i hi t]; unfold mm; rw [← sm_mulr]; exact sm_congr fun s _ => by grind
  rw [sm_congr (fun t _ => h3 t), sm_swap]
  refine sm_zero fun s hs => ?_
  rw [sm_mull, hr.dotker hs hj hf _ ker_j (fun i hi => ker_pv hr hi hf) (fun t _ ht h => ker_else ht h)]; grind

/-- Pivots, if the rows are combinations of k' rows: no more than k'. -/
theorem Red.rank_le (hp : 1 < p) (hI : Inv p) (h : Red r c e k pv) {k' : Nat} (W Y : Mx p) (hW : ∀ i, i < k → ∀ j, j < c → e i j = sm k' fun t => W i t * Y t j) : k ≤ k' := by
  refine Classical.byContradiction fun hn => ?_
  obtain ⟨z, ⟨j, hj, hz⟩, hz0⟩ := exists_ker hp hI (fun t i => W i t) (r := k') (c := k) (by omega)
  apply hz
  have h1 : sm k (fun i => z i * e i (pv j)) = 0 := by
    have h2 : ∀ i, i < k → z i * e i (pv j) = sm k' (fun t => (W i t * z i) * Y t (pv j)) := fun i hi => by
      rw [hW i hi _ (h.lt j hj), ← sm_mull]; exact sm_congr fun t _ => by grind
    rw [sm_congr h2, sm_swap]
    refine sm_zero fun t ht => ?_
    rw [sm_mulr, hz0 t ht]; grind
  rw [sm_one hj (fun i hi hne => by rw [h.col j i hj (Nat.lt_of_lt_of_le hi h.kr) hne]; grind), h.one j hj] at h1
  grind

end
end Go.Proofs.Ytdoogoglfbohaaa
