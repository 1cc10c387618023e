import Derived.Test.YtbofgpenopcfaaaGreatDoorMi
import Derived.Test.YtbofgpenopcfaaaGreatDoorMh
import Derived.Test.YtbofgpenopcfaaaGreatDoorMc
namespace Go.Proofs.YtbofgpenopcfaaaGreatDoor
open Go Go.RowKit
set_option linter.unusedSimpArgs false
set_option linter.unusedVariables false
set_option linter.unusedSectionVars false


def aT (k : Int) : Tn := ⟨1, k, 0, 1⟩
def lsAt (S : Sm) (i : Nat) (st : Nat × Nat × Bool) (j : Nat) : Nat × Nat × Bool :=
 if gE S.d i j ≠ 0 ∧ (st.2.2 = false ∨ (gE S.d i j).natAbs < (gE S.d st.1 st.2.1).natAbs) then (i, j, true) else st
def lsRow (S : Sm) (t n : Nat) (st : Nat × Nat × Bool) (i : Nat) : Nat × Nat × Bool := (List.range' t (n - t)).foldl (lsAt S i) st
def leastF (S : Sm) (t m n : Nat) : Nat × Nat × Bool := (List.range' t (m - t)).foldl (lsRow S t n) (0, 0, false)

def exL (i k : Nat) (g : List (List Int)) : List (List Int) := (g.set i (g.getD k [])).set k (g.getD i [])
def exK (i k : Nat) (g : List (List Int)) : List (List Int) := g.map fun r => (r.set i (r.getD k 0)).set k (r.getD i 0)
def exN (i k a : Nat) : Nat := if a = k then i else if a = i then k else a
theorem Wt {i k a r : Nat} (hi : i < r) (hk : k < r) (ha : a < r) : exN i k a < r := by
 unfold exN
 split
 ·exact hi
 ·split
  ·exact hk
  ·exact ha
theorem Rec.exL {r c i k : Nat} {g : List (List Int)} (h : Rec r c g) (hi : i < r) (hk : k < r) : Rec r c (exL i k g) := (h.set (h.at hk)).set (h.at hi)
theorem Rec.exK {r c i k : Nat} {g : List (List Int)} (h : Rec r c g) : Rec r c (exK i k g) :=
 ⟨by unfold Go.Proofs.YtbofgpenopcfaaaGreatDoor.exK; rw [List.length_map, h.len], fun x hx => by
  unfold Go.Proofs.YtbofgpenopcfaaaGreatDoor.exK at hx
  obtain ⟨y, hy, rfl⟩ := List.mem_map.1 hx
  rw [List.length_set, List.length_set]; exact h.row y hy⟩
theorem Q20 {r c i k a b : Nat} {g : List (List Int)} (h : Rec r c g) (hi : i < r) (hk : k < r) : gE (exL i k g) a b = gE g (exN i k a) b := by
 have hl := h.len
 unfold gE exL exN
 rw [Y9 (by rw [List.length_set]; omega)]
 by_cases e1 : a = k
 ·rw [if_pos e1, if_pos e1]
 ·rw [if_neg e1, if_neg e1, Y9 oq]
  by_cases e2 : a = i
  ·rw [if_pos e2, if_pos e2]
  ·rw [if_neg e2, if_neg e2]
theorem Q0g {r c i k a b : Nat} {g : List (List Int)} (h : Rec r c g) (hi : i < c) (hk : k < c) (ha : a < r) : gE (exK i k g) a b = gE g a (exN i k b) := by
 have h1 := h.at ha
 have hl := h.len
 have e : (exK i k g).getD a [] = ((g.getD a []).set i ((g.getD a []).getD k 0)).set k ((g.getD a []).getD i 0) := by
  unfold exK
  rw [List.getD, List.getElem?_map, List.getD, List.getElem?_eq_getElem (show a < g.length by omega)]
  rfl
 unfold gE exN
 rw [e, Y9 (by rw [List.length_set]; omega)]
 by_cases e1 : b = k
 ·rw [if_pos e1, if_pos e1]
 ·rw [if_neg e1, if_neg e1, Y9 oq]
  by_cases e2 : b = i
  ·rw [if_pos e2, if_pos e2]
  ·rw [if_neg e2, if_neg e2]
def Sm.ex (r c t : Nat) (S : Sm) : Sm := ⟨exL r t S.u, exK r t S.ui, exK c t (exL r t S.d), exK c t S.v, exL c t S.vi⟩
theorem Dm.ex {m n r c t : Nat} {S : Sm} (h : Dm m n S) (hr : r < m) (hc : c < n) (htm : t < m) (htn : t < n) : Dm m n (S.ex r c t) :=
 ⟨h.u.exL hr htm, h.ui.exK, (h.d.exL hr htm).exK, h.v.exK, h.vi.exL hc htn⟩

def fsR (S : Sm) (t m : Nat) : Option Nat := (List.range' (t + 1) (m - (t + 1))).find? fun i => decide (gE S.d i t ≠ 0)
def fsC (S : Sm) (t n : Nat) : Option Nat := (List.range' (t + 1) (n - (t + 1))).find? fun k => decide (gE S.d t k ≠ 0)
def stpB (m n t : Nat) (S : Sm) : Option (Sm × Nat) :=
 if (leastF S t m n).2.2 = false then none
 else if (leastF S t m n).1 ≠ t ∨ (leastF S t m n).2.1 ≠ t then some (S.ex (leastF S t m n).1 (leastF S t m n).2.1 t, t)
 else match fsR S t m with
 | some i => some (S.rows i t (aT (-(gE S.d i t / gE S.d t t))), t)
 | none => match fsC S t n with
  | some k => some (S.cols k t (aT (-(gE S.d t k / gE S.d t t))), t)
  | none => match spoiledF S t m n with
   | some i => some (S.rows t i (aT 1), t)
   | none => some (if gE S.d t t < 0 then S.neg t else S, t + 1)
def runB (m n : Nat) : Nat → Nat → Sm → Sm × Nat × Nat
 | 0, t, S => (S, t, 0)
 | k + 1, t, S => match stpB m n t S with
  | none => (S, t, 0)
  | some r => ((runB m n k r.2 r.1).1, (runB m n k r.2 r.1).2.1, (runB m n k r.2 r.1).2.2 + 1)


theorem Qdo {S : Sm} {R V : Nat → Nat → Prop} {i j : Nat} {st : Nat × Nat × Bool} (hr : R i j) (h1 : st.2.2 = true → R st.1 st.2.1 ∧ gE S.d st.1 st.2.1 ≠ 0)
  (h2 : ∀ a b, V a b → gE S.d a b ≠ 0 → st.2.2 = true ∧ (gE S.d st.1 st.2.1).natAbs ≤ (gE S.d a b).natAbs) :
  ((lsAt S i st j).2.2 = true → R (lsAt S i st j).1 (lsAt S i st j).2.1 ∧ gE S.d (lsAt S i st j).1 (lsAt S i st j).2.1 ≠ 0) ∧
  ∀ a b, (V a b ∨ (a = i ∧ b = j)) → gE S.d a b ≠ 0 → (lsAt S i st j).2.2 = true ∧ (gE S.d (lsAt S i st j).1 (lsAt S i st j).2.1).natAbs ≤ (gE S.d a b).natAbs := by
 unfold lsAt
 by_cases h : gE S.d i j ≠ 0 ∧ (st.2.2 = false ∨ (gE S.d i j).natAbs < (gE S.d st.1 st.2.1).natAbs)
 ·rw [if_pos h]
  refine ⟨fun _ => ⟨hr, h.1⟩, fun a b hv h0 => ⟨rfl, ?_⟩⟩
  dsimp only
  rcases hv with hv | ⟨rfl, rfl⟩
  ·obtain ⟨e1, e2⟩ := h2 a b hv h0
   rcases h.2 with h3 | h3
   ·rw [e1] at h3; cases h3
   ·omega
  ·exact Nat.le_refl _
 ·rw [if_neg h]
  refine ⟨h1, fun a b hv h0 => ?_⟩
  rcases hv with hv | ⟨rfl, rfl⟩
  ·exact h2 a b hv h0
  ·cases hb : st.2.2 with
   | false => exact absurd ⟨h0, .inl hb⟩ h
   | true => exact ⟨rfl, Nat.le_of_not_lt fun h3 => h ⟨h0, .inr h3⟩⟩
theorem Q53 {S : Sm} {R : Nat → Nat → Prop} {i : Nat} : ∀ (l : List Nat), (∀ j ∈ l, R i j) → ∀ (V : Nat → Nat → Prop) (st : Nat × Nat × Bool), (st.2.2 = true → R st.1 st.2.1 ∧ gE S.d st.1 st.2.1 ≠ 0) →
  (∀ a b, V a b → gE S.d a b ≠ 0 → st.2.2 = true ∧ (gE S.d st.1 st.2.1).natAbs ≤ (gE S.d a b).natAbs) →
  ((l.foldl (lsAt S i) st).2.2 = true → R (l.foldl (lsAt S i) st).1 (l.foldl (lsAt S i) st).2.1 ∧ gE S.d (l.foldl (lsAt S i) st).1 (l.foldl (lsAt S i) st).2.1 ≠ 0) ∧
  ∀ a b, (V a b ∨ (a = i ∧ b ∈ l)) → gE S.d a b ≠ 0 → (l.foldl (lsAt S i) st).2.2 = true ∧ (gE S.d (l.foldl (lsAt S i) st).1 (l.foldl (lsAt S i) st).2.1).natAbs ≤ (gE S.d a b).natAbs
 | [], _, V, st, h1, h2 => ⟨h1, fun a b hv h0 => by
  rcases hv with hv | ⟨_, hv⟩
  ·exact h2 a b hv h0
  ·cases hv⟩
 | j :: l, hl, V, st, h1, h2 => by
  obtain ⟨g1, g2⟩ := Qdo (R := R) (V := V) (hl j (List.mem_cons_self ..)) h1 h2
  obtain ⟨k1, k2⟩ := Q53 l (fun x hx => hl x (List.mem_cons_of_mem _ hx)) _ (lsAt S i st j) g1 g2
  refine ⟨k1, fun a b hv h0 => k2 a b ?_ h0⟩
  rcases hv with hv | ⟨rfl, hv⟩
  ·exact .inl (.inl hv)
  ·rcases List.mem_cons.1 hv with rfl | hv
   ·exact .inl (.inr ⟨rfl, rfl⟩)
   ·exact .inr ⟨rfl, hv⟩
theorem Q1y {S : Sm} {R : Nat → Nat → Prop} {t n : Nat} : ∀ (l : List Nat), (∀ i ∈ l, ∀ j ∈ List.range' t (n - t), R i j) → ∀ (V : Nat → Nat → Prop) (st : Nat × Nat × Bool), (st.2.2 = true → R st.1 st.2.1 ∧ gE S.d st.1 st.2.1 ≠ 0) →
  (∀ a b, V a b → gE S.d a b ≠ 0 → st.2.2 = true ∧ (gE S.d st.1 st.2.1).natAbs ≤ (gE S.d a b).natAbs) →
  ((l.foldl (lsRow S t n) st).2.2 = true → R (l.foldl (lsRow S t n) st).1 (l.foldl (lsRow S t n) st).2.1 ∧ gE S.d (l.foldl (lsRow S t n) st).1 (l.foldl (lsRow S t n) st).2.1 ≠ 0) ∧
  ∀ a b, (V a b ∨ (a ∈ l ∧ b ∈ List.range' t (n - t))) → gE S.d a b ≠ 0 → (l.foldl (lsRow S t n) st).2.2 = true ∧ (gE S.d (l.foldl (lsRow S t n) st).1 (l.foldl (lsRow S t n) st).2.1).natAbs ≤ (gE S.d a b).natAbs
 | [], _, V, st, h1, h2 => ⟨h1, fun a b hv h0 => by
  rcases hv with hv | ⟨hv, _⟩
  ·exact h2 a b hv h0
  ·cases hv⟩
 | i :: l, hl, V, st, h1, h2 => by
  obtain ⟨g1, g2⟩ := Q53 (R := R) (i := i) (List.range' t (n - t)) (hl i (List.mem_cons_self ..)) V st h1 h2
  obtain ⟨k1, k2⟩ := Q1y l (fun x hx => hl x (List.mem_cons_of_mem _ hx)) _ (lsRow S t n st i) g1 g2
  refine ⟨k1, fun a b hv h0 => k2 a b ?_ h0⟩
  rcases hv with hv | ⟨hv, hb⟩
  ·exact .inl (.inl hv)
  ·rcases List.mem_cons.1 hv with rfl | hv
   ·exact .inl (.inr ⟨rfl, hb⟩)
   ·exact .inr ⟨hv, hb⟩
theorem Xj {t n a : Nat} : a ∈ List.range' t (n - t) ↔ t ≤ a ∧ a < n := by
 rw [List.mem_range'_1]; omega
theorem Xk {S : Sm} {t m n : Nat} (h : (leastF S t m n).2.2 = true) : (t ≤ (leastF S t m n).1 ∧ (leastF S t m n).1 < m ∧ t ≤ (leastF S t m n).2.1 ∧ (leastF S t m n).2.1 < n) ∧ gE S.d (leastF S t m n).1 (leastF S t m n).2.1 ≠ 0 := by
 obtain ⟨g, _⟩ := Q1y (S := S) (R := fun a b => t ≤ a ∧ a < m ∧ t ≤ b ∧ b < n) (t := t) (n := n) (List.range' t (m - t)) (fun i hi j hj => by
  have h1 := Xj.1 hi
  have h2 := Xj.1 hj
  exact ⟨h1.1, h1.2, h2.1, h2.2⟩) (fun _ _ => False) (0, 0, false) (fun h => by cases h) (fun _ _ h => h.elim)
 exact g h
theorem Q8n {S : Sm} {t m n a b : Nat} (h1 : t ≤ a) (h2 : a < m) (h3 : t ≤ b) (h4 : b < n) (h0 : gE S.d a b ≠ 0) : (leastF S t m n).2.2 = true ∧ (gE S.d (leastF S t m n).1 (leastF S t m n).2.1).natAbs ≤ (gE S.d a b).natAbs := by
 obtain ⟨_, g⟩ := Q1y (S := S) (R := fun _ _ => True) (t := t) (n := n) (List.range' t (m - t)) (fun _ _ _ _ => trivial) (fun _ _ => False) (0, 0, false) (fun h => by cases h) (fun _ _ h => h.elim)
 exact g a b (.inr ⟨Xj.2 ⟨h1, h2⟩, Xj.2 ⟨h3, h4⟩⟩) h0


theorem Q3w {S : Sm} {t m : Nat} (h : fsR S t m = none) {i : Nat} (h1 : t < i) (h2 : i < m) : gE S.d i t = 0 := by
 have := List.find?_eq_none.1 h i (Xj.2 ⟨h1, h2⟩)
 simpa using this
theorem Q3v {S : Sm} {t m i : Nat} (h : fsR S t m = some i) : t < i ∧ i < m ∧ gE S.d i t ≠ 0 := by
 have h1 := Xj.1 (List.mem_of_find?_eq_some h)
 have h2 := List.find?_some h
 exact ⟨h1.1, h1.2, by simpa using h2⟩
theorem Q3y {S : Sm} {t n : Nat} (h : fsC S t n = none) {k : Nat} (h1 : t < k) (h2 : k < n) : gE S.d t k = 0 := by
 have := List.find?_eq_none.1 h k (Xj.2 ⟨h1, h2⟩)
 simpa using this
theorem Q3x {S : Sm} {t n k : Nat} (h : fsC S t n = some k) : t < k ∧ k < n ∧ gE S.d t k ≠ 0 := by
 have h1 := Xj.1 (List.mem_of_find?_eq_some h)
 have h2 := List.find?_some h
 exact ⟨h1.1, h1.2, by simpa using h2⟩
theorem Q3h {S : Sm} {t m n i : Nat} (h : spoiledF S t m n = some i) : t < i ∧ i < m ∧ ∃ k, t < k ∧ k < n ∧ gE S.d i k ≠ 0 := by
 have h1 := Xj.1 (List.mem_of_find?_eq_some h)
 have h2 := List.find?_some h
 unfold badRow at h2
 obtain ⟨k, hk, h3⟩ := List.any_eq_true.1 h2
 have h4 := Xj.1 hk
 refine ⟨h1.1, h1.2, k, h4.1, h4.2, fun h0 => ?_⟩
 have h5 := of_decide_eq_true h3
 unfold remZ at h5
 rw [h0] at h5
 simp at h5

def Zc (m n t : Nat) (S : Sm) : Prop := ∀ i, i < t → (∀ k, k < n → k ≠ i → gE S.d i k = 0) ∧ ∀ k, k < m → k ≠ i → gE S.d k i = 0
def Fr (M m n : Nat) (S : Sm) : Prop := ∀ a b, a < m → b < n → (gE S.d a b).natAbs < 256 ^ M
def Qs (M m n t : Nat) (S : Sm) : Prop := (∀ b, b < n → (gE S.d t b).natAbs < 256 ^ M) ∧ ∀ a, a < m → a ≠ t → (∀ b, b < n → (gE S.d a b).natAbs < 256 ^ M) ∨ (t < a ∧ gE S.d a t = 0 ∧ ∀ b, b < n → (gE S.d a b).natAbs < 256 ^ (2 * M + 1))
def Calm (m n t : Nat) (S : Sm) : Prop := ((leastF S t m n).1 ≠ t ∨ (leastF S t m n).2.1 ≠ t) ∨ (fsR S t m = none ∧ fsC S t n ≠ none)
theorem Fr.q {M m n t : Nat} {S : Sm} (h : Fr M m n S) (ht : t < m) : Qs M m n t S := ⟨fun b hb => h t b ht hb, fun a ha _ => .inl fun b hb => h a b ha hb⟩
theorem Qs.fr {M m n t : Nat} {S : Sm} (h : Qs M m n t S) : Fr (2 * M + 2) m n S := fun a b ha hb => by
 by_cases e : a = t
 ·subst e; exact QI (h.1 b hb) oq
 ·rcases h.2 a ha e with h1 | ⟨_, _, h1⟩
  ·exact QI (h1 b hb) oq
  ·exact QI (h1 b hb) oq
theorem Fr.mono {M M' m n : Nat} {S : Sm} (h : Fr M m n S) (hM : M ≤ M') : Fr M' m n S := fun a b ha hb => QI (h a b ha hb) hM
def Mb (B : Nat) : Nat → Nat
 | 0 => B
 | l + 1 => 2 * Mb B l + 2
theorem Q0o {B k l : Nat} (h : k ≤ l) : Mb B k ≤ Mb B l := by
 induction l with
 | zero => obtain rfl : k = 0 := by omega
           exact Nat.le_refl _
 | succ l ih =>
  by_cases e : k = l + 1
  ·subst e; exact Nat.le_refl _
  ·have := ih oq; rw [Mb]; omega
theorem Q8m {x y z : Int} {K L : Nat} (hx : x.natAbs < 256 ^ K) (hy : y.natAbs < 256 ^ L) (hz : z.natAbs < 256 ^ K) : (z + x * y).natAbs < 256 ^ (K + L + 1) := by
 have h1 := XF hx hy
 have h2 := Int.natAbs_add_le z (x * y)
 have h3 := QI hz (Nat.le_add_right K L)
 rw [Nat.pow_succ]
 omega
theorem YM {M : Nat} {x p : Int} (h : x.natAbs < 256 ^ M) : (-(x / p)).natAbs < 256 ^ M := by
 rw [Int.natAbs_neg]
 exact Nat.lt_of_le_of_lt (Int.natAbs_ediv_le_natAbs x p) h
theorem Qey {x p : Int} (hp : p ≠ 0) : (x + -(x / p) * p).natAbs < p.natAbs ∧ (x + -(x / p) * p = x % p) := by
 have h1 : x + -(x / p) * p = x % p := by rw [Int.emod_def, Int.neg_mul, Int.mul_comm]; omega
 have h2 := Int.emod_nonneg x hp
 have h3 := Int.emod_lt x hp
 exact ⟨by rw [h1]; omega, h1⟩


theorem Qhl {m n r c t a b : Nat} {S : Sm} (h : Dm m n S) (hr : r < m) (hc : c < n) (htm : t < m) (htn : t < n) (ha : a < m) (hb : b < n) : gE (S.ex r c t).d a b = gE S.d (exN r t a) (exN c t b) := by
 show gE (exK c t (exL r t S.d)) a b = _
 rw [Q0g (h.d.exL hr htm) hc htn ha, Q20 h.d hr htm]
theorem Qb0 {m n i k a b : Nat} {f : Int} {S : Sm} (h : Dm m n S) (hi : i < m) (hk : k < m) (hik : i ≠ k) (hb : b < n) : gE (S.rows i k (aT f)).d a b = if a = i then gE S.d i b + f * gE S.d k b else gE S.d a b := by
 show gE (rowsL i k (aT f) S.d) a b = _
 rw [XW h.d hi hk hb]
 by_cases e1 : a = k
 ·subst e1
  rw [if_pos rfl, if_neg (fun e => hik e.symm)]
  show 0 * _ + 1 * _ = _
  omega
 ·rw [if_neg e1]
  by_cases e2 : a = i
  ·rw [if_pos e2, if_pos e2]
   show 1 * gE S.d i b + f * gE S.d k b = _
   omega
  ·rw [if_neg e2, if_neg e2]
theorem Qb1 {m n i k a b : Nat} {f : Int} {S : Sm} (h : Dm m n S) (hi : i < n) (hk : k < n) (hik : i ≠ k) (ha : a < m) : gE (S.cols i k (aT f)).d a b = if b = i then gE S.d a i + f * gE S.d a k else gE S.d a b := by
 show gE (colsL i k (aT f) S.d) a b = _
 rw [XX h.d hi hk ha]
 by_cases e1 : b = k
 ·subst e1
  rw [if_pos rfl, if_neg (fun e => hik e.symm)]
  show 0 * _ + 1 * _ = _
  omega
 ·rw [if_neg e1]
  by_cases e2 : b = i
  ·rw [if_pos e2, if_pos e2]
   show 1 * gE S.d a i + f * gE S.d a k = _
   omega
  ·rw [if_neg e2, if_neg e2]

structure Inv (B m n k t : Nat) (S : Sm) : Prop where
 dm : Dm m n S
 z : Zc m n t S
 lv : ∃ l, (2 * l ≤ k ∧ Fr (Mb B l) m n S) ∨ (2 * l ≤ k + 1 ∧ Fr (Mb B l) m n S ∧ Calm m n t S) ∨ (2 * l + 1 ≤ k ∧ Qs (Mb B l) m n t S)

theorem Qjt {B m n k t r c : Nat} {S : Sm} (h : Inv B m n k t S) (hr : r < m) (hc : c < n) (htr : t ≤ r) (htc : t ≤ c) : Inv B m n (k + 1) t (S.ex r c t) := by
 have htm : t < m := by omega
 have htn : t < n := by omega
 have fr : ∀ {M}, Fr M m n S → Fr M m n (S.ex r c t) := fun hf a b ha hb => by
  rw [Qhl h.dm hr hc htm htn ha hb]
  exact hf _ _ (Wt hr htm ha) (Wt hc htn hb)
 refine ⟨h.dm.ex hr hc htm htn, fun i hi => ⟨fun b hb hne => ?_, fun a ha hne => ?_⟩, ?_⟩
 ·rw [Qhl h.dm hr hc htm htn oq hb]
  have e : exN r t i = i := by unfold exN; rw [if_neg oq, if_neg oq]
  rw [e]
  refine (h.z i hi).1 _ (Wt hc htn hb) ?_
  unfold exN
  split
  ·omega
  ·split <;> omega
 ·rw [Qhl h.dm hr hc htm htn ha oq]
  have e : exN c t i = i := by unfold exN; rw [if_neg oq, if_neg oq]
  rw [e]
  refine (h.z i hi).2 _ (Wt hr htm ha) ?_
  unfold exN
  split
  ·omega
  ·split <;> omega
 ·obtain ⟨l, hl⟩ := h.lv
  rcases hl with ⟨h1, h2⟩ | ⟨h1, h2, _⟩ | ⟨h1, h2⟩
  ·exact ⟨l, .inl ⟨by omega, fr h2⟩⟩
  ·exact ⟨l, .inl ⟨by omega, fr h2⟩⟩
  ·exact ⟨l + 1, .inl ⟨by omega, fr h2.fr⟩⟩

structure Here (m n t : Nat) (S : Sm) : Prop where
 tm : t < m
 tn : t < n
 p : gE S.d t t ≠ 0
 ls : (leastF S t m n).1 = t ∧ (leastF S t m n).2.1 = t
theorem Here.calm {m n t : Nat} {S : Sm} (h : Here m n t S) (hc : Calm m n t S) : fsR S t m = none ∧ fsC S t n ≠ none := by
 rcases hc with h1 | h1
 ·rcases h1 with h1 | h1
  ·exact absurd h.ls.1 h1
  ·exact absurd h.ls.2 h1
 ·exact h1
theorem Inv.lev {B m n k t : Nat} {S : Sm} (h : Inv B m n k t S) (hh : Here m n t S) (hc : ¬ (fsR S t m = none ∧ fsC S t n ≠ none)) : ∃ l, 2 * l ≤ k ∧ Qs (Mb B l) m n t S := by
 obtain ⟨l, hl⟩ := h.lv
 rcases hl with ⟨h1, h2⟩ | ⟨_, _, h3⟩ | ⟨h1, h2⟩
 ·exact ⟨l, h1, h2.q hh.tm⟩
 ·exact absurd (hh.calm h3) hc
 ·exact ⟨l, by omega, h2⟩

theorem Qhb {B m n k t i : Nat} {S : Sm} (h : Inv B m n k t S) (hh : Here m n t S) (hf : fsR S t m = some i) : Inv B m n (k + 1) t (S.rows i t (aT (-(gE S.d i t / gE S.d t t)))) := by
 obtain ⟨hti, him, h0⟩ := Q3v hf
 have htm := hh.tm
 have htn := hh.tn
 have e : ∀ a b, b < n → gE (S.rows i t (aT (-(gE S.d i t / gE S.d t t)))).d a b = if a = i then gE S.d i b + -(gE S.d i t / gE S.d t t) * gE S.d t b else gE S.d a b := fun a b hb => Qb0 h.dm him htm oq hb
 obtain ⟨l, hlk, hq⟩ := h.lev hh (fun hc => by rw [hf] at hc; cases hc.1)
 have hi0 : ∀ b, b < n → (gE S.d i b).natAbs < 256 ^ Mb B l := by
  rcases hq.2 i him oq with h1 | ⟨_, h1, _⟩
  ·exact h1
  ·exact absurd h1 h0
 have hnew : ∀ b, b < n → (gE S.d i b + -(gE S.d i t / gE S.d t t) * gE S.d t b).natAbs < 256 ^ (2 * Mb B l + 1) := fun b hb => by
  have := Q8m (YM (p := gE S.d t t) (hi0 t htn)) (hq.1 b hb) (hi0 b hb)
  exact QI this oq
 have hrem := Qey (x := gE S.d i t) hh.p
 refine ⟨h.dm.rows him htm, fun j hj => ⟨fun b hb hne => ?_, fun a ha hne => ?_⟩, ?_⟩
 ·rw [e j b hb, if_neg oq]; exact (h.z j hj).1 b hb hne
 ·rw [e a j oq]
  split
  ·rw [(h.z j hj).2 i him oq, (h.z j hj).2 t htm oq]; omega
  ·exact (h.z j hj).2 a ha hne
 ·by_cases hr : gE S.d i t + -(gE S.d i t / gE S.d t t) * gE S.d t t = 0
  ·refine ⟨l, .inr (.inr ⟨by omega, fun b hb => ?_, fun a ha hat => ?_⟩)⟩
   ·rw [e t b hb, if_neg oq]; exact hq.1 b hb
   ·by_cases hai : a = i
    ·subst hai
     refine .inr ⟨hti, by rw [e a t htn, if_pos rfl]; exact hr, fun b hb => ?_⟩
     rw [e a b hb, if_pos rfl]; exact hnew b hb
    ·rcases hq.2 a ha hat with h1 | ⟨h1, h2, h3⟩
     ·exact .inl fun b hb => by rw [e a b hb, if_neg hai]; exact h1 b hb
     ·exact .inr ⟨h1, by rw [e a t htn, if_neg hai]; exact h2, fun b hb => by rw [e a b hb, if_neg hai]; exact h3 b hb⟩
  ·refine ⟨l + 1, .inr (.inl ⟨by omega, fun a b ha hb => ?_, .inl ?_⟩)⟩
   ·rw [e a b hb]
    split
    ·exact QI (hnew b hb) (by rw [Mb]; omega)
    ·exact hq.fr a b ha hb
   ·refine Classical.byContradiction fun hn => ?_
    have hn1 : (leastF (S.rows i t (aT (-(gE S.d i t / gE S.d t t)))) t m n).1 = t := Classical.byContradiction fun x => hn (.inl x)
    have hn2 : (leastF (S.rows i t (aT (-(gE S.d i t / gE S.d t t)))) t m n).2.1 = t := Classical.byContradiction fun x => hn (.inr x)
    have hm := Q8n (S := S.rows i t (aT (-(gE S.d i t / gE S.d t t)))) (t := t) (m := m) (n := n) (a := i) (b := t) oq him (Nat.le_refl _) htn (by rw [e i t htn, if_pos rfl]; exact hr)
    rw [hn1, hn2, e t t htn, if_neg oq, e i t htn, if_pos rfl] at hm
    omega

theorem Qhd {B m n k t j : Nat} {S : Sm} (h : Inv B m n k t S) (hh : Here m n t S) (hf0 : fsR S t m = none) (hf : fsC S t n = some j) : Inv B m n (k + 1) t (S.cols j t (aT (-(gE S.d t j / gE S.d t t)))) := by
 obtain ⟨htj, hjn, h0⟩ := Q3x hf
 have htm := hh.tm
 have htn := hh.tn
 have hz : ∀ a, a < m → a ≠ t → gE S.d a t = 0 := fun a ha hat => by
  rcases Nat.lt_or_ge a t with h1 | h1
  ·exact (h.z a h1).1 t htn oq
  ·exact Q3w hf0 oq ha
 have e : ∀ a b, a < m → a ≠ t → gE (S.cols j t (aT (-(gE S.d t j / gE S.d t t)))).d a b = gE S.d a b := fun a b ha hat => by
  rw [Qb1 h.dm hjn htn oq ha, hz a ha hat]
  split
  ·rename_i hb; rw [hb]; omega
  ·rfl
 have et : ∀ b, gE (S.cols j t (aT (-(gE S.d t j / gE S.d t t)))).d t b = if b = j then gE S.d t j + -(gE S.d t j / gE S.d t t) * gE S.d t t else gE S.d t b := fun b => Qb1 h.dm hjn htn oq htm
 have hrem := Qey (x := gE S.d t j) hh.p
 have rowt : ∀ {M}, (∀ b, b < n → (gE S.d t b).natAbs < 256 ^ M) → ∀ b, b < n → (gE (S.cols j t (aT (-(gE S.d t j / gE S.d t t)))).d t b).natAbs < 256 ^ M := fun hM b hb => by
  rw [et b]
  split
  ·have := hM t htn; omega
  ·exact hM b hb
 have fr : ∀ {M}, Fr M m n S → Fr M m n (S.cols j t (aT (-(gE S.d t j / gE S.d t t)))) := fun hF a b ha hb => by
  by_cases hat : a = t
  ·subst hat; exact rowt (fun b hb => hF a b ha hb) b hb
  ·rw [e a b ha hat]; exact hF a b ha hb
 refine ⟨h.dm.cols hjn htn, fun i hi => ⟨fun b hb hne => ?_, fun a ha hne => ?_⟩, ?_⟩
 ·rw [e i b oq oq]; exact (h.z i hi).1 b hb hne
 ·by_cases hat : a = t
  ·subst hat; rw [et i, if_neg oq]; exact (h.z i hi).2 a ha hne
  ·rw [e a i ha hat]; exact (h.z i hi).2 a ha hne
 ·obtain ⟨l, hl⟩ := h.lv
  rcases hl with ⟨h1, h2⟩ | ⟨h1, h2, _⟩ | ⟨h1, h2⟩
  ·exact ⟨l, .inl ⟨by omega, fr h2⟩⟩
  ·exact ⟨l, .inl ⟨by omega, fr h2⟩⟩
  ·refine ⟨l, .inr (.inr ⟨by omega, rowt h2.1, fun a ha hat => ?_⟩)⟩
   rcases h2.2 a ha hat with g | ⟨g1, g2, g3⟩
   ·exact .inl fun b hb => by rw [e a b ha hat]; exact g b hb
   ·exact .inr ⟨g1, by rw [e a t ha hat]; exact g2, fun b hb => by rw [e a b ha hat]; exact g3 b hb⟩

theorem Qhc {B m n k t i : Nat} {S : Sm} (h : Inv B m n k t S) (hh : Here m n t S) (hf0 : fsR S t m = none) (hf1 : fsC S t n = none) (hf : spoiledF S t m n = some i) : Inv B m n (k + 1) t (S.rows t i (aT 1)) := by
 obtain ⟨hti, him, j, htj, hjn, hj0⟩ := Q3h hf
 have htm := hh.tm
 have htn := hh.tn
 have e : ∀ a b, b < n → gE (S.rows t i (aT 1)).d a b = if a = t then gE S.d t b + 1 * gE S.d i b else gE S.d a b := fun a b hb => Qb0 h.dm htm him oq hb
 obtain ⟨l, hlk, hq⟩ := h.lev hh (fun hc => hc.2 hf1)
 refine ⟨h.dm.rows htm him, fun a ha => ⟨fun b hb hne => ?_, fun b hb hne => ?_⟩, l + 1, .inr (.inl ⟨by omega, fun a b ha hb => ?_, .inr ⟨?_, fun hn => ?_⟩⟩)⟩
 ·rw [e a b hb, if_neg oq]; exact (h.z a ha).1 b hb hne
 ·rw [e b a oq]
  split
  ·rw [(h.z a ha).2 t htm oq, (h.z a ha).2 i him oq]; omega
  ·exact (h.z a ha).2 b hb hne
 ·rw [e a b hb]
  split
  ·have h1 := hq.1 b hb
   have h2 : (gE S.d i b).natAbs < 256 ^ (2 * Mb B l + 1) := by
    rcases hq.2 i him oq with g | ⟨_, _, g⟩
    ·exact QI (g b hb) oq
    ·exact g b hb
   have h3 := QI h1 (show Mb B l ≤ 2 * Mb B l + 1 by omega)
   have h4 := Int.natAbs_add_le (gE S.d t b) (1 * gE S.d i b)
   rw [Int.one_mul] at h4 ⊢
   rw [Mb, show 2 * Mb B l + 2 = (2 * Mb B l + 1) + 1 from rfl, Nat.pow_succ]
   omega
  ·exact hq.fr a b ha hb
 ·refine List.find?_eq_none.2 fun a ha => ?_
  have h1 := Xj.1 ha
  rw [e a t htn, if_neg oq, Q3w hf0 oq h1.2]
  simp
 ·have := Q3y hn htj hjn
  rw [e t j hjn, if_pos rfl, Q3y hf1 htj hjn] at this
  exact hj0 oq

theorem Q2y {B m n k t : Nat} {S S' : Sm} (h : Inv B m n k t S) (hh : Here m n t S) (hf0 : fsR S t m = none) (hf1 : fsC S t n = none) (hd : Dm m n S') (he : ∀ a b, a < m → b < n → gE S'.d a b = gE S.d a b ∨ (a = t ∧ gE S'.d a b = -gE S.d a b)) : Inv B m n (k + 1) (t + 1) S' := by
 have htm := hh.tm
 have htn := hh.tn
 have z0 : ∀ a b, a < m → b < n → gE S.d a b = 0 → gE S'.d a b = 0 := fun a b ha hb h0 => by
  rcases he a b ha hb with g | ⟨_, g⟩
  ·rw [g, h0]
  ·rw [g, h0]; rfl
 obtain ⟨l, hlk, hF⟩ : ∃ l, 2 * l ≤ k + 1 ∧ Fr (Mb B l) m n S := by
  obtain ⟨l, hl⟩ := h.lv
  rcases hl with ⟨h1, h2⟩ | ⟨h1, h2, _⟩ | ⟨h1, h2⟩
  ·exact ⟨l, by omega, h2⟩
  ·exact ⟨l, by omega, h2⟩
  ·exact ⟨l + 1, by omega, h2.fr⟩
 refine ⟨hd, fun i hi => ⟨fun b hb hne => z0 i b oq hb ?_, fun a ha hne => z0 a i ha oq ?_⟩, l, .inl ⟨hlk, fun a b ha hb => ?_⟩⟩
 ·rcases Nat.lt_or_ge i t with h1 | h1
  ·exact (h.z i h1).1 b hb hne
  ·obtain rfl : i = t := by omega
   rcases Nat.lt_or_ge b i with h2 | h2
   ·exact (h.z b h2).2 i htm oq
   ·exact Q3y hf1 oq hb
 ·rcases Nat.lt_or_ge i t with h1 | h1
  ·exact (h.z i h1).2 a ha hne
  ·obtain rfl : i = t := by omega
   rcases Nat.lt_or_ge a i with h2 | h2
   ·exact (h.z a h2).1 i htn oq
   ·exact Q3w hf0 oq ha
 ·have := hF a b ha hb
  rcases he a b ha hb with g | ⟨_, g⟩
  ·rw [g]; exact this
  ·rw [g, Int.natAbs_neg]; exact this


theorem Q62 {r c t a b : Nat} {g : List (List Int)} (h : Rec r c g) (ht : t < r) : gE (negR t g) a b = if a = t then -(gE g a b) else gE g a b := by
 unfold gE negR
 rw [Y9 (by have := h.len; omega)]
 by_cases e : a = t
 ·subst e
  rw [if_pos rfl, if_pos rfl]
  generalize g.getD a [] = l
  rw [List.getD, List.getElem?_map, List.getD]
  cases l[b]? <;> simp
 ·rw [if_neg e, if_neg e]
theorem Qao {r c t a b : Nat} {g : List (List Int)} (h : Rec r c g) (ht : t < c) (ha : a < r) : gE (negC t g) a b = if b = t then -(gE g a b) else gE g a b := by
 have h1 := h.at ha
 have hl := h.len
 have e : (negC t g).getD a [] = (g.getD a []).set t (-((g.getD a []).getD t 0)) := by
  unfold negC
  rw [List.getD, List.getElem?_map, List.getD, List.getElem?_eq_getElem (show a < g.length by omega)]
  rfl
 unfold gE
 rw [e, Y9 oq]
 by_cases e1 : b = t
 ·subst e1; rw [if_pos rfl]
 ·rw [if_neg e1, if_neg e1]
theorem Q7d {r c t : Nat} {g : List (List Int)} (h : Rec r c g) (ht : t < r) : Rec r c (negR t g) := h.set (by rw [List.length_map]; exact h.at ht)
theorem Qdj {r c t : Nat} {g : List (List Int)} (h : Rec r c g) : Rec r c (negC t g) :=
 ⟨by unfold negC; rw [List.length_map, h.len], fun x hx => by
  unfold negC at hx
  obtain ⟨y, hy, rfl⟩ := List.mem_map.1 hx
  rw [List.length_set]; exact h.row y hy⟩
theorem Qf5 {m n t : Nat} {S : Sm} (h : Dm m n S) (ht : t < m) : Dm m n (S.neg t) := ⟨Q7d h.u ht, Qdj h.ui, Q7d h.d ht, h.v, h.vi⟩

structure Ob (W m n : Nat) (S : Sm) : Prop where
 u : ∀ a b, a < m → b < m → (gE S.u a b).natAbs < 256 ^ W
 ui : ∀ a b, a < m → b < m → (gE S.ui a b).natAbs < 256 ^ W
 v : ∀ a b, a < n → b < n → (gE S.v a b).natAbs < 256 ^ W
 vi : ∀ a b, a < n → b < n → (gE S.vi a b).natAbs < 256 ^ W
theorem Ob.ex {W m n r c t : Nat} {S : Sm} (h : Ob W m n S) (hd : Dm m n S) (hr : r < m) (hc : c < n) (htm : t < m) (htn : t < n) : Ob W m n (S.ex r c t) := by
 refine ⟨fun a b ha hb => ?_, fun a b ha hb => ?_, fun a b ha hb => ?_, fun a b ha hb => ?_⟩
 ·show (gE (exL r t S.u) a b).natAbs < _
  rw [Q20 hd.u hr htm]; exact h.u _ _ (Wt hr htm ha) hb
 ·show (gE (exK r t S.ui) a b).natAbs < _
  rw [Q0g hd.ui hr htm ha]; exact h.ui _ _ ha (Wt hr htm hb)
 ·show (gE (exK c t S.v) a b).natAbs < _
  rw [Q0g hd.v hc htn ha]; exact h.v _ _ ha (Wt hc htn hb)
 ·show (gE (exL c t S.vi) a b).natAbs < _
  rw [Q20 hd.vi hc htn]; exact h.vi _ _ (Wt hc htn ha) hb
theorem Qdd {f x y : Int} {K W : Nat} (hf : f.natAbs < 256 ^ K) (hx : x.natAbs < 256 ^ W) (hy : y.natAbs < 256 ^ W) : (1 * x + f * y).natAbs < 256 ^ (W + K + 1) ∧ (0 * x + 1 * y).natAbs < 256 ^ (W + K + 1) := by
 have h1 := XF hf hy
 have h2 := Int.natAbs_add_le (1 * x) (f * y)
 have h3 := QI hx (Nat.le_add_left W K)
 have h4 := QI hy (show W ≤ W + K + 1 by omega)
 rw [Int.one_mul] at h2
 rw [Int.zero_mul, Int.zero_add, Int.one_mul, Int.one_mul, Nat.add_comm W K, Nat.pow_succ]
 refine ⟨by omega, ?_⟩
 rw [← Nat.pow_succ]
 exact QI hy oq
theorem Ob.mono {W W' m n : Nat} {S : Sm} (h : Ob W m n S) (hW : W ≤ W') : Ob W' m n S := ⟨fun a b ha hb => QI (h.u a b ha hb) hW, fun a b ha hb => QI (h.ui a b ha hb) hW, fun a b ha hb => QI (h.v a b ha hb) hW, fun a b ha hb => QI (h.vi a b ha hb) hW⟩
theorem Ob.rows {W K m n i k : Nat} {f : Int} {S : Sm} (h : Ob W m n S) (hd : Dm m n S) (hi : i < m) (hk : k < m) (hf : f.natAbs < 256 ^ K) : Ob (W + K + 1) m n (S.rows i k (aT f)) := by
 refine ⟨fun a b ha hb => ?_, fun a b ha hb => ?_, fun a b ha hb => QI (h.v a b ha hb) oq, fun a b ha hb => QI (h.vi a b ha hb) oq⟩
 ·show (gE (rowsL i k (aT f) S.u) a b).natAbs < _
  rw [XW hd.u hi hk hb]
  have := Qdd hf (h.u i b hi hb) (h.u k b hk hb)
  split
  ·exact this.2
  ·split
   ·exact this.1
   ·exact QI (h.u a b ha hb) oq
 ·show (gE (colsL i k (aT f).flip S.ui) a b).natAbs < _
  rw [XX hd.ui hi hk ha]
  have hn : (-f).natAbs < 256 ^ K := by rw [Int.natAbs_neg]; exact hf
  have := Qdd hn (h.ui a k ha hk) (h.ui a i ha hi)
  split
  ·show (-f * gE S.ui a i + 1 * gE S.ui a k).natAbs < _
   rw [Int.add_comm]; exact this.1
  ·split
   ·show (1 * gE S.ui a i + -0 * gE S.ui a k).natAbs < _
    rw [Int.add_comm, Int.neg_zero]; exact this.2
   ·exact QI (h.ui a b ha hb) oq
theorem Ob.cols {W K m n i k : Nat} {f : Int} {S : Sm} (h : Ob W m n S) (hd : Dm m n S) (hi : i < n) (hk : k < n) (hf : f.natAbs < 256 ^ K) : Ob (W + K + 1) m n (S.cols i k (aT f)) := by
 refine ⟨fun a b ha hb => QI (h.u a b ha hb) oq, fun a b ha hb => QI (h.ui a b ha hb) oq, fun a b ha hb => ?_, fun a b ha hb => ?_⟩
 ·show (gE (colsL i k (aT f) S.v) a b).natAbs < _
  rw [XX hd.v hi hk ha]
  have := Qdd hf (h.v a i ha hi) (h.v a k ha hk)
  split
  ·exact this.2
  ·split
   ·exact this.1
   ·exact QI (h.v a b ha hb) oq
 ·show (gE (rowsL i k (aT f).flip S.vi) a b).natAbs < _
  rw [XW hd.vi hi hk hb]
  have hn : (-f).natAbs < 256 ^ K := by rw [Int.natAbs_neg]; exact hf
  have := Qdd hn (h.vi k b hk hb) (h.vi i b hi hb)
  split
  ·show (-f * gE S.vi i b + 1 * gE S.vi k b).natAbs < _
   rw [Int.add_comm]; exact this.1
  ·split
   ·show (1 * gE S.vi i b + -0 * gE S.vi k b).natAbs < _
    rw [Int.add_comm, Int.neg_zero]; exact this.2
   ·exact QI (h.vi a b ha hb) oq
theorem Ob.neg {W m n t : Nat} {S : Sm} (h : Ob W m n S) (hd : Dm m n S) (ht : t < m) : Ob W m n (S.neg t) := by
 refine ⟨fun a b ha hb => ?_, fun a b ha hb => ?_, h.v, h.vi⟩
 ·show (gE (negR t S.u) a b).natAbs < _
  rw [Q62 hd.u ht]
  split
  ·rw [Int.natAbs_neg]; exact h.u a b ha hb
  ·exact h.u a b ha hb
 ·show (gE (negC t S.ui) a b).natAbs < _
  rw [Qao hd.ui ht ha]
  split
  ·rw [Int.natAbs_neg]; exact h.ui a b ha hb
  ·exact h.ui a b ha hb

def Wb (B W : Nat) : Nat → Nat
 | 0 => W
 | k + 1 => Wb B W k + Mb B ((k + 1) / 2) + 1
theorem Inv.el {B m n k t : Nat} {S : Sm} (h : Inv B m n k t S) : (∀ a, a < m → t < n → t ≤ a → gE S.d a t ≠ 0 → (gE S.d a t).natAbs < 256 ^ Mb B ((k + 1) / 2)) ∧ ∀ b, t < m → b < n → (gE S.d t b).natAbs < 256 ^ Mb B ((k + 1) / 2) := by
 obtain ⟨l, hl⟩ := h.lv
 rcases hl with ⟨h1, h2⟩ | ⟨h1, h2, _⟩ | ⟨h1, h2⟩
 ·exact ⟨fun a ha ht _ _ => QI (h2 a t ha ht) (Q0o oq), fun b ht hb => QI (h2 t b ht hb) (Q0o oq)⟩
 ·exact ⟨fun a ha ht _ _ => QI (h2 a t ha ht) (Q0o oq), fun b ht hb => QI (h2 t b ht hb) (Q0o oq)⟩
 ·refine ⟨fun a ha ht hta h0 => ?_, fun b ht hb => QI (h2.1 b hb) (Q0o oq)⟩
  by_cases e : a = t
  ·subst e; exact QI (h2.1 a ht) (Q0o oq)
  ·rcases h2.2 a ha e with g | ⟨_, g, _⟩
   ·exact QI (g t ht) (Q0o oq)
   ·exact absurd g h0
theorem Inv.fr {B m n k t : Nat} {S : Sm} (h : Inv B m n k t S) : Fr (Mb B ((k + 1) / 2)) m n S := by
 obtain ⟨l, hl⟩ := h.lv
 rcases hl with ⟨h1, h2⟩ | ⟨h1, h2, _⟩ | ⟨h1, h2⟩
 ·exact h2.mono (Q0o oq)
 ·exact h2.mono (Q0o oq)
 ·exact h2.fr.mono (Nat.le_trans (Nat.le_refl (Mb B (l + 1))) (Q0o oq))

theorem Qfz {B W m n k t t' : Nat} {S S' : Sm} (hB : 1 ≤ B) (h : Inv B m n k t S) (ho : Ob (Wb B W k) m n S) (hs : stpB m n t S = some (S', t')) : Inv B m n (k + 1) t' S' ∧ Ob (Wb B W (k + 1)) m n S' := by
 have hW : Wb B W (k + 1) = Wb B W k + Mb B ((k + 1) / 2) + 1 := rfl
 unfold stpB at hs
 split at hs
 ·cases hs
 ·rename_i hf
  have hf : (leastF S t m n).2.2 = true := by simpa using hf
  obtain ⟨⟨l1, l2, l3, l4⟩, l5⟩ := Xk hf
  split at hs
  ·cases hs
   exact ⟨Qjt h l2 l4 l1 l3, (ho.ex h.dm l2 l4 oq oq).mono oq⟩
  ·rename_i hne
   have e1 : (leastF S t m n).1 = t := Classical.byContradiction fun x => hne (.inl x)
   have e2 : (leastF S t m n).2.1 = t := Classical.byContradiction fun x => hne (.inr x)
   rw [e1, e2] at l5
   have hh : Here m n t S := ⟨by omega, by omega, l5, e1, e2⟩
   cases h1 : fsR S t m with
   | some i =>
    rw [h1] at hs
    cases hs
    obtain ⟨g1, g2, g3⟩ := Q3v h1
    refine ⟨Qhb h hh h1, ?_⟩
    rw [hW]
    exact ho.rows h.dm g2 hh.tm (YM (h.el.1 i g2 hh.tn oq g3))
   | none =>
    rw [h1] at hs
    dsimp only at hs
    cases h2 : fsC S t n with
    | some j =>
     rw [h2] at hs
     cases hs
     obtain ⟨g1, g2, g3⟩ := Q3x h2
     refine ⟨Qhd h hh h1 h2, ?_⟩
     rw [hW]
     exact ho.cols h.dm g2 hh.tn (YM (h.el.2 j hh.tm g2))
    | none =>
     rw [h2] at hs
     dsimp only at hs
     cases h3 : spoiledF S t m n with
     | some i =>
      rw [h3] at hs
      cases hs
      obtain ⟨g1, g2, _⟩ := Q3h h3
      refine ⟨Qhc h hh h1 h2 h3, ?_⟩
      rw [hW]
      refine (ho.rows (K := 1) h.dm hh.tm g2 dq).mono ?_
      have := Q0o (B := B) (Nat.zero_le ((k + 1) / 2))
      rw [show Mb B 0 = B from rfl] at this
      omega
     | none =>
      rw [h3] at hs
      cases hs
      by_cases hg : gE S.d t t < 0
      ·rw [if_pos hg]
       refine ⟨Q2y h hh h1 h2 (Qf5 h.dm hh.tm) (fun a b ha hb => ?_), (ho.neg h.dm hh.tm).mono oq⟩
       have e : gE (S.neg t).d a b = if a = t then -(gE S.d a b) else gE S.d a b := Q62 h.dm.d hh.tm
       by_cases ea : a = t
       ·rw [if_pos ea] at e; exact .inr ⟨ea, e⟩
       ·rw [if_neg ea] at e; exact .inl e
      ·rw [if_neg hg]
       exact ⟨Q2y h hh h1 h2 h.dm (fun a b _ _ => .inl rfl), ho.mono oq⟩

def Kb (B W k : Nat) : Nat := Wb B W k + Mb B ((k + 1) / 2)
theorem Qky {B W k l : Nat} (h : k ≤ l) : Wb B W k ≤ Wb B W l := by
 induction l with
 | zero => obtain rfl : k = 0 := by omega
           exact Nat.le_refl _
 | succ l ih =>
  by_cases e : k = l + 1
  ·subst e; exact Nat.le_refl _
  ·have := ih oq; rw [Wb]; omega
theorem Xi {K r c : Nat} {g : List (List Int)} (h : Rec r c g) (e : ∀ a b, a < r → b < c → (gE g a b).natAbs < 256 ^ K) : okG K g = true := by
 unfold okG
 refine List.all_eq_true.2 fun x hx => List.all_eq_true.2 fun y hy => decide_eq_true ?_
 obtain ⟨a, ha, rfl⟩ := List.mem_iff_getElem.1 hx
 obtain ⟨b, hb, rfl⟩ := List.mem_iff_getElem.1 hy
 have h1 := h.len
 have h2 := h.row _ (List.getElem_mem ha)
 have := e a b oq oq
 unfold gE at this
 rw [List.getD, List.getD, List.getElem?_eq_getElem ha, Option.getD_some, List.getElem?_eq_getElem hb] at this
 exact this
theorem Inv.ok {B W m n k t : Nat} {S : Sm} (h : Inv B m n k t S) (ho : Ob (Wb B W k) m n S) : Ok (Kb B W k) S :=
 ⟨Xi h.dm.u fun a b ha hb => QI (ho.u a b ha hb) (by unfold Kb; omega), Xi h.dm.ui fun a b ha hb => QI (ho.ui a b ha hb) (by unfold Kb; omega),
  Xi h.dm.d fun a b ha hb => QI (h.fr a b ha hb) (by unfold Kb; omega), Xi h.dm.v fun a b ha hb => QI (ho.v a b ha hb) (by unfold Kb; omega), Xi h.dm.vi fun a b ha hb => QI (ho.vi a b ha hb) (by unfold Kb; omega)⟩
theorem Qex {B W m n : Nat} (hB : 1 ≤ B) : ∀ (j k t : Nat) (S : Sm), Inv B m n k t S → Ob (Wb B W k) m n S → Inv B m n (k + (runB m n j t S).2.2) (runB m n j t S).2.1 (runB m n j t S).1 ∧ Ob (Wb B W (k + (runB m n j t S).2.2)) m n (runB m n j t S).1
 | 0, k, t, S, h, ho => ⟨h, ho⟩
 | j + 1, k, t, S, h, ho => by
  rw [runB]
  cases hs : stpB m n t S with
  | none => exact ⟨h, ho⟩
  | some r =>
   obtain ⟨g1, g2⟩ := Qfz hB h ho hs
   have := Qex hB j (k + 1) r.2 r.1 g1 g2
   dsimp only
   rw [show k + ((runB m n j r.2 r.1).2.2 + 1) = k + 1 + (runB m n j r.2 r.1).2.2 by omega]
   exact this
theorem Q5y {m n : Nat} : ∀ (j t : Nat) (S : Sm), (runB m n j t S).2.2 ≤ j
 | 0, _, _ => Nat.le_refl _
 | j + 1, t, S => by
  rw [runB]
  cases stpB m n t S with
  | none => exact Nat.zero_le _
  | some r => have := Q5y (m := m) (n := n) j r.2 r.1; dsimp only; omega


structure FV where
 A : Option Addr
 c : Nat
 N : SHeap
def Qkz (F : FV) (r c : Nat) : Value := .slice F.A (r * c) F.c
structure JV where
 u : FV
 ui : FV
 d : FV
 v : FV
 vi : FV
def jbC (J : JV) (m n : Nat) (t s : Int) : Array Value := #[nv m, nv m, .slice J.u.A (m * m) J.u.c, nv m, nv m, .slice J.ui.A (m * m) J.ui.c, nv m, nv n, .slice J.d.A (m * n) J.d.c, nv n, nv n, .slice J.v.A (n * n) J.v.c, nv n, nv n, .slice J.vi.A (n * n) J.vi.c, iv t, iv s]
def jbH (b : Nat) (J : JV) (m n : Nat) (t s : Int) : SHeap := (b, .cells (jbC J m n t s) 72) :: (J.u.N ++ (J.ui.N ++ (J.d.N ++ (J.v.N ++ (J.vi.N ++ [])))))
structure IsJ (J : JV) (m n : Nat) (S : Sm) : Prop where
 u : OwnZ J.u.N (.slice J.u.A (m * m) J.u.c) (m * m) (tbz m m (gE S.u))
 ui : OwnZ J.ui.N (.slice J.ui.A (m * m) J.ui.c) (m * m) (tbz m m (gE S.ui))
 d : OwnZ J.d.N (.slice J.d.A (m * n) J.d.c) (m * n) (tbz m n (gE S.d))
 v : OwnZ J.v.N (.slice J.v.A (n * n) J.v.c) (n * n) (tbz n n (gE S.v))
 vi : OwnZ J.vi.N (.slice J.vi.A (n * n) J.vi.c) (n * n) (tbz n n (gE S.vi))
structure SameF (J J' : JV) : Prop where
 u : J'.u.A = J.u.A ∧ J'.u.c = J.u.c
 ui : J'.ui.A = J.ui.A ∧ J'.ui.c = J.ui.c
 d : J'.d.A = J.d.A ∧ J'.d.c = J.d.c
 v : J'.v.A = J.v.A ∧ J'.v.c = J.v.c
 vi : J'.vi.A = J.vi.A ∧ J'.vi.c = J.vi.c
theorem SameF.refl (J : JV) : SameF J J := ⟨⟨rfl, rfl⟩, ⟨rfl, rfl⟩, ⟨rfl, rfl⟩, ⟨rfl, rfl⟩, ⟨rfl, rfl⟩⟩
theorem SameF.trans {J J' J'' : JV} (h : SameF J J') (k : SameF J' J'') : SameF J J'' :=
 ⟨⟨k.u.1.trans h.u.1, k.u.2.trans h.u.2⟩, ⟨k.ui.1.trans h.ui.1, k.ui.2.trans h.ui.2⟩, ⟨k.d.1.trans h.d.1, k.d.2.trans h.d.2⟩, ⟨k.v.1.trans h.v.1, k.v.2.trans h.v.2⟩, ⟨k.vi.1.trans h.vi.1, k.vi.2.trans h.vi.2⟩⟩
def JbR (b : Nat) (J : JV) (m n : Nat) (t s t' s' : Int) (S' : Sm) (w w' : World) : Prop :=
 Kp (keys (jbH b J m n t s)) w w' ∧ ∃ J', keys (jbH b J' m n t' s') = keys (jbH b J m n t s) ∧ InW (jbH b J' m n t' s') w' ∧ IsJ J' m n S' ∧ SameF J J'
theorem JbR.same {b : Nat} {J : JV} {m n : Nat} {t s : Int} {S : Sm} (h : IsJ J m n S) {w w' : World} (h1 : Kp (keys (jbH b J m n t s)) w w') (h2 : ∀ p ∈ jbH b J m n t s, w'.heap[p.1]? = some p.2) : JbR b J m n t s t s S w w' :=
 ⟨h1, J, rfl, h2, h, SameF.refl J⟩

set_option maxHeartbeats 2000000 in
theorem Qe3 (K : Nat) (w : World) (x y : Int) (hK : K ≤ 90000000) (hx : x.natAbs < 256 ^ K) (hy : y.natAbs < 256 ^ K) :
  Calls Tryz.prog 164 #[Wv x, Wv y] w (Ret fun v w' => Kp [] w w' ∧ v = .bool (decide (x.natAbs < y.natAbs))) := by
 have e : ∀ a : Int, (.agg #[.bool false, sv (magU a.natAbs)] : Value) = Wv ((a.natAbs : Nat) : Int) := fun a => by
  unfold Wv wv
  rw [decide_eq_false oq, Int.natAbs_natCast]
 refine Q8 [] [] spq [] Tryz.func164 rfl mixed (by kernel_rfl) Tryz.ntmps164 Tryz.results164 rfl ⟨by simp, by simp⟩ spq ?_
 simp only [toS, textOps, toSOp, kindAt, kindOf, odAt, sopsAt, ordOf, zipF]
 repeat' first | apply jS | apply jO | apply jN | refine Q2 ?_ | refine Q0 ?_ | refine Q7 ?_ | refine QB (h := fun _ => ?_) | apply jT
 refine Zv (l := [(1, sv (magU x.natAbs))]) (cs := #[.bool false, sv (magU x.natAbs)]) rfl rfl rfl rfl ?_
 repeat' first | refine Q2 ?_ | refine Q7 ?_ | fail
 refine Zv (l := [(1, sv (magU y.natAbs))]) (cs := #[.bool false, sv (magU y.natAbs)]) rfl rfl rfl rfl ?_
 rw [e x, e y]
 skip
 refine Qb pqq rfl eqq rfl (fun w _ _ => Qk8 w _ _ ((x.natAbs : Nat) : Int) ((y.natAbs : Nat) : Int) K (Qq (by simpa using hx)) (Qq (by simpa using hy)) oq) fun w v w' _ _ _ hR => ?_
 subst hR
 have hsg : (((x.natAbs : Nat) : Int) - ((y.natAbs : Nat) : Int)).sign < 0 ↔ x.natAbs < y.natAbs := by
  rw [Int.sign_neg_iff]; omega
 by_cases hlt : x.natAbs < y.natAbs
 ·have := hsg.2 hlt
  rw [decide_eq_true hlt]
  repeat' first | apply jN | apply jT | refine Q0 ?_ | (refine Qi (h1 := ?_) (h2 := ?_) <;> intro hc <;> try (exfalso; omega)) | apply jR
  all_goals first
   | (exfalso; omega)
   | exact Qd rfl (fun a w' st => ⟨st.kp, rfl⟩)
 ·have := fun h => hlt (hsg.1 h)
  rw [decide_eq_false hlt]
  repeat' first | apply jN | apply jT | refine Q0 ?_ | (refine Qi (h1 := ?_) (h2 := ?_) <;> intro hc <;> try (exfalso; omega)) | apply jR
  all_goals first
   | (exfalso; omega)
   | exact Qd rfl (fun a w' st => ⟨st.kp, rfl⟩)

theorem Z1 {H : SHeap} {w w' : World} (hs : Hsat H w) (h1 : Kp (keys H) w w') (h2 : ∀ p ∈ H, w'.heap[p.1]? = some p.2) : Kp [] w w' :=
 ⟨h1.os, h1.tape, h1.output, h1.size, fun k hk _ => by
  by_cases hm : k ∈ keys H
  ·obtain ⟨p, hp, rfl⟩ := List.mem_map.1 hm
   rw [h2 p hp, hs.blk p hp]
  ·exact h1.block k hk hm⟩

set_option maxHeartbeats 2000000 in
theorem Yd (w : World) (b : Nat) (J : JV) (m n t : Nat) (s : Int) (S : Sm) (i j : Nat) (hJ : IsJ J m n S) (hs : Hsat (jbH b J m n t s) w) (hi : i < m) (hj : j < n) (hm : m ≤ 200) (hn : n ≤ 200) :
  Calls Tryz.prog 90 #[.pointer (some ⟨b, 0, none⟩), nv i, nv j] w (Ret fun v w' => Kp [] w w' ∧ v = Wv (gE S.d i j)) := by
 have hM := QC hs
 have hmn : m * n ≤ 40000 := Nat.mul_le_mul hm hn
 have hin : i * n ≤ 40000 := Nat.le_trans (Nat.mul_le_mul_right n (show i ≤ m by omega)) hmn
 have hlt := X8 hi hj
 have hd := hJ.d
 refine Q8 [⟨1, 1, [], []⟩] (keys (jbH b J m n t s)) hM (jbH b J m n t s) Tryz.func90 rfl mixed (by kernel_rfl) Tryz.ntmps90 Tryz.results90 rfl hs (fun p hp => List.mem_map.2 ⟨p, hp, rfl⟩) ?_
 simp only [toS, textOps, toSOp, kindAt, kindOf, odAt, sopsAt, ordOf, zipF]
 unfold jbH jbC
 repeat' first | apply jS | apply jO | apply jD | apply jN | apply jT | refine Q1 ?_ | refine Q2 ?_ | refine Q7 ?_ | refine QV (h := ?_) | refine Yq (h := ?_) | refine QZ (h := ?_) | refine Z2 (h := ?_) | refine Q6 ?_ | refine Q3 ?_ | refine Qf fun _ => ?_ | refine Q3 ?_ | apply jR
 rw [YB hi hj]
 exact QG 0 rfl rfl rfl (fun a w' st => ⟨Z1 hs st.kp (fun p hp => st.hs.blk p (List.mem_cons_of_mem _ hp)), rfl⟩)

section
variable {c : Cx} {Q : Exit → Act → World → Prop} {m : Mode} {F : SFrame} {H : SHeap} {r : List SOp} {g : Option (Option Tmp × Bool)} {ns : Bool} {d : Tmp} {ty t t' : TypeId} {x y : Operand}
end
def rwV (st : Nat × Nat × Bool) : Value := if st.2.2 = true then nv st.1 else iv (-1)
def clV (st : Nat × Nat × Bool) : Value := if st.2.2 = true then nv st.2.1 else iv (-1)
set_option maxHeartbeats 4000000 in
theorem Q5b (K : Nat) (w : World) (b : Nat) (J : JV) (m n t : Nat) (s : Int) (S : Sm) (hJ : IsJ J m n S) (hs : Hsat (jbH b J m n t s) w) (hm : m ≤ 200) (hn : n ≤ 200) (htm : t ≤ m) (htn : t ≤ n) (hK : K ≤ 90000000) (hb : okG K S.d = true) :
  Calls Tryz.prog 128 #[.pointer (some ⟨b, 0, none⟩)] w (Ret fun v w' => Kp [] w w' ∧ v = .tuple #[rwV (leastF S t m n), clV (leastF S t m n), .bool (leastF S t m n).2.2]) := by
 have hM := QC hs
 refine Q8 [] (keys (jbH b J m n t s)) hM (jbH b J m n t s) Tryz.func128 rfl mixed (by kernel_rfl) Tryz.ntmps128 Tryz.results128 rfl hs (fun p hp => List.mem_map.2 ⟨p, hp, rfl⟩) ?_
 simp only [toS, textOps, toSOp, kindAt, kindOf, odAt, sopsAt, ordOf, zipF]
 unfold jbH jbC
 repeat' first | apply jS | apply jO | apply jN | apply jT | refine Q1 ?_ | refine Q2 ?_ | refine Q0 ?_ | refine Q7 ?_ | refine Q6 ?_ | apply jB
 refine Qj (ι := Nat × Nat × Nat × Bool) ⟨fun z => [(7, nv z.1), (5, rwV z.2), (6, clV z.2), (2, iv 0), (3, iv 0), (4, .bool false), (0, .pointer (some ⟨b, 0, none⟩))], fun _ => jbH b J m n t s,
  fun z => t ≤ z.1 ∧ z.1 ≤ m ∧ (z.2.2.2 = true → z.2.1 < m ∧ z.2.2.1 < n) ∧ leastF S t m n = (List.range' z.1 (m - z.1)).foldl (lsRow S t n) z.2, fun z => m - z.1⟩ (t, 0, 0, false) ⟨Nat.le_refl _, htm, fun h => (by cases h), rfl⟩ cqq (HSub.refl _) (fun z hz => ?_)
 obtain ⟨i, x, y, fl⟩ := z
 obtain ⟨hti, him, hin, hls⟩ := hz
 dsimp only at hti him hin hls ⊢
 unfold jbH jbC
 by_cases hlt : i < m
 ·rw [QH hlt, List.foldl_cons] at hls
  repeat' first | apply jS | apply jO | apply jN | apply jT | refine Q1 ?_ | refine Q2 ?_ | refine Q0 ?_ | refine Q7 ?_ | refine Q6 ?_ | (refine Qi (h1 := ?_) (h2 := ?_) <;> intro hc <;> try (exfalso; omega)) | apply jK | refine Q5 rfl ?_ | apply jB
  refine Qj (ι := Nat × Nat × Nat × Bool) ⟨fun z => [(8, nv z.1), (7, nv i), (5, rwV z.2), (6, clV z.2), (2, iv 0), (3, iv 0), (4, .bool false), (0, .pointer (some ⟨b, 0, none⟩))], fun _ => jbH b J m n t s,
   fun z => t ≤ z.1 ∧ z.1 ≤ n ∧ (z.2.2.2 = true → z.2.1 < m ∧ z.2.2.1 < n) ∧ leastF S t m n = (List.range' (i + 1) (m - (i + 1))).foldl (lsRow S t n) ((List.range' z.1 (n - z.1)).foldl (lsAt S i) z.2), fun z => n - z.1⟩ (t, x, y, fl) ⟨Nat.le_refl _, htn, hin, hls⟩ cqq (HSub.refl _) (fun z hz => ?_)
  clear hls hin
  obtain ⟨j, x, y, fl⟩ := z
  obtain ⟨htj, hjn, hin, hls⟩ := hz
  dsimp only at htj hjn hin hls ⊢
  unfold jbH jbC
  by_cases hjt : j < n
  ·rw [QH hjt, List.foldl_cons] at hls
   have hx : (gE S.d i j).natAbs < 256 ^ K := QW hb _ _
   repeat' first | apply jS | apply jO | apply jN | apply jT | refine Q1 ?_ | refine Q2 ?_ | refine Q7 ?_ | refine Q6 ?_ | (refine Qi (h1 := ?_) (h2 := ?_) <;> intro hc <;> try (exfalso; omega)) | apply jK | refine Q5 rfl ?_ | apply jB
   refine Qb pqq rfl eqq rfl (fun w _ hs => Yd w b J m n t s S i j hJ hs hlt hjt hm hn) fun w v w' _ _ _ hR => ?_
   subst hR
   repeat' first | apply jS | apply jD | apply jN | refine Q1 ?_ | refine Q2 ?_ | refine Q7 ?_ | refine Q3 ?_ | refine Yg (h := ?_) | refine Qf fun _ => ?_ | refine Q3 ?_ | apply jT
   rename_i bx
   have hmg : decide (magU (gE S.d i j).natAbs ≠ []) = decide (gE S.d i j ≠ 0) := decide_eq_decide.2 (not_congr (magU_nil.trans Int.natAbs_eq_zero))
   rw [hmg]
   by_cases hz : gE S.d i j = 0
   ·have h1 : lsAt S i (x, y, fl) j = (x, y, fl) := by unfold lsAt; rw [if_neg (fun h => h.1 hz)]
    rw [h1] at hls
    rw [show decide (gE S.d i j ≠ 0) = false from decide_eq_false (fun h => h hz)]
    repeat' first | apply jO | apply jN | apply jT | refine Q1 ?_ | refine Q0 ?_ | refine Qe ?_ | refine Qn ?_ | apply jK | refine Q4 rfl ?_ | refine Qy (h := ?_) | apply jW
    exact Qa (j + 1, x, y, fl) ⟨by dsimp only; omega, by dsimp only; omega, hin, hls⟩ dgq cqq (by exact HSub.skip (HSub.refl _))
   ·rw [show decide (gE S.d i j ≠ 0) = true from decide_eq_true hz]
    cases fl with
    | false =>
     have h1 : lsAt S i (x, y, false) j = (i, j, true) := by unfold lsAt; rw [if_pos ⟨hz, .inl rfl⟩]
     rw [h1] at hls
     rw [show rwV (x, y, false) = iv (-1) from rfl]
     repeat' first | apply jS | apply jO | apply jN | apply jT | refine Q1 ?_ | refine Q0 ?_ | refine Qe ?_ | refine Ql ?_ | (refine Qi (h1 := ?_) (h2 := ?_) <;> intro hc <;> try (exfalso; omega)) | refine Q5 rfl ?_ | refine Qy (h := ?_) | apply jW
     exact Qa (j + 1, i, j, true) ⟨by dsimp only; omega, by dsimp only; omega, fun _ => ⟨hlt, hjt⟩, hls⟩ dgq cqq (by exact HSub.skip (HSub.refl _))
    | true =>
     obtain ⟨hxm, hyn⟩ := hin rfl
     rw [show rwV (x, y, true) = nv x from rfl, show clV (x, y, true) = nv y from rfl]
     repeat' first | refine Q1 ?_ | refine Qg ?_ | (refine Qi (h1 := ?_) (h2 := ?_) <;> intro hc <;> try (exfalso; omega)) | fail
     refine Qb pqq rfl eqq rfl (fun w _ hs => Yd w b J m n t s S x y hJ ((HSub.skip (HSub.refl _)).hsat hs) hxm hyn hm hn) fun w v w' _ _ _ hR => ?_
     subst hR
     skip
     refine Qb pqq rfl eqq rfl (fun w _ _ => Qe3 K w (gE S.d i j) (gE S.d x y) hK hx (QW hb _ _)) fun w v w' _ _ _ hR => ?_
     subst hR
     by_cases hq : (gE S.d i j).natAbs < (gE S.d x y).natAbs
     ·have h1 : lsAt S i (x, y, true) j = (i, j, true) := by unfold lsAt; rw [if_pos ⟨hz, .inr hq⟩]
      rw [h1] at hls
      rw [show decide ((gE S.d i j).natAbs < (gE S.d x y).natAbs) = true from decide_eq_true hq]
      repeat' first | apply jS | apply jO | apply jN | apply jT | refine Q1 ?_ | refine Q0 ?_ | refine Qe ?_ | refine Ql ?_ | refine Qn ?_ | refine Q5 rfl ?_ | apply jW
      exact Qa (j + 1, i, j, true) ⟨by dsimp only; omega, by dsimp only; omega, fun _ => ⟨hlt, hjt⟩, hls⟩ dgq cqq (by exact HSub.skip (HSub.refl _))
     ·have h1 : lsAt S i (x, y, true) j = (x, y, true) := by
       unfold lsAt
       rw [if_neg]
       rintro ⟨_, h | h⟩
       ·cases h
       ·exact hq h
      rw [h1] at hls
      rw [show decide ((gE S.d i j).natAbs < (gE S.d x y).natAbs) = false from decide_eq_false hq]
      repeat' first | apply jO | apply jN | apply jT | refine Q1 ?_ | refine Q0 ?_ | refine Qe ?_ | refine Ql ?_ | refine Qn ?_ | apply jK | refine Q4 rfl ?_ | apply jW
      exact Qa (j + 1, x, y, true) ⟨by dsimp only; omega, by dsimp only; omega, hin, hls⟩ dgq cqq (by exact HSub.skip (HSub.refl _))
  ·rw [show n - j = 0 by omega] at hls
   repeat' first | apply jS | apply jO | apply jN | apply jT | refine Q1 ?_ | refine Q2 ?_ | refine Q0 ?_ | refine Q7 ?_ | refine Qe ?_ | refine Q6 ?_ | (refine Qi (h1 := ?_) (h2 := ?_) <;> intro hc <;> try (exfalso; omega)) | apply jU | apply jE | refine Q4 rfl ?_ | apply jW | refine Qc ?_
   exact Qa (i + 1, x, y, fl) ⟨by dsimp only; omega, by dsimp only; omega, hin, hls⟩ dgq cqq (HSub.refl _)
 ·rw [show m - i = 0 by omega] at hls
  have hls : leastF S t m n = (x, y, fl) := hls
  rw [hls]
  cases fl with
  | true =>
   rw [show rwV (x, y, true) = nv x from rfl, show clV (x, y, true) = nv y from rfl]
   repeat' first | apply jS | apply jO | apply jN | apply jT | refine Q1 ?_ | refine Q2 ?_ | refine Q0 ?_ | refine Q7 ?_ | refine Q6 ?_ | (refine Qi (h1 := ?_) (h2 := ?_) <;> intro hc <;> try (exfalso; omega)) | (refine Zu (h1 := ?_) (h2 := ?_) <;> intro hc <;> try (exfalso; omega)) | apply jU | apply jE | apply jR | refine Q4 rfl ?_ | refine Qc ?_
   all_goals first
    | (exfalso; omega)
    | exact Yp [nv x, nv y, .bool true] ⟨rfl, rfl, rfl, trivial⟩ (fun a w' st => ⟨Z1 hs st.kp (fun p hp => st.hs.blk p hp), rfl⟩)
  | false =>
   rw [show rwV (x, y, false) = iv (-1) from rfl, show clV (x, y, false) = iv (-1) from rfl]
   repeat' first | apply jS | apply jO | apply jN | apply jT | refine Q1 ?_ | refine Q2 ?_ | refine Q0 ?_ | refine Q7 ?_ | refine Q6 ?_ | (refine Qi (h1 := ?_) (h2 := ?_) <;> intro hc <;> try (exfalso; omega)) | (refine Zu (h1 := ?_) (h2 := ?_) <;> intro hc <;> try (exfalso; omega)) | apply jU | apply jE | apply jR | refine Q4 rfl ?_ | refine Qc ?_
   all_goals first
    | (exfalso; omega)
    | exact Yp [iv (-1), iv (-1), .bool false] ⟨rfl, rfl, rfl, trivial⟩ (fun a w' st => ⟨Z1 hs st.kp (fun p hp => st.hs.blk p hp), rfl⟩)


section
variable {c : Cx} {Q : Exit → Act → World → Prop} {m : Mode} {F : SFrame} {H : SHeap} {r : List SOp} {g : Option (Option Tmp × Bool)} {ns : Bool} {d : Tmp} {ty t t' : TypeId} {x y : Operand}
theorem Qz {b o : Nat} (k : Nat) {cs : Array Value} {x1 x2 x3 : Value} {T : TypeId} {fz : Nat × Nat} [TN c.P t 3] (hd : dstOk c.n (some d) = true) (hg : guardF F g = some true) (hx : ev F x = some (.pointer (some ⟨b, o, none⟩))) (hl : m.live = true)
  (hb : (m.src H)[k]? = some (b, .cells cs T fz)) (h1 : cs[o]? = some x1) (h2 : cs[o + 1]? = some x2) (h3 : cs[o + 2]? = some x3) (h : JO c Q m r ((d, (.agg #[x1, x2, x3])) :: F) H) : JO c Q m (⟨some d, .load t x, ty, g, .ld, ns⟩ :: r) F H :=
 Qgi k hd hg hx hl hb (vs := #[x1, x2, x3]) rfl (fun j hj => by
  match j, hj with
  | 0, _ => exact h1
  | 1, _ => exact h2
  | 2, _ => exact h3) h
theorem Zd {A N B : SHeap} {f : FuncId} {args : Array Operand} {ats : Array TypeId} {vs : List Value} {dd : Option Tmp} {v : Value} {rr cc : Nat} {G : Mi} [TF c.P f] (hH : H = A ++ (N ++ B)) (hm : m.mayStore ns r) (hd : dstOk c.n dd = true) (hg : guardF F g = some true) (ha : evArgs F args.toList = some vs)
  (hc : ∀ w, Hsat N w → Calls c.P f vs.toArray w (Ret fun _ w' => FlatR N v rr cc G w w'))
  (h : ∀ u N', keys N' = keys N → OwnZ N' v (rr * cc) (tbz rr cc G) → JO c Q m.spent r (putF F dd u) (A ++ (N' ++ B))) :
  JO c Q m (⟨dd, .call ⟨.value (.func f), args, ats⟩, ty, g, .seq, ns⟩ :: r) F H :=
 XT (A := A) (N := N) (B := B) hH hm hd hg ha (fun w _ hs => hc w (HSub.hsat (by rw [hH]; exact (HSub.in0.trans (Qh (HSub.refl _)))) hs)) (fun w u w' _ _ _ hR => by
  obtain ⟨N', hk, hin, hO⟩ := hR
  exact ⟨N', hk, hin, h u N' hk hO⟩)
theorem Q76 {A N B Hs : SHeap} {f : FuncId} {args : Array Operand} {ats : Array TypeId} {vs : List Value} {dd : Option Tmp} {v : Value} {rr cc : Nat} {G : Mi} [TF c.P f] (hH : H = A ++ (N ++ B)) (hHs : HSub Hs (A ++ B)) (hd : dstOk c.n dd = true) (hg : guardF F g = some true) (ha : evArgs F args.toList = some vs)
  (hc : ∀ w, Hsat N w → Calls c.P f vs.toArray w (Ret fun _ w' => FlatR N v rr cc G w w'))
  (h : ∀ u N', keys N' = keys N → OwnZ N' v (rr * cc) (tbz rr cc G) → JO c Q (.draw Hs true) r (putF F dd u) (A ++ (N' ++ B))) :
  JO c Q (.draw Hs true) (⟨dd, .call ⟨.value (.func f), args, ats⟩, ty, g, .seq, ns⟩ :: r) F H :=
 Qd7 (A := A) (N := N) (B := B) hH hHs hd hg ha (fun w _ hs => hc w (HSub.hsat (by rw [hH]; exact (HSub.in0.trans (Qh (HSub.refl _)))) hs)) (fun w u w' _ _ _ hR => by
  obtain ⟨N', hk, hin, hO⟩ := hR
  exact ⟨N', hk, hin, h u N' hk hO⟩)
end

set_option maxHeartbeats 1000000 in
theorem Q14 (K : Nat) (w : World) (b : Nat) (J : JV) (m n t : Nat) (s : Int) (S : Sm) (hJ : IsJ J m n S) (hs : Hsat (jbH b J m n t s) w) (hm : m ≤ 200) (hn : n ≤ 200) (htm : t ≤ m) (htn : t ≤ n) (hK : K ≤ 90000000) (hb : okG K S.d = true) :
  Calls Tryz.prog 64 #[.pointer (some ⟨b, 0, none⟩)] w (Ret fun v w' => Kp [] w w' ∧ v = .bool (!(leastF S t m n).2.2)) := by
 refine Q8 [] [] spq [] Tryz.func64 rfl mixed (by kernel_rfl) Tryz.ntmps64 Tryz.results64 rfl ⟨by simp, by simp⟩ spq ?_
 simp only [toS, textOps, toSOp, kindAt, kindOf, odAt, sopsAt, ordOf, zipF]
 repeat' first | apply jS | apply jO | apply jN | refine Q1 ?_ | refine Q0 ?_ | apply jT
 refine Qb pqq rfl eqq rfl (fun w' hk _ => Q5b K w' b J m n t s S hJ (hs.kp hk (fun _ _ h => by cases h)) hm hn htm htn hK hb) fun w v w' _ _ _ hR => ?_
 subst hR
 repeat' first | apply jS | apply jO | apply jN | apply jT | refine Q1 ?_ | refine Q0 ?_ | refine QT (h := ?_) | refine Qo (h := ?_) | apply jR
 exact Qd rfl (fun a w' st => ⟨st.kp, rfl⟩)

theorem Qf7 {r c i k a b : Nat} {f : Int} {g : List (List Int)} (h : Rec r c g) (hi : i < r) (hk : k < r) (hik : i ≠ k) (hb : b < c) : (if a = i ∧ b < c then gE g i b + f * gE g k b else gE g a b) = gE (rowsL i k (aT f) g) a b := by
 rw [XW h hi hk hb]
 by_cases e1 : a = k
 ·subst e1
  rw [if_neg (fun x => hik x.1.symm), if_pos rfl]
  show _ = 0 * gE g i b + 1 * gE g a b
  omega
 ·rw [if_neg e1]
  by_cases e : a = i
  ·rw [if_pos ⟨e, hb⟩, if_pos e]
   show _ = 1 * gE g i b + f * gE g k b
   omega
  ·rw [if_neg (fun x => e x.1), if_neg e]
theorem Qf9 {r c i k a b : Nat} {f : Int} {g : List (List Int)} (h : Rec r c g) (hi : i < c) (hk : k < c) (hik : i ≠ k) (ha : a < r) : (if b = i ∧ a < r then gE g a i + f * gE g a k else gE g a b) = gE (colsL i k (aT f) g) a b := by
 rw [XX h hi hk ha]
 by_cases e1 : b = k
 ·subst e1
  rw [if_neg (fun x => hik x.1.symm), if_pos rfl]
  show _ = 0 * gE g a i + 1 * gE g a b
  omega
 ·rw [if_neg e1]
  by_cases e : b = i
  ·rw [if_pos ⟨e, ha⟩, if_pos e]
   show _ = 1 * gE g a i + f * gE g a k
   omega
  ·rw [if_neg (fun x => e x.1), if_neg e]
theorem Qhj {r c i k a b : Nat} {f : Int} {g : List (List Int)} (h : Rec r c g) (hi : i < c) (hk : k < c) (hik : i ≠ k) (ha : a < r) : (if b = k ∧ a < r then gE g a k + -f * gE g a i else gE g a b) = gE (colsL i k (aT f).flip g) a b := by
 rw [XX h hi hk ha]
 by_cases e1 : b = k
 ·subst e1
  rw [if_pos ⟨rfl, ha⟩, if_pos rfl]
  show _ = -f * gE g a i + 1 * gE g a b
  omega
 ·rw [if_neg e1, if_neg (fun x => e1 x.1)]
  by_cases e : b = i
  ·subst e
   rw [if_pos rfl]
   show _ = 1 * gE g a b + -0 * gE g a k
   omega
  ·rw [if_neg e]
theorem Qhi {r c i k a b : Nat} {f : Int} {g : List (List Int)} (h : Rec r c g) (hi : i < r) (hk : k < r) (hik : i ≠ k) (hb : b < c) : (if a = k ∧ b < c then gE g k b + -f * gE g i b else gE g a b) = gE (rowsL i k (aT f).flip g) a b := by
 rw [XW h hi hk hb]
 by_cases e1 : a = k
 ·subst e1
  rw [if_pos ⟨rfl, hb⟩, if_pos rfl]
  show _ = -f * gE g i b + 1 * gE g a b
  omega
 ·rw [if_neg e1, if_neg (fun x => e1 x.1)]
  by_cases e : a = i
  ·subst e
   rw [if_pos rfl]
   show _ = 1 * gE g a b + -0 * gE g k b
   omega
  ·rw [if_neg e]

set_option maxHeartbeats 8000000 in
theorem Q5a (K L : Nat) (w : World) (b : Nat) (J : JV) (m n : Nat) (t s : Int) (S : Sm) (i k : Nat) (f : Int) (hJ : IsJ J m n S) (hD : Dm m n S) (hs : Hsat (jbH b J m n t s) w) (hi : i < m) (hk : k < m) (hik : i ≠ k) (hm : m ≤ 200) (hn : n ≤ 200) (hK : K + L ≤ 42000000) (hb : Ok K S) (hf : f.natAbs < 256 ^ L) :
  Calls Tryz.prog 131 #[.pointer (some ⟨b, 0, none⟩), nv i, nv k, Wv f] w (Ret fun _ w' => JbR b J m n t s t s (S.rows i k (aT f)) w w') := by
 have hM := QC hs
 have hfn : (-f).natAbs < 256 ^ L := by rw [Int.natAbs_neg]; exact hf
 refine Q8 [⟨1, 1, [], []⟩, ⟨2, 1, [], []⟩] (keys (jbH b J m n t s)) hM (jbH b J m n t s) Tryz.func131 rfl mixed (by kernel_rfl) Tryz.ntmps131 Tryz.results131 rfl hs (fun p hp => List.mem_map.2 ⟨p, hp, rfl⟩) ?_
 simp only [toS, textOps, toSOp, kindAt, kindOf, odAt, sopsAt, ordOf, zipF]
 unfold jbH jbC
 repeat' first | apply jS | apply jO | apply jD | apply jN | refine Q1 ?_ | refine Q2 ?_ | refine Q6 ?_ | refine QB (h := fun _ => ?_) | apply jT
 rename_i b7
 refine Qz 1 rfl rfl rfl rfl rfl rfl rfl rfl ?_
 repeat' first | refine Q1 ?_ | refine Qg ?_ | fail
 refine Zd (A := _ :: _ :: (J.u.N ++ J.ui.N)) (N := J.d.N) (B := J.v.N ++ (J.vi.N ++ [])) (by simp only [List.append_assoc, List.cons_append, List.nil_append]; rfl) pqq rfl eqq rfl (fun w hs => YP K L w J.d.A J.d.c J.d.N m n i k f (gE S.d) hJ.d hs hi hk hm hn hK hf (fun a b' _ _ => QW hb.d a b')) (fun u Nd hkNd hONd => ?_)
 simp only [List.append_assoc, List.cons_append, List.nil_append]
 repeat' first | apply jS | apply jD | apply jN | refine Q1 ?_ | refine Q2 ?_ | refine Q6 ?_ | apply jT
 refine Qz 1 rfl rfl rfl rfl rfl rfl rfl rfl ?_
 repeat' first | refine Q1 ?_ | refine Qg ?_ | fail
 refine Zd (A := _ :: _ :: []) (N := J.u.N) (B := J.ui.N ++ (Nd ++ (J.v.N ++ (J.vi.N ++ [])))) (by simp only [List.append_assoc, List.cons_append, List.nil_append]; rfl) pqq rfl eqq rfl (fun w hs => YP K L w J.u.A J.u.c J.u.N m m i k f (gE S.u) hJ.u hs hi hk hm hm hK hf (fun a b' _ _ => QW hb.u a b')) (fun u Nu hkNu hONu => ?_)
 simp only [List.append_assoc, List.cons_append, List.nil_append]
 repeat' first | apply jN | apply jT
 refine Q15 [(b7, .cells #[.bool (decide (f < 0)), sv (magU f.natAbs)] 75 (0, 0)), (b, .cells #[nv m, nv m, .slice J.u.A (m * m) J.u.c, nv m, nv m, .slice J.ui.A (m * m) J.ui.c, nv m, nv n, .slice J.d.A (m * n) J.d.c, nv n, nv n, .slice J.v.A (n * n) J.v.c, nv n, nv n, .slice J.vi.A (n * n) J.vi.c, iv t, iv s] 72 (0, 0))] (HSub.at 0 rfl (HSub.at 0 rfl (HSub.nil _))) ?_
 repeat' first | refine Q1 ?_ | refine Q2 ?_ | refine Q6 ?_ | fail
 refine Qz 1 rfl rfl rfl rfl rfl rfl rfl rfl ?_
 repeat' first | refine Q1 ?_ | refine Qg ?_ | fail
 refine Qb pqq rfl eqq rfl (fun w _ _ => Q7z w _ f L (Qq hf) oq) fun w v w' _ _ _ hR => ?_
 subst hR
 skip
 refine Q76 (A := _ :: _ :: Nu) (N := J.ui.N) (B := Nd ++ (J.v.N ++ (J.vi.N ++ []))) (by simp only [List.append_assoc, List.cons_append, List.nil_append]) (HSub.at 0 rfl (HSub.at 0 rfl (HSub.nil _))) rfl eqq rfl (fun w hs => Xw K L w J.ui.A J.ui.c J.ui.N m m k i (-f) (gE S.ui) hJ.ui hs hk hi hm hm hK hfn (fun a b' _ _ => QW hb.ui a b')) (fun u Nui hkNui hONui => ?_)
 simp only [List.append_assoc, List.cons_append, List.nil_append]
 repeat' first | apply jN
 rw [Qm (fun a b' _ hb' => Qf7 hD.d hi hk hik hb')] at hONd
 rw [Qm (fun a b' _ hb' => Qf7 hD.u hi hk hik hb')] at hONu
 rw [Qm (fun a b' ha _ => Qhj hD.ui hi hk hik ha)] at hONui
 refine Zg (fun a w' st => ⟨st.kp, ⟨⟨J.u.A, J.u.c, Nu⟩, ⟨J.ui.A, J.ui.c, Nui⟩, ⟨J.d.A, J.d.c, Nd⟩, J.v, J.vi⟩, ?_, fun p hp => st.hs.blk p (List.mem_cons_of_mem _ hp), ⟨hONu, hONui, hONd, hJ.v, hJ.vi⟩, ⟨⟨rfl, rfl⟩, ⟨rfl, rfl⟩, ⟨rfl, rfl⟩, ⟨rfl, rfl⟩, ⟨rfl, rfl⟩⟩⟩)
 unfold jbH keys at *
 simp only [List.map_cons, List.map_append, hkNd, hkNu, hkNui]

set_option maxHeartbeats 8000000 in
theorem Qbr (K L : Nat) (w : World) (b : Nat) (J : JV) (m n : Nat) (t s : Int) (S : Sm) (i k : Nat) (f : Int) (hJ : IsJ J m n S) (hD : Dm m n S) (hs : Hsat (jbH b J m n t s) w) (hi : i < n) (hk : k < n) (hik : i ≠ k) (hm : m ≤ 200) (hn : n ≤ 200) (hK : K + L ≤ 42000000) (hb : Ok K S) (hf : f.natAbs < 256 ^ L) :
  Calls Tryz.prog 133 #[.pointer (some ⟨b, 0, none⟩), nv i, nv k, Wv f] w (Ret fun _ w' => JbR b J m n t s t s (S.cols i k (aT f)) w w') := by
 have hM := QC hs
 have hfn : (-f).natAbs < 256 ^ L := by rw [Int.natAbs_neg]; exact hf
 refine Q8 [⟨1, 1, [], []⟩, ⟨2, 1, [], []⟩] (keys (jbH b J m n t s)) hM (jbH b J m n t s) Tryz.func133 rfl mixed (by kernel_rfl) Tryz.ntmps133 Tryz.results133 rfl hs (fun p hp => List.mem_map.2 ⟨p, hp, rfl⟩) ?_
 simp only [toS, textOps, toSOp, kindAt, kindOf, odAt, sopsAt, ordOf, zipF]
 unfold jbH jbC
 repeat' first | apply jS | apply jO | apply jD | apply jN | refine Q1 ?_ | refine Q2 ?_ | refine Q6 ?_ | refine QB (h := fun _ => ?_) | apply jT
 rename_i b7
 refine Qz 1 rfl rfl rfl rfl rfl rfl rfl rfl ?_
 repeat' first | refine Q1 ?_ | refine Qg ?_ | fail
 refine Zd (A := _ :: _ :: (J.u.N ++ J.ui.N)) (N := J.d.N) (B := J.v.N ++ (J.vi.N ++ [])) (by simp only [List.append_assoc, List.cons_append, List.nil_append]; rfl) pqq rfl eqq rfl (fun w hs => Xw K L w J.d.A J.d.c J.d.N m n i k f (gE S.d) hJ.d hs hi hk hm hn hK hf (fun a b' _ _ => QW hb.d a b')) (fun u Nd hkNd hONd => ?_)
 simp only [List.append_assoc, List.cons_append, List.nil_append]
 repeat' first | apply jS | apply jD | apply jN | refine Q1 ?_ | refine Q2 ?_ | refine Q6 ?_ | apply jT
 refine Qz 1 rfl rfl rfl rfl rfl rfl rfl rfl ?_
 repeat' first | refine Q1 ?_ | refine Qg ?_ | fail
 refine Zd (A := _ :: _ :: (J.u.N ++ (J.ui.N ++ Nd))) (N := J.v.N) (B := J.vi.N ++ []) (by simp only [List.append_assoc, List.cons_append, List.nil_append]; rfl) pqq rfl eqq rfl (fun w hs => Xw K L w J.v.A J.v.c J.v.N n n i k f (gE S.v) hJ.v hs hi hk hn hn hK hf (fun a b' _ _ => QW hb.v a b')) (fun u Nv hkNv hONv => ?_)
 simp only [List.append_assoc, List.cons_append, List.nil_append]
 repeat' first | apply jN | apply jT
 refine Q15 [(b7, .cells #[.bool (decide (f < 0)), sv (magU f.natAbs)] 75 (0, 0)), (b, .cells #[nv m, nv m, .slice J.u.A (m * m) J.u.c, nv m, nv m, .slice J.ui.A (m * m) J.ui.c, nv m, nv n, .slice J.d.A (m * n) J.d.c, nv n, nv n, .slice J.v.A (n * n) J.v.c, nv n, nv n, .slice J.vi.A (n * n) J.vi.c, iv t, iv s] 72 (0, 0))] (HSub.at 0 rfl (HSub.at 0 rfl (HSub.nil _))) ?_
 repeat' first | refine Q1 ?_ | refine Q2 ?_ | refine Q6 ?_ | fail
 refine Qz 1 rfl rfl rfl rfl rfl rfl rfl rfl ?_
 repeat' first | refine Q1 ?_ | refine Qg ?_ | fail
 refine Qb pqq rfl eqq rfl (fun w _ _ => Q7z w _ f L (Qq hf) oq) fun w v w' _ _ _ hR => ?_
 subst hR
 skip
 refine Q76 (A := _ :: _ :: (J.u.N ++ (J.ui.N ++ (Nd ++ Nv)))) (N := J.vi.N) (B := []) (by simp only [List.append_assoc, List.cons_append, List.nil_append]) (HSub.at 0 rfl (HSub.at 0 rfl (HSub.nil _))) rfl eqq rfl (fun w hs => YP K L w J.vi.A J.vi.c J.vi.N n n k i (-f) (gE S.vi) hJ.vi hs hk hi hn hn hK hfn (fun a b' _ _ => QW hb.vi a b')) (fun u Nvi hkNvi hONvi => ?_)
 simp only [List.append_assoc, List.cons_append, List.nil_append]
 repeat' first | apply jN
 rw [Qm (fun a b' ha _ => Qf9 hD.d hi hk hik ha)] at hONd
 rw [Qm (fun a b' ha _ => Qf9 hD.v hi hk hik ha)] at hONv
 rw [Qm (fun a b' _ hb' => Qhi hD.vi hi hk hik hb')] at hONvi
 refine Zg (fun a w' st => ⟨st.kp, ⟨J.u, J.ui, ⟨J.d.A, J.d.c, Nd⟩, ⟨J.v.A, J.v.c, Nv⟩, ⟨J.vi.A, J.vi.c, Nvi⟩⟩, ?_, fun p hp => st.hs.blk p (List.mem_cons_of_mem _ hp), ⟨hJ.u, hJ.ui, hONd, hONv, hONvi⟩, ⟨⟨rfl, rfl⟩, ⟨rfl, rfl⟩, ⟨rfl, rfl⟩, ⟨rfl, rfl⟩, ⟨rfl, rfl⟩⟩⟩)
 unfold jbH keys at *
 simp only [List.map_cons, List.map_append, hkNd, hkNv, hkNvi]


section
variable {c : Cx} {Q : Exit → Act → World → Prop} {md : Mode} {F : SFrame} {H : SHeap} {r : List SOp} {g : Option (Option Tmp × Bool)} {ns : Bool} {ty : TypeId}
theorem XU {A : SHeap} {f : FuncId} {args : Array Operand} {ats : Array TypeId} {vs : List Value} {R : Value → Prop} {dd : Option Tmp} {b m n : Nat} {J : JV} {t s t' s' : Int} {S' : Sm} [TF c.P f] (hH : H = A ++ jbH b J m n t s) (hm : md.mayStore ns r) (hd : dstOk c.n dd = true) (hg : guardF F g = some true) (ha : evArgs F args.toList = some vs)
  (hc : ∀ w, Hsat (jbH b J m n t s) w → Calls c.P f vs.toArray w (Ret fun v w' => JbR b J m n t s t' s' S' w w' ∧ R v))
  (h : ∀ v J', keys (jbH b J' m n t' s') = keys (jbH b J m n t s) → IsJ J' m n S' → SameF J J' → R v → JO c Q md.spent r (putF F dd v) (A ++ jbH b J' m n t' s')) :
  JO c Q md (⟨dd, .call ⟨.value (.func f), args, ats⟩, ty, g, .seq, ns⟩ :: r) F H :=
 XT (A := A) (N := jbH b J m n t s) (B := []) (by rw [hH, List.append_nil]) hm hd hg ha (R := fun w v w' => (∃ J', keys (jbH b J' m n t' s') = keys (jbH b J m n t s) ∧ InW (jbH b J' m n t' s') w' ∧ IsJ J' m n S' ∧ SameF J J') ∧ R v)
  (fun w _ hs => (hc w (HSub.hsat (by rw [hH]; exact Qh (HSub.refl _)) hs)).mono fun e w' he => by
   cases e with
   | panicked _ => exact he.elim
   | outgrown => exact he.elim
   | returned v => exact ⟨he.1.1, he.1.2, he.2⟩) (fun w v w' _ _ _ hR => by
  obtain ⟨⟨J', hk, hin, hJ, hf⟩, hv⟩ := hR
  refine ⟨jbH b J' m n t' s', hk, hin, ?_⟩
  rw [List.append_nil]
  exact h v J' hk hJ hf hv)
end

set_option maxHeartbeats 1000000 in
theorem Q7t (K : Nat) (w : World) (b : Nat) (J : JV) (m n t : Nat) (s : Int) (S : Sm) (x : Int) (hJ : IsJ J m n S) (hs : Hsat (jbH b J m n t s) w) (hm : m ≤ 200) (hn : n ≤ 200) (htm : t < m) (htn : t < n) (hK : K ≤ 42000000) (hb : okG K S.d = true) (hx : x.natAbs < 256 ^ K) (hp : gE S.d t t ≠ 0) :
  Calls Tryz.prog 132 #[.pointer (some ⟨b, 0, none⟩), Wv x] w (Ret fun v w' => Kp [] w w' ∧ v = Wv (-(x / gE S.d t t))) := by
 have hM := QC hs
 refine Q8 [⟨1, 3, [], []⟩] (keys (jbH b J m n t s)) hM (jbH b J m n t s) Tryz.func132 rfl mixed (by kernel_rfl) Tryz.ntmps132 Tryz.results132 rfl hs (fun p hp => List.mem_map.2 ⟨p, hp, rfl⟩) ?_
 simp only [toS, textOps, toSOp, kindAt, kindOf, odAt, sopsAt, ordOf, zipF]
 unfold jbH jbC
 repeat' first | apply jS | apply jO | apply jD | apply jN | refine Q1 ?_ | refine Q2 ?_ | refine Q7 ?_ | refine Qg ?_ | refine Q6 ?_ | refine Qf fun _ => ?_ | refine QB (h := fun _ => ?_) | apply jT
 refine Qb pqq rfl eqq rfl (fun w _ hs => Yd w b J m n t s S t t hJ ((HSub.skip (HSub.skip (HSub.refl _))).hsat hs) htm htn hm hn) fun w v w' _ _ _ hR => ?_
 subst hR
 skip
 refine Qb pqq rfl eqq rfl (fun w _ _ => Qbv w _ _ x (gE S.d t t) K (Qq hx) (Qq (QW hb _ _)) oq) fun w v w' _ _ _ hR => ?_
 rw [if_neg hp] at hR
 subst hR
 repeat' first | apply jS | apply jO | apply jN | refine Q1 ?_ | refine Q0 ?_ | refine Qg ?_ | refine Qo (h := ?_) | refine Q3 ?_ | refine Qf fun _ => ?_ | refine Q3 ?_ | apply jT
 refine Qb pqq rfl eqq rfl (fun w _ _ => Q7z w _ (x / gE S.d t t) K (Qq (Nat.lt_of_le_of_lt (Int.natAbs_ediv_le_natAbs _ _) hx)) oq) fun w v w' _ _ _ hR => ?_
 subst hR
 repeat' first | apply jN | apply jT | refine Q3 ?_ | refine Q3 ?_ | apply jR
 exact QG 2 rfl rfl rfl (fun a w' st => ⟨Z1 hs st.kp (fun p hp => st.hs.blk p (List.mem_cons_of_mem _ (List.mem_cons_of_mem _ (List.mem_cons_of_mem _ (List.mem_cons_of_mem _ hp))))), rfl⟩)

theorem Q8o {r c i k a b : Nat} {g : List (List Int)} (h : Rec r c g) (hi : i < r) (hk : k < r) (hb : b < c) : (if a = k ∧ b < c then gE g i b else if a = i ∧ b < c then gE g k b else gE g a b) = gE (exL i k g) a b := by
 rw [Q20 h hi hk]
 unfold exN
 by_cases e1 : a = k
 ·rw [if_pos ⟨e1, hb⟩, if_pos e1]
 ·rw [if_neg (fun x => e1 x.1), if_neg e1]
  by_cases e2 : a = i
  ·rw [if_pos ⟨e2, hb⟩, if_pos e2]
  ·rw [if_neg (fun x => e2 x.1), if_neg e2]
theorem Q8p {r c i k a b : Nat} {g : List (List Int)} (h : Rec r c g) (hi : i < c) (hk : k < c) (ha : a < r) : (if b = k ∧ a < r then gE g a i else if b = i ∧ a < r then gE g a k else gE g a b) = gE (exK i k g) a b := by
 rw [Q0g h hi hk ha]
 unfold exN
 by_cases e1 : b = k
 ·rw [if_pos ⟨e1, ha⟩, if_pos e1]
 ·rw [if_neg (fun x => e1 x.1), if_neg e1]
  by_cases e2 : b = i
  ·rw [if_pos ⟨e2, ha⟩, if_pos e2]
  ·rw [if_neg (fun x => e2 x.1), if_neg e2]
theorem Q31 {r c t a b : Nat} {g : List (List Int)} (h : Rec r c g) (ht : t < r) : gE g a b = gE (exL t t g) a b := by
 rw [Q20 h ht ht]
 unfold exN
 by_cases e1 : a = t
 ·rw [if_pos e1, e1]
 ·rw [if_neg e1, if_neg e1]
theorem Q32 {r c t a b : Nat} {g : List (List Int)} (h : Rec r c g) (ht : t < c) (ha : a < r) : gE g a b = gE (exK t t g) a b := by
 rw [Q0g h ht ht ha]
 unfold exN
 by_cases e1 : b = t
 ·rw [if_pos e1, e1]
 ·rw [if_neg e1, if_neg e1]

set_option maxHeartbeats 16000000 in
theorem Qe2 (K : Nat) (w : World) (b : Nat) (J : JV) (m n t : Nat) (s : Int) (S : Sm) (hJ : IsJ J m n S) (hD : Dm m n S) (hs : Hsat (jbH b J m n t s) w) (hm : m ≤ 200) (hn : n ≤ 200) (htm : t ≤ m) (htn : t ≤ n) (hK : K ≤ 42000000) (hb : Ok K S) (hl : (leastF S t m n).2.2 = true) :
  Calls Tryz.prog 65 #[.pointer (some ⟨b, 0, none⟩)] w (Ret fun v w' => JbR b J m n t s t s (S.ex (leastF S t m n).1 (leastF S t m n).2.1 t) w w' ∧ v = .bool (decide ((leastF S t m n).1 ≠ t ∨ (leastF S t m n).2.1 ≠ t))) := by
 have hM := QC hs
 refine Q8 [⟨3, 1, [], []⟩, ⟨4, 1, [], []⟩, ⟨5, 1, [], []⟩, ⟨7, 1, [], []⟩, ⟨8, 1, [], []⟩, ⟨9, 1, [], []⟩] (keys (jbH b J m n t s)) hM (jbH b J m n t s) Tryz.func65 rfl mixed (by kernel_rfl) Tryz.ntmps65 Tryz.results65 rfl hs (fun p hp => List.mem_map.2 ⟨p, hp, rfl⟩) ?_
 simp only [toS, textOps, toSOp, kindAt, kindOf, odAt, sopsAt, ordOf, zipF]
 repeat' first | apply jS | apply jO | apply jN | refine Q1 ?_ | refine Q0 ?_ | apply jT
 refine Qb pqq rfl eqq rfl (fun w _ hs => Q5b K w b J m n t s S hJ hs hm hn htm htn oq hb.d) fun w v w' _ _ _ hR => ?_
 obtain ⟨⟨l1, l2, l3, l4⟩, _⟩ := Xk hl
 obtain ⟨r, hr⟩ : ∃ r, r = (leastF S t m n).1 := ⟨_, rfl⟩
 obtain ⟨q, hq⟩ : ∃ q, q = (leastF S t m n).2.1 := ⟨_, rfl⟩
 rw [show rwV (leastF S t m n) = nv r by unfold rwV; rw [if_pos hl, hr], show clV (leastF S t m n) = nv q by unfold clV; rw [if_pos hl, hq], hl] at hR
 rw [← hr] at l1 l2
 rw [← hq] at l3 l4
 rw [← hr, ← hq]
 subst hR
 have htm' : t < m := by omega
 have htn' : t < n := by omega
 unfold jbH jbC
 by_cases hrt : r = t
 ·rw [hrt] at l1 l2 ⊢
  by_cases hqt : q = t
  ·rw [hqt] at l3 l4 ⊢
   repeat' first | apply jS | apply jO | apply jN | apply jT | refine Q1 ?_ | refine Q2 ?_ | refine Q0 ?_ | refine Q7 ?_ | refine Qn ?_ | refine Q6 ?_ | refine Qo (h := ?_) | (refine Yf (h1 := ?_) (h2 := ?_) <;> intro hc <;> try (exfalso; omega)) | apply jK | apply jR | refine Q4 rfl ?_
   all_goals first
    | (exfalso; omega)
    | skip
   have hOxd := hJ.d
   rw [Qm (fun a b' _ _ => Q31 (t := t) hD.d htm')] at hOxd
   have hOxu := hJ.u
   rw [Qm (fun a b' _ _ => Q31 (t := t) hD.u htm')] at hOxu
   have hOxui := hJ.ui
   rw [Qm (fun a b' ha _ => Q32 (t := t) hD.ui htm' ha)] at hOxui
   have hOyd := hOxd
   rw [Qm (fun a b' ha _ => Q32 (t := t) (hD.d.exL htm' htm') htn' ha)] at hOyd
   have hOyv := hJ.v
   rw [Qm (fun a b' ha _ => Q32 (t := t) hD.v htn' ha)] at hOyv
   have hOyvi := hJ.vi
   rw [Qm (fun a b' _ _ => Q31 (t := t) hD.vi htn')] at hOyvi
   have hdec : decide (t ≠ t ∨ t ≠ t) = false := decide_eq_false spq
   rw [hdec]
   exact Qd rfl (fun a w' st => ⟨⟨st.kp, ⟨⟨J.u.A, J.u.c, J.u.N⟩, ⟨J.ui.A, J.ui.c, J.ui.N⟩, ⟨J.d.A, J.d.c, J.d.N⟩, ⟨J.v.A, J.v.c, J.v.N⟩, ⟨J.vi.A, J.vi.c, J.vi.N⟩⟩, by
    unfold jbH keys at *
    simp only [List.map_cons, List.map_append]
    try rfl, fun p hp => st.hs.blk p hp, ⟨hOxu, hOxui, hOyd, hOyv, hOyvi⟩, ⟨⟨rfl, rfl⟩, ⟨rfl, rfl⟩, ⟨rfl, rfl⟩, ⟨rfl, rfl⟩, ⟨rfl, rfl⟩⟩⟩, rfl⟩)
  ·skip
   repeat' first | apply jS | apply jO | apply jD | apply jN | apply jT | refine Q1 ?_ | refine Q2 ?_ | refine Q0 ?_ | refine Q7 ?_ | refine Q6 ?_ | refine Qo (h := ?_) | (refine Yf (h1 := ?_) (h2 := ?_) <;> intro hc <;> try (exfalso; omega)) | apply jK | refine Q5 rfl ?_ | refine Q4 rfl ?_
   all_goals first
    | (exfalso; omega)
    | skip
   have hOxd := hJ.d
   rw [Qm (fun a b' _ _ => Q31 (t := t) hD.d htm')] at hOxd
   have hOxu := hJ.u
   rw [Qm (fun a b' _ _ => Q31 (t := t) hD.u htm')] at hOxu
   have hOxui := hJ.ui
   rw [Qm (fun a b' ha _ => Q32 (t := t) hD.ui htm' ha)] at hOxui
   refine Qz 0 rfl rfl rfl rfl rfl rfl rfl rfl ?_
   repeat' first | refine Q1 ?_ | refine Q2 ?_ | refine Q7 ?_ | refine Q6 ?_ | fail
   refine Zd (A := _ :: (J.u.N ++ J.ui.N)) (N := J.d.N) (B := J.v.N ++ (J.vi.N ++ [])) (by simp only [List.append_assoc, List.cons_append, List.nil_append]; rfl) pqq rfl eqq rfl (fun w hs => ZV w J.d.A J.d.c J.d.N m n q t (gE (exL t t S.d)) hOxd hs l4 htn' hm hn) (fun u Nd2 hkNd2 hONd2 => ?_)
   rw [Qm (fun a b' ha _ => Q8p (hD.d.exL htm' htm') l4 htn' ha)] at hONd2
   simp only [List.append_assoc, List.cons_append, List.nil_append]
   repeat' first | apply jS | apply jD | apply jN | refine Q1 ?_ | refine Q2 ?_ | refine Q6 ?_ | apply jT
   all_goals first
    | (exfalso; omega)
    | skip
   refine Qz 0 rfl rfl rfl rfl rfl rfl rfl rfl ?_
   repeat' first | refine Q1 ?_ | refine Q2 ?_ | refine Q7 ?_ | refine Q6 ?_ | fail
   refine Zd (A := _ :: (J.u.N ++ (J.ui.N ++ Nd2))) (N := J.v.N) (B := J.vi.N ++ []) (by simp only [List.append_assoc, List.cons_append, List.nil_append]; rfl) pqq rfl eqq rfl (fun w hs => ZV w J.v.A J.v.c J.v.N n n q t (gE S.v) hJ.v hs l4 htn' hn hn) (fun u Nv hkNv hONv => ?_)
   rw [Qm (fun a b' ha _ => Q8p hD.v l4 htn' ha)] at hONv
   simp only [List.append_assoc, List.cons_append, List.nil_append]
   repeat' first | apply jD | apply jN | refine Q1 ?_ | refine Q2 ?_ | refine Q6 ?_ | apply jT
   all_goals first
    | (exfalso; omega)
    | skip
   refine Qz 0 rfl rfl rfl rfl rfl rfl rfl rfl ?_
   repeat' first | refine Q1 ?_ | refine Q2 ?_ | refine Q7 ?_ | refine Q6 ?_ | fail
   refine Zd (A := _ :: (J.u.N ++ (J.ui.N ++ (Nd2 ++ Nv)))) (N := J.vi.N) (B := []) (by simp only [List.append_assoc, List.cons_append, List.nil_append]; rfl) pqq rfl eqq rfl (fun w hs => ZU w J.vi.A J.vi.c J.vi.N n n q t (gE S.vi) hJ.vi hs l4 htn' hn hn) (fun u Nvi hkNvi hONvi => ?_)
   rw [Qm (fun a b' _ hb' => Q8o hD.vi l4 htn' hb')] at hONvi
   simp only [List.append_assoc, List.cons_append, List.nil_append]
   repeat' first | apply jS | apply jO | apply jN | apply jT | refine Q1 ?_ | refine Q2 ?_ | refine Q0 ?_ | refine Q7 ?_ | refine Qn ?_ | refine Q6 ?_ | (refine Yf (h1 := ?_) (h2 := ?_) <;> intro hc <;> try (exfalso; omega)) | apply jR
   all_goals first
    | (exfalso; omega)
    | skip
   have hdec : decide (t ≠ t ∨ q ≠ t) = true := decide_eq_true (.inr hqt)
   rw [hdec]
   exact Qd rfl (fun a w' st => ⟨⟨st.kp, ⟨⟨J.u.A, J.u.c, J.u.N⟩, ⟨J.ui.A, J.ui.c, J.ui.N⟩, ⟨J.d.A, J.d.c, Nd2⟩, ⟨J.v.A, J.v.c, Nv⟩, ⟨J.vi.A, J.vi.c, Nvi⟩⟩, by
    unfold jbH keys at *
    simp only [List.map_cons, List.map_append, hkNd2, hkNv, hkNvi]
    try rfl, fun p hp => st.hs.blk p hp, ⟨hOxu, hOxui, hONd2, hONv, hONvi⟩, ⟨⟨rfl, rfl⟩, ⟨rfl, rfl⟩, ⟨rfl, rfl⟩, ⟨rfl, rfl⟩, ⟨rfl, rfl⟩⟩⟩, rfl⟩)
 ·skip
  by_cases hqt : q = t
  ·rw [hqt] at l3 l4 ⊢
   repeat' first | apply jS | apply jO | apply jD | apply jN | apply jT | refine Q1 ?_ | refine Q2 ?_ | refine Q0 ?_ | refine Q7 ?_ | refine Q6 ?_ | refine Qo (h := ?_) | (refine Yf (h1 := ?_) (h2 := ?_) <;> intro hc <;> try (exfalso; omega)) | refine Q5 rfl ?_
   all_goals first
    | (exfalso; omega)
    | skip
   refine Qz 0 rfl rfl rfl rfl rfl rfl rfl rfl ?_
   repeat' first | refine Q1 ?_ | refine Q2 ?_ | refine Q7 ?_ | refine Q6 ?_ | fail
   refine Zd (A := _ :: (J.u.N ++ J.ui.N)) (N := J.d.N) (B := J.v.N ++ (J.vi.N ++ [])) (by simp only [List.append_assoc, List.cons_append, List.nil_append]; rfl) pqq rfl eqq rfl (fun w hs => ZU w J.d.A J.d.c J.d.N m n r t (gE S.d) hJ.d hs l2 htm' hm hn) (fun u Nd hkNd hONd => ?_)
   rw [Qm (fun a b' _ hb' => Q8o hD.d l2 htm' hb')] at hONd
   simp only [List.append_assoc, List.cons_append, List.nil_append]
   repeat' first | apply jS | apply jD | apply jN | refine Q1 ?_ | refine Q2 ?_ | refine Q6 ?_ | apply jT
   all_goals first
    | (exfalso; omega)
    | skip
   refine Qz 0 rfl rfl rfl rfl rfl rfl rfl rfl ?_
   repeat' first | refine Q1 ?_ | refine Q2 ?_ | refine Q7 ?_ | refine Q6 ?_ | fail
   refine Zd (A := _ :: []) (N := J.u.N) (B := J.ui.N ++ (Nd ++ (J.v.N ++ (J.vi.N ++ [])))) (by simp only [List.append_assoc, List.cons_append, List.nil_append]; rfl) pqq rfl eqq rfl (fun w hs => ZU w J.u.A J.u.c J.u.N m m r t (gE S.u) hJ.u hs l2 htm' hm hm) (fun u Nu hkNu hONu => ?_)
   rw [Qm (fun a b' _ hb' => Q8o hD.u l2 htm' hb')] at hONu
   simp only [List.append_assoc, List.cons_append, List.nil_append]
   repeat' first | apply jD | apply jN | refine Q1 ?_ | refine Q2 ?_ | refine Q6 ?_ | apply jT
   all_goals first
    | (exfalso; omega)
    | skip
   refine Qz 0 rfl rfl rfl rfl rfl rfl rfl rfl ?_
   repeat' first | refine Q1 ?_ | refine Q2 ?_ | refine Q7 ?_ | refine Q6 ?_ | fail
   refine Zd (A := _ :: Nu) (N := J.ui.N) (B := Nd ++ (J.v.N ++ (J.vi.N ++ []))) (by simp only [List.append_assoc, List.cons_append, List.nil_append]; rfl) pqq rfl eqq rfl (fun w hs => ZV w J.ui.A J.ui.c J.ui.N m m r t (gE S.ui) hJ.ui hs l2 htm' hm hm) (fun u Nui hkNui hONui => ?_)
   rw [Qm (fun a b' ha _ => Q8p hD.ui l2 htm' ha)] at hONui
   simp only [List.append_assoc, List.cons_append, List.nil_append]
   repeat' first | apply jS | apply jO | apply jN | apply jT | refine Q1 ?_ | refine Q2 ?_ | refine Q0 ?_ | refine Q7 ?_ | refine Ql ?_ | refine Q6 ?_ | (refine Yf (h1 := ?_) (h2 := ?_) <;> intro hc <;> try (exfalso; omega)) | apply jK | refine Q4 rfl ?_ | refine Qy (h := ?_) | apply jR
   all_goals first
    | (exfalso; omega)
    | skip
   have hOyd := hONd
   rw [Qm (fun a b' ha _ => Q32 (t := t) (hD.d.exL l2 htm') htn' ha)] at hOyd
   have hOyv := hJ.v
   rw [Qm (fun a b' ha _ => Q32 (t := t) hD.v htn' ha)] at hOyv
   have hOyvi := hJ.vi
   rw [Qm (fun a b' _ _ => Q31 (t := t) hD.vi htn')] at hOyvi
   have hdec : decide (r ≠ t ∨ t ≠ t) = true := decide_eq_true (.inl hrt)
   rw [hdec]
   exact Qd rfl (fun a w' st => ⟨⟨st.kp, ⟨⟨J.u.A, J.u.c, Nu⟩, ⟨J.ui.A, J.ui.c, Nui⟩, ⟨J.d.A, J.d.c, Nd⟩, ⟨J.v.A, J.v.c, J.v.N⟩, ⟨J.vi.A, J.vi.c, J.vi.N⟩⟩, by
    unfold jbH keys at *
    simp only [List.map_cons, List.map_append, hkNd, hkNu, hkNui]
    try rfl, fun p hp => st.hs.blk p hp, ⟨hONu, hONui, hOyd, hOyv, hOyvi⟩, ⟨⟨rfl, rfl⟩, ⟨rfl, rfl⟩, ⟨rfl, rfl⟩, ⟨rfl, rfl⟩, ⟨rfl, rfl⟩⟩⟩, rfl⟩)
  ·skip
   repeat' first | apply jS | apply jO | apply jD | apply jN | apply jT | refine Q1 ?_ | refine Q2 ?_ | refine Q0 ?_ | refine Q7 ?_ | refine Q6 ?_ | refine Qo (h := ?_) | (refine Yf (h1 := ?_) (h2 := ?_) <;> intro hc <;> try (exfalso; omega)) | refine Q5 rfl ?_
   all_goals first
    | (exfalso; omega)
    | skip
   refine Qz 0 rfl rfl rfl rfl rfl rfl rfl rfl ?_
   repeat' first | refine Q1 ?_ | refine Q2 ?_ | refine Q7 ?_ | refine Q6 ?_ | fail
   refine Zd (A := _ :: (J.u.N ++ J.ui.N)) (N := J.d.N) (B := J.v.N ++ (J.vi.N ++ [])) (by simp only [List.append_assoc, List.cons_append, List.nil_append]; rfl) pqq rfl eqq rfl (fun w hs => ZU w J.d.A J.d.c J.d.N m n r t (gE S.d) hJ.d hs l2 htm' hm hn) (fun u Nd hkNd hONd => ?_)
   rw [Qm (fun a b' _ hb' => Q8o hD.d l2 htm' hb')] at hONd
   simp only [List.append_assoc, List.cons_append, List.nil_append]
   repeat' first | apply jS | apply jD | apply jN | refine Q1 ?_ | refine Q2 ?_ | refine Q6 ?_ | apply jT
   all_goals first
    | (exfalso; omega)
    | skip
   refine Qz 0 rfl rfl rfl rfl rfl rfl rfl rfl ?_
   repeat' first | refine Q1 ?_ | refine Q2 ?_ | refine Q7 ?_ | refine Q6 ?_ | fail
   refine Zd (A := _ :: []) (N := J.u.N) (B := J.ui.N ++ (Nd ++ (J.v.N ++ (J.vi.N ++ [])))) (by simp only [List.append_assoc, List.cons_append, List.nil_append]; rfl) pqq rfl eqq rfl (fun w hs => ZU w J.u.A J.u.c J.u.N m m r t (gE S.u) hJ.u hs l2 htm' hm hm) (fun u Nu hkNu hONu => ?_)
   rw [Qm (fun a b' _ hb' => Q8o hD.u l2 htm' hb')] at hONu
   simp only [List.append_assoc, List.cons_append, List.nil_append]
   repeat' first | apply jD | apply jN | refine Q1 ?_ | refine Q2 ?_ | refine Q6 ?_ | apply jT
   all_goals first
    | (exfalso; omega)
    | skip
   refine Qz 0 rfl rfl rfl rfl rfl rfl rfl rfl ?_
   repeat' first | refine Q1 ?_ | refine Q2 ?_ | refine Q7 ?_ | refine Q6 ?_ | fail
   refine Zd (A := _ :: Nu) (N := J.ui.N) (B := Nd ++ (J.v.N ++ (J.vi.N ++ []))) (by simp only [List.append_assoc, List.cons_append, List.nil_append]; rfl) pqq rfl eqq rfl (fun w hs => ZV w J.ui.A J.ui.c J.ui.N m m r t (gE S.ui) hJ.ui hs l2 htm' hm hm) (fun u Nui hkNui hONui => ?_)
   rw [Qm (fun a b' ha _ => Q8p hD.ui l2 htm' ha)] at hONui
   simp only [List.append_assoc, List.cons_append, List.nil_append]
   repeat' first | apply jS | apply jO | apply jD | apply jN | apply jT | refine Q1 ?_ | refine Q2 ?_ | refine Q7 ?_ | refine Q6 ?_ | (refine Yf (h1 := ?_) (h2 := ?_) <;> intro hc <;> try (exfalso; omega)) | refine Q5 rfl ?_
   all_goals first
    | (exfalso; omega)
    | skip
   refine Qz 0 rfl rfl rfl rfl rfl rfl rfl rfl ?_
   repeat' first | refine Q1 ?_ | refine Q2 ?_ | refine Q7 ?_ | refine Q6 ?_ | fail
   refine Zd (A := _ :: (Nu ++ Nui)) (N := Nd) (B := J.v.N ++ (J.vi.N ++ [])) (by simp only [List.append_assoc, List.cons_append, List.nil_append]; rfl) pqq rfl eqq rfl (fun w hs => ZV w J.d.A J.d.c Nd m n q t (gE (exL r t S.d)) hONd hs l4 htn' hm hn) (fun u Nd2 hkNd2 hONd2 => ?_)
   rw [Qm (fun a b' ha _ => Q8p (hD.d.exL l2 htm') l4 htn' ha)] at hONd2
   simp only [List.append_assoc, List.cons_append, List.nil_append]
   repeat' first | apply jS | apply jD | apply jN | refine Q1 ?_ | refine Q2 ?_ | refine Q6 ?_ | apply jT
   all_goals first
    | (exfalso; omega)
    | skip
   refine Qz 0 rfl rfl rfl rfl rfl rfl rfl rfl ?_
   repeat' first | refine Q1 ?_ | refine Q2 ?_ | refine Q7 ?_ | refine Q6 ?_ | fail
   refine Zd (A := _ :: (Nu ++ (Nui ++ Nd2))) (N := J.v.N) (B := J.vi.N ++ []) (by simp only [List.append_assoc, List.cons_append, List.nil_append]; rfl) pqq rfl eqq rfl (fun w hs => ZV w J.v.A J.v.c J.v.N n n q t (gE S.v) hJ.v hs l4 htn' hn hn) (fun u Nv hkNv hONv => ?_)
   rw [Qm (fun a b' ha _ => Q8p hD.v l4 htn' ha)] at hONv
   simp only [List.append_assoc, List.cons_append, List.nil_append]
   repeat' first | apply jD | apply jN | refine Q1 ?_ | refine Q2 ?_ | refine Q6 ?_ | apply jT
   all_goals first
    | (exfalso; omega)
    | skip
   refine Qz 0 rfl rfl rfl rfl rfl rfl rfl rfl ?_
   repeat' first | refine Q1 ?_ | refine Q2 ?_ | refine Q7 ?_ | refine Q6 ?_ | fail
   refine Zd (A := _ :: (Nu ++ (Nui ++ (Nd2 ++ Nv)))) (N := J.vi.N) (B := []) (by simp only [List.append_assoc, List.cons_append, List.nil_append]; rfl) pqq rfl eqq rfl (fun w hs => ZU w J.vi.A J.vi.c J.vi.N n n q t (gE S.vi) hJ.vi hs l4 htn' hn hn) (fun u Nvi hkNvi hONvi => ?_)
   rw [Qm (fun a b' _ hb' => Q8o hD.vi l4 htn' hb')] at hONvi
   simp only [List.append_assoc, List.cons_append, List.nil_append]
   repeat' first | apply jS | apply jO | apply jN | apply jT | refine Q1 ?_ | refine Q2 ?_ | refine Q0 ?_ | refine Q7 ?_ | refine Ql ?_ | refine Q6 ?_ | (refine Yf (h1 := ?_) (h2 := ?_) <;> intro hc <;> try (exfalso; omega)) | refine Qy (h := ?_) | apply jR
   all_goals first
    | (exfalso; omega)
    | skip
   have hdec : decide (r ≠ t ∨ q ≠ t) = true := decide_eq_true (.inl hrt)
   rw [hdec]
   exact Qd rfl (fun a w' st => ⟨⟨st.kp, ⟨⟨J.u.A, J.u.c, Nu⟩, ⟨J.ui.A, J.ui.c, Nui⟩, ⟨J.d.A, J.d.c, Nd2⟩, ⟨J.v.A, J.v.c, Nv⟩, ⟨J.vi.A, J.vi.c, Nvi⟩⟩, by
    unfold jbH keys at *
    simp only [List.map_cons, List.map_append, hkNd2, hkNd, hkNu, hkNui, hkNv, hkNvi]
    try rfl, fun p hp => st.hs.blk p hp, ⟨hONu, hONui, hONd2, hONv, hONvi⟩, ⟨⟨rfl, rfl⟩, ⟨rfl, rfl⟩, ⟨rfl, rfl⟩, ⟨rfl, rfl⟩, ⟨rfl, rfl⟩⟩⟩, rfl⟩)


section
variable {c : Cx} {Q : Exit → Act → World → Prop} {m : Mode} {F : SFrame} {H : SHeap} {r : List SOp} {g : Option (Option Tmp × Bool)} {ns : Bool} {d : Tmp} {ty t t' : TypeId} {x y : Operand}
theorem Q3l {s : TypeId} {fs : Array Field} {fl : Field} {f : Nat} {vs : Array Value} {v : Value} (hu : c.P.underlying s = some (.struct fs)) (hf : fs[f]? = some fl) (ht : T1 c.P fl.type) (hd : dstOk c.n (some d) = true) (hg : guardF F g = some true) (hx : ev F x = some (.agg vs)) (hv : vs[fl.offset]? = some v)
  (h : JO c Q m r ((d, v) :: F) H) : JO c Q m (⟨some d, .field s x f, ty, g, .mov, ns⟩ :: r) F H :=
 Z9 hd hg (fun a w fr => by
  simp only [execOp, fr.ev hx, Instr.field, Sem.run_bind, run_underlying hu, Result.andThen_ok, hf, asAgg, Sem.run_pure, part, T1.agg, Bool.false_eq_true, if_false, hv]) h

end


def clrB (m n t : Nat) (S : Sm) : Option Sm := match fsR S t m with
 | some i => some (S.rows i t (aT (-(gE S.d i t / gE S.d t t))))
 | none => match fsC S t n with
  | some k => some (S.cols k t (aT (-(gE S.d t k / gE S.d t t))))
  | none => none

theorem hmag (x : Int) : decide (magU x.natAbs ≠ []) = decide (x ≠ 0) := decide_eq_decide.2 (not_congr (magU_nil.trans Int.natAbs_eq_zero))
set_option maxHeartbeats 16000000 in
theorem Qbs (K : Nat) (w : World) (b : Nat) (J : JV) (m n t : Nat) (s : Int) (S : Sm) (hJ : IsJ J m n S) (hD : Dm m n S) (hs : Hsat (jbH b J m n t s) w) (hm : m ≤ 200) (hn : n ≤ 200) (htm : t < m) (htn : t < n) (hK : K ≤ 21000000) (hb : Ok K S) (hp : gE S.d t t ≠ 0) :
  Calls Tryz.prog 66 #[.pointer (some ⟨b, 0, none⟩)] w (Ret fun v w' => JbR b J m n t s t s ((clrB m n t S).getD S) w w' ∧ v = .bool (clrB m n t S).isSome) := by
 have hM := QC hs
 refine Q8 [] (keys (jbH b J m n t s)) hM (jbH b J m n t s) Tryz.func66 rfl mixed (by kernel_rfl) Tryz.ntmps66 Tryz.results66 rfl hs (fun p hp => List.mem_map.2 ⟨p, hp, rfl⟩) ?_
 simp only [toS, textOps, toSOp, kindAt, kindOf, odAt, sopsAt, ordOf, zipF]
 unfold jbH jbC
 repeat' first | apply jS | apply jO | apply jN | apply jT | refine Q1 ?_ | refine Q2 ?_ | refine Q0 ?_ | refine Q7 ?_ | refine Qe ?_ | refine Q6 ?_ | apply jB
 refine Qj (ι := Nat) ⟨fun z => [(4, nv z), (3, nv t), (0, .pointer (some ⟨b, 0, none⟩))], fun _ => jbH b J m n t s,
  fun z => t + 1 ≤ z ∧ z ≤ m ∧ fsR S t m = (List.range' z (m - z)).find? fun i => decide (gE S.d i t ≠ 0), fun z => m - z⟩ (t + 1) ⟨by omega, by omega, rfl⟩ cqq (HSub.refl _) (fun i hi => ?_)
 obtain ⟨hti, him, hf⟩ := hi
 dsimp only at hti him hf ⊢
 unfold jbH jbC
 by_cases hlt : i < m
 ·rw [QH hlt, List.find?_cons] at hf
  repeat' first | apply jS | apply jO | apply jN | apply jT | refine Q1 ?_ | refine Q2 ?_ | refine Q7 ?_ | refine Q6 ?_ | (refine Qi (h1 := ?_) (h2 := ?_) <;> intro hc <;> try (exfalso; omega)) | apply jK | refine Q5 rfl ?_ | apply jB
  refine Qb pqq rfl eqq rfl (fun w _ hs => Yd w b J m n t s S i t hJ hs hlt htn hm hn) fun w v w' _ _ _ hR => ?_
  subst hR
  skip
  refine Q3l Tryz.underlying75 rfl (show T1 Tryz.prog 9 from inferInstance) rfl eqq rfl rfl ?_
  repeat' first | apply jN | refine Yg (h := ?_) | apply jT
  rw [hmag]
  by_cases hz : gE S.d i t = 0
  ·rw [show decide (gE S.d i t ≠ 0) = false from decide_eq_false (fun h => h hz)] at hf ⊢
   repeat' first | apply jO | apply jN | apply jT | refine Q1 ?_ | refine Q0 ?_ | refine Qe ?_ | apply jK | refine Q4 rfl ?_ | apply jW
   exact Qa (i + 1) ⟨by first | omega | (dsimp only; omega), by first | omega | (dsimp only; omega), hf⟩ dgp cqq (HSub.refl _)
  ·rw [show decide (gE S.d i t ≠ 0) = true from decide_eq_true hz] at hf ⊢
   have hf : fsR S t m = some i := hf
   have hcl : clrB m n t S = some (S.rows i t (aT (-(gE S.d i t / gE S.d t t)))) := by unfold clrB; rw [hf]
   rw [hcl]
   repeat' first | apply jS | apply jO | refine Q1 ?_ | refine Q5 rfl ?_
   refine Qb pqq rfl eqq rfl (fun w _ hs => Yd w b J m n t s S i t hJ hs hlt htn hm hn) fun w v w' _ _ _ hR => ?_
   subst hR
   skip
   refine Qb pqq rfl eqq rfl (fun w _ hs => Q7t K w b J m n t s S (gE S.d i t) hJ hs hm hn htm htn oq hb.d (QW hb.d _ _) hp) fun w v w' _ _ _ hR => ?_
   subst hR
   skip
   refine XU (A := []) (R := fun _ => True) rfl pqq rfl eqq rfl (fun w hs => (Q5a K K w b J m n t s S i t (-(gE S.d i t / gE S.d t t)) hJ hD hs hlt htm oq hm hn oq hb (YM (QW hb.d _ _))).mono fun e w' he => by
     cases e with
     | panicked _ => exact he.elim
     | outgrown => exact he.elim
     | returned v => exact ⟨he, trivial⟩) (fun v J' hkJ hJ' hF _ => ?_)
   repeat' first | apply jS | apply jO | apply jN | apply jT | refine Q0 ?_ | apply jV | apply jR | refine Qt ?_
   exact Qd rfl (fun a w' st => ⟨⟨st.kp, J', hkJ, fun p hp => st.hs.blk p hp, hJ', hF⟩, rfl⟩)
 ·rw [show m - i = 0 by omega] at hf
  have hfr : fsR S t m = none := hf
  clear hf
  repeat' first | apply jS | apply jO | apply jN | apply jT | refine Q1 ?_ | refine Q2 ?_ | refine Q0 ?_ | refine Q7 ?_ | refine Qe ?_ | refine Q6 ?_ | (refine Qi (h1 := ?_) (h2 := ?_) <;> intro hc <;> try (exfalso; omega)) | apply jU | apply jE | refine Q4 rfl ?_ | apply jB | refine Qc ?_
  refine Qj (ι := Nat) ⟨fun z => [(5, nv z), (3, nv t), (0, .pointer (some ⟨b, 0, none⟩))], fun _ => jbH b J m n t s,
   fun z => t + 1 ≤ z ∧ z ≤ n ∧ fsC S t n = (List.range' z (n - z)).find? fun i => decide (gE S.d t i ≠ 0), fun z => n - z⟩ (t + 1) ⟨by omega, by omega, rfl⟩ cqq (HSub.refl _) (fun i hi => ?_)
  obtain ⟨hti, him, hf⟩ := hi
  dsimp only at hti him hf ⊢
  unfold jbH jbC
  by_cases hlt : i < n
  ·rw [QH hlt, List.find?_cons] at hf
   repeat' first | apply jS | apply jO | apply jN | apply jT | refine Q1 ?_ | refine Q2 ?_ | refine Q7 ?_ | refine Q6 ?_ | (refine Qi (h1 := ?_) (h2 := ?_) <;> intro hc <;> try (exfalso; omega)) | apply jK | refine Q5 rfl ?_ | apply jB
   refine Qb pqq rfl eqq rfl (fun w _ hs => Yd w b J m n t s S t i hJ hs htm hlt hm hn) fun w v w' _ _ _ hR => ?_
   subst hR
   skip
   refine Q3l Tryz.underlying75 rfl (show T1 Tryz.prog 9 from inferInstance) rfl eqq rfl rfl ?_
   repeat' first | apply jN | refine Yg (h := ?_) | apply jT
   rw [hmag]
   by_cases hz : gE S.d t i = 0
   ·rw [show decide (gE S.d t i ≠ 0) = false from decide_eq_false (fun h => h hz)] at hf ⊢
    repeat' first | apply jO | apply jN | apply jT | refine Q1 ?_ | refine Q0 ?_ | refine Qe ?_ | apply jK | refine Q4 rfl ?_ | apply jW
    exact Qa (i + 1) ⟨by first | omega | (dsimp only; omega), by first | omega | (dsimp only; omega), hf⟩ dgp cqq (HSub.refl _)
   ·rw [show decide (gE S.d t i ≠ 0) = true from decide_eq_true hz] at hf ⊢
    have hf : fsC S t n = some i := hf
    have hcl : clrB m n t S = some (S.cols i t (aT (-(gE S.d t i / gE S.d t t)))) := by unfold clrB; rw [hfr, hf]
    rw [hcl]
    repeat' first | apply jS | apply jO | refine Q1 ?_ | refine Q5 rfl ?_
    refine Qb pqq rfl eqq rfl (fun w _ hs => Yd w b J m n t s S t i hJ hs htm hlt hm hn) fun w v w' _ _ _ hR => ?_
    subst hR
    skip
    refine Qb pqq rfl eqq rfl (fun w _ hs => Q7t K w b J m n t s S (gE S.d t i) hJ hs hm hn htm htn oq hb.d (QW hb.d _ _) hp) fun w v w' _ _ _ hR => ?_
    subst hR
    skip
    refine XU (A := []) (R := fun _ => True) rfl pqq rfl eqq rfl (fun w hs => (Qbr K K w b J m n t s S i t (-(gE S.d t i / gE S.d t t)) hJ hD hs hlt htn oq hm hn oq hb (YM (QW hb.d _ _))).mono fun e w' he => by
      cases e with
      | panicked _ => exact he.elim
      | outgrown => exact he.elim
      | returned v => exact ⟨he, trivial⟩) (fun v J' hkJ hJ' hF _ => ?_)
    repeat' first | apply jS | apply jO | apply jN | apply jT | refine Q0 ?_ | apply jV | apply jR | refine Qt ?_
    exact Qd rfl (fun a w' st => ⟨⟨st.kp, J', hkJ, fun p hp => st.hs.blk p hp, hJ', hF⟩, rfl⟩)
  ·rw [show n - i = 0 by omega] at hf
   have hfc : fsC S t n = none := hf
   have hcl : clrB m n t S = none := by unfold clrB; rw [hfr, hfc]
   rw [hcl]
   repeat' first | apply jS | apply jO | apply jN | apply jT | refine Q1 ?_ | refine Q2 ?_ | refine Q0 ?_ | refine Q7 ?_ | refine Q6 ?_ | (refine Qi (h1 := ?_) (h2 := ?_) <;> intro hc <;> try (exfalso; omega)) | apply jU | apply jE | apply jR | refine Q4 rfl ?_ | refine Qc ?_
   exact Qd rfl (fun a w' st => ⟨JbR.same hJ st.kp (fun p hp => st.hs.blk p hp), rfl⟩)


set_option maxHeartbeats 16000000 in
theorem Qi1 (K : Nat) (w : World) (b : Nat) (J : JV) (m n t : Nat) (s : Int) (S : Sm) (hJ : IsJ J m n S) (hD : Dm m n S) (hs : Hsat (jbH b J m n t s) w) (hm : m ≤ 200) (hn : n ≤ 200) (htm : t < m) (htn : t < n) (hK : K ≤ 21000000) (hb : Ok K S) (hp : gE S.d t t ≠ 0) :
  Calls Tryz.prog 67 #[.pointer (some ⟨b, 0, none⟩)] w (Ret fun v w' => JbR b J m n t s t s (((spoiledF S t m n).map fun i => S.rows t i (aT 1)).getD S) w w' ∧ v = .bool (spoiledF S t m n).isSome) := by
 have hM := QC hs
 have hrem : ∀ x, remZ x (gE S.d t t) = x % gE S.d t t := fun x => if_neg hp
 refine Q8 [] (keys (jbH b J m n t s)) hM (jbH b J m n t s) Tryz.func67 rfl mixed (by kernel_rfl) Tryz.ntmps67 Tryz.results67 rfl hs (fun p hp => List.mem_map.2 ⟨p, hp, rfl⟩) ?_
 simp only [toS, textOps, toSOp, kindAt, kindOf, odAt, sopsAt, ordOf, zipF]
 unfold jbH jbC
 repeat' first | apply jS | apply jO | apply jN | apply jT | refine Q1 ?_ | refine Q2 ?_ | refine Q0 ?_ | refine Q7 ?_ | refine Qe ?_ | refine Q6 ?_ | apply jB
 refine Qj (ι := Nat) ⟨fun z => [(4, nv z), (3, nv t), (0, .pointer (some ⟨b, 0, none⟩))], fun _ => jbH b J m n t s,
  fun z => t + 1 ≤ z ∧ z ≤ m ∧ spoiledF S t m n = (List.range' z (m - z)).find? (badRow S t n), fun z => m - z⟩ (t + 1) ⟨by omega, by omega, rfl⟩ cqq (HSub.refl _) (fun i hi => ?_)
 obtain ⟨hti, him, hsp⟩ := hi
 dsimp only at hti him hsp ⊢
 unfold jbH jbC
 by_cases hlt : i < m
 ·rw [QH hlt, List.find?_cons] at hsp
  repeat' first | apply jS | apply jO | apply jN | apply jT | refine Q1 ?_ | refine Q2 ?_ | refine Q0 ?_ | refine Q7 ?_ | refine Qe ?_ | refine Q6 ?_ | (refine Qi (h1 := ?_) (h2 := ?_) <;> intro hc <;> try (exfalso; omega)) | apply jK | refine Q5 rfl ?_ | apply jB
  refine Qj (ι := Nat) ⟨fun z => [(5, nv z), (4, nv i), (3, nv t), (0, .pointer (some ⟨b, 0, none⟩))], fun _ => jbH b J m n t s,
   fun z => t + 1 ≤ z ∧ z ≤ n ∧ badRow S t n i = (List.range' z (n - z)).any fun j => decide (remZ (gE S.d i j) (gE S.d t t) ≠ 0), fun z => n - z⟩ (t + 1) ⟨by omega, by omega, rfl⟩ cqq (HSub.refl _) (fun j hj => ?_)
  obtain ⟨htj, hjn, hbr⟩ := hj
  dsimp only at htj hjn hbr ⊢
  unfold jbH jbC
  by_cases hjt : j < n
  ·rw [QH hjt, List.any_cons, hrem] at hbr
   repeat' first | apply jS | apply jO | apply jN | apply jT | refine Q1 ?_ | refine Q2 ?_ | refine Q7 ?_ | refine Q6 ?_ | (refine Qi (h1 := ?_) (h2 := ?_) <;> intro hc <;> try (exfalso; omega)) | apply jK | refine Q5 rfl ?_ | apply jB
   refine Qb pqq rfl eqq rfl (fun w _ hs => Yd w b J m n t s S i j hJ hs hlt hjt hm hn) fun w v w' _ _ _ hR => ?_
   subst hR
   repeat' first | refine Q1 ?_ | fail
   refine Qb pqq rfl eqq rfl (fun w _ hs => Yd w b J m n t s S t t hJ hs htm htn hm hn) fun w v w' _ _ _ hR => ?_
   subst hR
   skip
   refine Qb pqq rfl eqq rfl (fun w _ _ => Qbv w _ _ (gE S.d i j) (gE S.d t t) K (Qq (QW hb.d _ _)) (Qq (QW hb.d _ _)) oq) fun w v w' _ _ _ hR => ?_
   rw [if_neg hp] at hR
   subst hR
   repeat' first | apply jS | apply jO | apply jN | refine Q1 ?_ | refine Q2 ?_ | refine Q0 ?_ | refine Q7 ?_ | refine Qo (h := ?_) | refine Q3 ?_ | refine Yg (h := ?_) | refine Qf fun _ => ?_ | refine Q3 ?_ | apply jT
   rw [hmag]
   by_cases hz : gE S.d i j % gE S.d t t = 0
   ·rw [show decide (gE S.d i j % gE S.d t t ≠ 0) = false from decide_eq_false (fun h => h hz)] at hbr ⊢
    repeat' first | apply jO | apply jN | apply jT | refine Q1 ?_ | refine Q0 ?_ | refine Qe ?_ | apply jK | refine Q4 rfl ?_ | apply jW
    exact Qa (j + 1) ⟨by first | omega | (dsimp only; omega), by first | omega | (dsimp only; omega), by rw [hbr]; exact Bool.false_or _⟩ dgp cqq (HSub.skip (HSub.skip (HSub.refl _)))
   ·rw [show decide (gE S.d i j % gE S.d t t ≠ 0) = true from decide_eq_true hz] at hbr ⊢
    rw [Bool.true_or] at hbr
    rw [hbr] at hsp
    have hsp : spoiledF S t m n = some i := hsp
    rw [hsp]
    repeat' first | apply jS | apply jO | refine Q1 ?_ | refine Q5 rfl ?_
    refine Qb pqq rfl eqq rfl (fun w _ _ => YF w 1 oq oq) fun w v w' _ _ _ hR => ?_
    subst hR
    skip
    refine XU (A := [_, _]) (R := fun _ => True) rfl pqq rfl eqq rfl (fun w hs => (Q5a K 1 w b J m n t s S t i 1 hJ hD hs htm hlt oq hm hn oq hb dq).mono fun e w' he => by
      cases e with
      | panicked _ => exact he.elim
      | outgrown => exact he.elim
      | returned v => exact ⟨he, trivial⟩) (fun v J' hkJ hJ' hF _ => ?_)
    repeat' first | apply jS | apply jO | apply jN | apply jT | refine Q0 ?_ | apply jV | apply jR | refine Qt ?_
    exact Qd rfl (fun a w' st => ⟨⟨st.kp, J', hkJ, fun p hp => st.hs.blk p (List.mem_cons_of_mem _ (List.mem_cons_of_mem _ hp)), hJ', hF⟩, rfl⟩)
  ·rw [show n - j = 0 by omega] at hbr
   have hbr : badRow S t n i = false := hbr
   rw [hbr] at hsp
   repeat' first | apply jS | apply jO | apply jN | apply jT | refine Q1 ?_ | refine Q2 ?_ | refine Q0 ?_ | refine Q7 ?_ | refine Qe ?_ | refine Q6 ?_ | (refine Qi (h1 := ?_) (h2 := ?_) <;> intro hc <;> try (exfalso; omega)) | apply jU | apply jE | refine Q4 rfl ?_ | apply jW | refine Qc ?_
   exact Qa (i + 1) ⟨by first | omega | (dsimp only; omega), by first | omega | (dsimp only; omega), hsp⟩ dgp cqq (HSub.refl _)
 ·rw [show m - i = 0 by omega] at hsp
  have hsp : spoiledF S t m n = none := hsp
  rw [hsp]
  repeat' first | apply jS | apply jO | apply jN | apply jT | refine Q1 ?_ | refine Q2 ?_ | refine Q0 ?_ | refine Q7 ?_ | refine Q6 ?_ | (refine Qi (h1 := ?_) (h2 := ?_) <;> intro hc <;> try (exfalso; omega)) | apply jU | apply jE | apply jR | refine Q4 rfl ?_ | refine Qc ?_
  exact Qd rfl (fun a w' st => ⟨JbR.same hJ st.kp (fun p hp => st.hs.blk p hp), rfl⟩)


theorem Qf8 {r c t a b : Nat} {g : List (List Int)} (h : Rec r c g) (ht : t < r) (hb : b < c) : (if a = t ∧ b < c then gE g t b + -2 * gE g t b else gE g a b) = gE (negR t g) a b := by
 rw [Q62 h ht]
 by_cases e : a = t
 ·rw [if_pos ⟨e, hb⟩, if_pos e, e]; omega
 ·rw [if_neg (fun x => e x.1), if_neg e]
theorem Qjx {r c t a b : Nat} {g : List (List Int)} (h : Rec r c g) (ht : t < c) (ha : a < r) : (if b = t ∧ a < r then gE g a t + -2 * gE g a t else gE g a b) = gE (negC t g) a b := by
 rw [Qao h ht ha]
 by_cases e : b = t
 ·rw [if_pos ⟨e, ha⟩, if_pos e, e]; omega
 ·rw [if_neg (fun x => e x.1), if_neg e]

set_option maxHeartbeats 16000000 in
theorem Q8s (K : Nat) (w : World) (b : Nat) (J : JV) (m n t : Nat) (s : Int) (S : Sm) (hJ : IsJ J m n S) (hD : Dm m n S) (hs : Hsat (jbH b J m n t s) w) (hm : m ≤ 200) (hn : n ≤ 200) (htm : t < m) (htn : t < n) (hK : K ≤ 21000000) (hb : Ok K S) :
  Calls Tryz.prog 68 #[.pointer (some ⟨b, 0, none⟩)] w (Ret fun _ w' => JbR b J m n t s ((t + 1 : Nat) : Int) s (if gE S.d t t < 0 then S.neg t else S) w w') := by
 have hM := QC hs
 refine Q8 [⟨3, 1, [], []⟩, ⟨4, 1, [], []⟩, ⟨5, 1, [], []⟩] (keys (jbH b J m n t s)) hM (jbH b J m n t s) Tryz.func68 rfl mixed (by kernel_rfl) Tryz.ntmps68 Tryz.results68 rfl hs (fun p hp => List.mem_map.2 ⟨p, hp, rfl⟩) ?_
 simp only [toS, textOps, toSOp, kindAt, kindOf, odAt, sopsAt, ordOf, zipF]
 unfold jbH jbC
 repeat' first | apply jS | apply jO | apply jN | refine Q1 ?_ | refine Q2 ?_ | refine Q0 ?_ | refine Q7 ?_ | refine Q6 ?_ | apply jT
 refine Qb pqq rfl eqq rfl (fun w _ hs => Yd w b J m n t s S t t hJ hs htm htn hm hn) fun w v w' _ _ _ hR => ?_
 subst hR
 skip
 refine Qb pqq rfl eqq rfl (fun w _ _ => Q6d w _ (gE S.d t t) K (Qq (QW hb.d _ _)) oq) fun w v w' _ _ _ hR => ?_
 subst hR
 have hsg : (gE S.d t t).sign < 0 ↔ gE S.d t t < 0 := Int.sign_neg_iff
 by_cases hneg : gE S.d t t < 0
 ·have := hsg.2 hneg
  rw [if_pos hneg]
  repeat' first | apply jS | apply jO | apply jN | apply jT | (refine Qi (h1 := ?_) (h2 := ?_) <;> intro hc <;> try (exfalso; omega)) | refine Q5 rfl ?_
  all_goals first
   | (exfalso; omega)
   | skip
  refine Qb pqq rfl eqq rfl (fun w _ _ => YF w (-2) oq oq) fun w v w' _ _ _ hR => ?_
  subst hR
  repeat' first | apply jS | apply jD | apply jN | refine Q1 ?_ | refine Q2 ?_ | refine Q6 ?_ | refine Q3 ?_ | refine Qf fun _ => ?_ | refine Q3 ?_ | apply jT
  refine Qz 1 rfl rfl rfl rfl rfl rfl rfl rfl ?_
  repeat' first | refine Q1 ?_ | refine Qg ?_ | fail
  refine Zd (A := _ :: _ :: (J.u.N ++ J.ui.N)) (N := J.d.N) (B := J.v.N ++ (J.vi.N ++ [])) (by simp only [List.append_assoc, List.cons_append, List.nil_append]; rfl) pqq rfl eqq rfl (fun w hs => YP K 1 w J.d.A J.d.c J.d.N m n t t (-2) (gE S.d) hJ.d hs htm htm hm hn oq dq (fun a b' _ _ => QW hb.d a b')) (fun u Nd hkNd hONd => ?_)
  rw [Qm (fun a b' _ hb' => Qf8 hD.d htm hb')] at hONd
  simp only [List.append_assoc, List.cons_append, List.nil_append]
  repeat' first | apply jS | apply jD | apply jN | refine Q1 ?_ | refine Q2 ?_ | refine Q6 ?_ | apply jT
  refine Qz 1 rfl rfl rfl rfl rfl rfl rfl rfl ?_
  repeat' first | refine Q1 ?_ | refine Qg ?_ | fail
  refine Zd (A := _ :: _ :: []) (N := J.u.N) (B := J.ui.N ++ (Nd ++ (J.v.N ++ (J.vi.N ++ [])))) (by simp only [List.append_assoc, List.cons_append, List.nil_append]; rfl) pqq rfl eqq rfl (fun w hs => YP K 1 w J.u.A J.u.c J.u.N m m t t (-2) (gE S.u) hJ.u hs htm htm hm hm oq dq (fun a b' _ _ => QW hb.u a b')) (fun u Nu hkNu hONu => ?_)
  rw [Qm (fun a b' _ hb' => Qf8 hD.u htm hb')] at hONu
  simp only [List.append_assoc, List.cons_append, List.nil_append]
  repeat' first | apply jD | apply jN | refine Q1 ?_ | refine Q2 ?_ | refine Q6 ?_ | apply jT
  refine Qz 1 rfl rfl rfl rfl rfl rfl rfl rfl ?_
  repeat' first | refine Q1 ?_ | refine Qg ?_ | fail
  refine Zd (A := _ :: _ :: Nu) (N := J.ui.N) (B := Nd ++ (J.v.N ++ (J.vi.N ++ []))) (by simp only [List.append_assoc, List.cons_append, List.nil_append]; rfl) pqq rfl eqq rfl (fun w hs => Xw K 1 w J.ui.A J.ui.c J.ui.N m m t t (-2) (gE S.ui) hJ.ui hs htm htm hm hm oq dq (fun a b' _ _ => QW hb.ui a b')) (fun u Nui hkNui hONui => ?_)
  rw [Qm (fun a b' ha _ => Qjx hD.ui htm ha)] at hONui
  simp only [List.append_assoc, List.cons_append, List.nil_append]
  repeat' first | apply jO | apply jN | refine Q1 ?_ | refine Q2 ?_ | refine Q7 ?_ | refine Qe ?_ | refine Q6 ?_ | refine QL (k := _) (h := ?_) | apply jT
  refine Zg (fun a w' st => ⟨st.kp, ⟨⟨J.u.A, J.u.c, Nu⟩, ⟨J.ui.A, J.ui.c, Nui⟩, ⟨J.d.A, J.d.c, Nd⟩, J.v, J.vi⟩, ?_, fun p hp => st.hs.blk p (List.mem_cons_of_mem _ hp), ⟨hONu, hONui, hONd, hJ.v, hJ.vi⟩, ⟨⟨rfl, rfl⟩, ⟨rfl, rfl⟩, ⟨rfl, rfl⟩, ⟨rfl, rfl⟩, ⟨rfl, rfl⟩⟩⟩)
  unfold jbH keys at *
  simp only [List.map_cons, List.map_append, hkNd, hkNu, hkNui]
 ·have := fun h => hneg (hsg.1 h)
  rw [if_neg hneg]
  repeat' first | apply jO | apply jN | apply jT | refine Q1 ?_ | refine Q2 ?_ | refine Q7 ?_ | refine Qe ?_ | refine Q6 ?_ | (refine Qi (h1 := ?_) (h2 := ?_) <;> intro hc <;> try (exfalso; omega)) | refine QL (k := _) (h := ?_) | apply jK | refine Q4 rfl ?_
  all_goals first
   | (exfalso; omega)
   | skip
  exact Zg (fun a w' st => ⟨st.kp, J, rfl, fun p hp => st.hs.blk p hp, hJ, SameF.refl J⟩)


theorem Q7m (t a : Nat) : exN t t a = a := by
 unfold exN
 by_cases e : a = t
 ·rw [if_pos e, e]
 ·rw [if_neg e, if_neg e]
theorem Q40 {r c t : Nat} {g : List (List Int)} (h : Rec r c g) (ht : t < r) : exL t t g = g := (h.exL ht ht).ext h fun a b _ _ => by rw [Q20 h ht ht, Q7m]
theorem Q41 {r c t : Nat} {g : List (List Int)} (h : Rec r c g) (ht : t < c) : exK t t g = g := h.exK.ext h fun a b ha _ => by rw [Q0g h ht ht ha, Q7m]
theorem Qhm {m n t : Nat} {S : Sm} (h : Dm m n S) (htm : t < m) (htn : t < n) : S.ex t t t = S := by
 unfold Sm.ex
 rw [Q40 h.u htm, Q41 h.ui htm, Q40 h.d htm, Q41 h.d htn, Q41 h.v htn, Q40 h.vi htn]
theorem WL {m n t t' : Nat} {S S' : Sm} (h : Dm m n S) (hs : stpB m n t S = some (S', t')) : Dm m n S' ∧ t' ≤ m ∧ t' ≤ n := by
 unfold stpB at hs
 split at hs
 ·cases hs
 ·rename_i hf
  have hf : (leastF S t m n).2.2 = true := by simpa using hf
  obtain ⟨⟨l1, l2, l3, l4⟩, l5⟩ := Xk hf
  split at hs
  ·cases hs
   exact ⟨h.ex l2 l4 oq oq, by omega, by omega⟩
  ·cases h1 : fsR S t m with
   | some i => rw [h1] at hs; cases hs; obtain ⟨g1, g2, _⟩ := Q3v h1; exact ⟨h.rows g2 oq, by omega, by omega⟩
   | none =>
    rw [h1] at hs
    dsimp only at hs
    cases h2 : fsC S t n with
    | some j => rw [h2] at hs; cases hs; obtain ⟨g1, g2, _⟩ := Q3x h2; exact ⟨h.cols g2 oq, by omega, by omega⟩
    | none =>
     rw [h2] at hs
     dsimp only at hs
     cases h3 : spoiledF S t m n with
     | some i => rw [h3] at hs; cases hs; obtain ⟨g1, g2, _⟩ := Q3h h3; exact ⟨h.rows oq g2, by omega, by omega⟩
     | none =>
      rw [h3] at hs
      cases hs
      by_cases hg : gE S.d t t < 0
      ·rw [if_pos hg]; exact ⟨Qf5 h oq, by omega, by omega⟩
      ·rw [if_neg hg]; exact ⟨h, by omega, by omega⟩

theorem Qfy {m n t : Nat} {S S2 : Sm} (hl : (leastF S t m n).2.2 = true) (he : ¬((leastF S t m n).1 ≠ t ∨ (leastF S t m n).2.1 ≠ t)) (h : clrB m n t S = some S2) : stpB m n t S = some (S2, t) := by
 unfold stpB
 rw [if_neg (by rw [hl]; simp), if_neg he]
 unfold clrB at h
 cases h1 : fsR S t m with
 | some i => rw [h1] at h; cases h; rfl
 | none =>
  rw [h1] at h
  dsimp only at h ⊢
  cases h2 : fsC S t n with
  | some j => rw [h2] at h; cases h; rfl
  | none => rw [h2] at h; cases h
theorem Qfx {m n t i : Nat} {S : Sm} (hl : (leastF S t m n).2.2 = true) (he : ¬((leastF S t m n).1 ≠ t ∨ (leastF S t m n).2.1 ≠ t)) (h : clrB m n t S = none) (hs : spoiledF S t m n = some i) : stpB m n t S = some (S.rows t i (aT 1), t) := by
 unfold stpB
 rw [if_neg (by rw [hl]; simp), if_neg he]
 unfold clrB at h
 cases h1 : fsR S t m with
 | some i => rw [h1] at h; cases h
 | none =>
  rw [h1] at h
  dsimp only at h ⊢
  cases h2 : fsC S t n with
  | some j => rw [h2] at h; cases h
  | none => rw [hs]
theorem Qfw {m n t : Nat} {S : Sm} (hl : (leastF S t m n).2.2 = true) (he : ¬((leastF S t m n).1 ≠ t ∨ (leastF S t m n).2.1 ≠ t)) (h : clrB m n t S = none) (hs : spoiledF S t m n = none) : stpB m n t S = some (if gE S.d t t < 0 then S.neg t else S, t + 1) := by
 unfold stpB
 rw [if_neg (by rw [hl]; simp), if_neg he]
 unfold clrB at h
 cases h1 : fsR S t m with
 | some i => rw [h1] at h; cases h
 | none =>
  rw [h1] at h
  dsimp only at h ⊢
  cases h2 : fsC S t n with
  | some j => rw [h2] at h; cases h
  | none => rw [hs]
theorem Q6u {m n k t t' : Nat} {S S' : Sm} (hk : 0 < k) (h : stpB m n t S = some (S', t')) : runB m n k t S = ((runB m n (k - 1) t' S').1, (runB m n (k - 1) t' S').2.1, (runB m n (k - 1) t' S').2.2 + 1) := by
 obtain ⟨k, rfl⟩ : ∃ j, k = j + 1 := ⟨k - 1, by omega⟩
 rw [Nat.add_sub_cancel]
 show (match stpB m n t S with | none => _ | some r => _) = _
 rw [h]
theorem Q6v {m n k t : Nat} {S : Sm} (h : (leastF S t m n).2.2 = false) : runB m n k t S = (S, t, 0) := by
 cases k with
 | zero => rfl
 | succ k =>
  show (match stpB m n t S with | none => _ | some r => _) = _
  rw [show stpB m n t S = none by unfold stpB; rw [if_pos h]]
theorem We {K k i m n t t1 t2 : Nat} {S S1 S2 : Sm} (hlt : i < k) (hrun : runB m n k t S = ((runB m n (k - i) t1 S1).1, (runB m n (k - i) t1 S1).2.1, (runB m n (k - i) t1 S1).2.2 + i))
  (hok : ∀ j, j ≤ (runB m n (k - i) t1 S1).2.2 → Ok K (runB m n j t1 S1).1) (hs : stpB m n t1 S1 = some (S2, t2)) :
  runB m n k t S = ((runB m n (k - (i + 1)) t2 S2).1, (runB m n (k - (i + 1)) t2 S2).2.1, (runB m n (k - (i + 1)) t2 S2).2.2 + (i + 1)) ∧ ∀ j, j ≤ (runB m n (k - (i + 1)) t2 S2).2.2 → Ok K (runB m n j t2 S2).1 := by
 have e := Q6u (k := k - i) oq hs
 rw [Nat.sub_sub] at e
 rw [e] at hrun hok
 refine ⟨by rw [hrun]; dsimp only; rw [show (runB m n (k - (i + 1)) t2 S2).2.2 + 1 + i = (runB m n (k - (i + 1)) t2 S2).2.2 + (i + 1) by omega], fun j hj => ?_⟩
 have h := hok (j + 1) dgq
 rw [Q6u oq hs, Nat.add_sub_cancel] at h
 exact h

set_option maxHeartbeats 16000000 in
theorem Qi7 (K : Nat) (w : World) (b : Nat) (J : JV) (m n t s k : Nat) (S : Sm) (hJ : IsJ J m n S) (hD : Dm m n S) (hs : Hsat (jbH b J m n t s) w) (hm : m ≤ 200) (hn : n ≤ 200) (htm : t ≤ m) (htn : t ≤ n) (hK : K ≤ 21000000) (hsk : s + k < 1099511627776)
  (hb : ∀ j, j ≤ (runB m n k t S).2.2 → Ok K (runB m n j t S).1) :
  Calls Tryz.prog 27 #[.pointer (some ⟨b, 0, none⟩), nv k] w (Ret fun v w' => JbR b J m n t s ((runB m n k t S).2.1 : Nat) ((s + (runB m n k t S).2.2 : Nat) : Int) (runB m n k t S).1 w w' ∧ v = iv (if (leastF (runB m n k t S).1 (runB m n k t S).2.1 m n).2.2 = true then 60 else 0)) := by
 have hM := QC hs
 refine Q8 [] (keys (jbH b J m n t s)) hM (jbH b J m n t s) Tryz.func27 rfl mixed (by kernel_rfl) Tryz.ntmps27 Tryz.results27 rfl hs (fun p hp => List.mem_map.2 ⟨p, hp, rfl⟩) ?_
 simp only [toS, textOps, toSOp, kindAt, kindOf, odAt, sopsAt, ordOf, zipF]
 repeat' first | apply jS | apply jO | apply jN | apply jT | refine Q1 ?_ | refine Q0 ?_ | refine Qn ?_ | (refine Qi (h1 := ?_) (h2 := ?_) <;> intro hc <;> try (exfalso; omega)) | (refine QM (h1 := ?_) (h2 := ?_) <;> intro hc <;> try (exfalso; omega)) | apply jK | refine Q4 rfl ?_ | apply jB
 refine Qj (ι := Nat × Nat × Sm × JV) ⟨fun z => [(5, nv z.1), (0, .pointer (some ⟨b, 0, none⟩)), (1, nv k)], fun z => jbH b z.2.2.2 m n z.2.1 ((s + z.1 : Nat) : Int),
  fun z => z.1 ≤ k ∧ Dm m n z.2.2.1 ∧ IsJ z.2.2.2 m n z.2.2.1 ∧ SameF J z.2.2.2 ∧ keys (jbH b z.2.2.2 m n z.2.1 ((s + z.1 : Nat) : Int)) = keys (jbH b J m n t s) ∧ z.2.1 ≤ m ∧ z.2.1 ≤ n ∧
   runB m n k t S = ((runB m n (k - z.1) z.2.1 z.2.2.1).1, (runB m n (k - z.1) z.2.1 z.2.2.1).2.1, (runB m n (k - z.1) z.2.1 z.2.2.1).2.2 + z.1) ∧
   ∀ j, j ≤ (runB m n (k - z.1) z.2.1 z.2.2.1).2.2 → Ok K (runB m n j z.2.1 z.2.2.1).1, fun z => k - z.1⟩ (0, t, S, J) ⟨Nat.zero_le _, hD, hJ, SameF.refl J, rfl, htm, htn, rfl, hb⟩ cqq (HSub.refl _) (fun z hz => ?_)
 obtain ⟨i, t1, S1, J1⟩ := z
 obtain ⟨hik, hD1, hJ1, hF1, hk1, htm1, htn1, hrun, hok⟩ := hz
 dsimp only at hik hD1 hJ1 hF1 hk1 htm1 htn1 hrun hok ⊢
 have hb1 : Ok K S1 := hok 0 (Nat.zero_le _)
 by_cases hlt : i < k
 ·repeat' first | apply jS | refine Q1 ?_ | (refine Qi (h1 := ?_) (h2 := ?_) <;> intro hc <;> try (exfalso; omega)) | apply jO
  refine Qb pqq rfl eqq rfl (fun w _ hs => Q14 K w b J1 m n t1 ((s + i : Nat) : Int) S1 hJ1 hs hm hn htm1 htn1 oq hb1.d) fun w v w' _ _ _ hR => ?_
  subst hR
  by_cases hle : (leastF S1 t1 m n).2.2 = true
  ·rw [hle]
   obtain ⟨⟨l1, l2, l3, l4⟩, hlv⟩ := Xk hle
   repeat' first | apply jS | apply jO | apply jN | apply jT | refine Q1 ?_ | refine Q2 ?_ | refine Q7 ?_ | refine Ql ?_ | refine QT (h := ?_) | refine Q6 ?_ | (refine Qi (h1 := ?_) (h2 := ?_) <;> intro hc <;> try (exfalso; omega)) | apply jK | refine Q5 rfl ?_ | apply jB
   refine XU (A := []) rfl pqq rfl eqq rfl (fun w hs => Qe2 K w b J1 m n t1 ((s + i : Nat) : Int) S1 hJ1 hD1 hs hm hn htm1 htn1 oq hb1 hle) fun v J2 hk2 hJ2 hF2 hR => ?_
   subst hR
   rw [List.nil_append]
   by_cases hmv : (leastF S1 t1 m n).1 ≠ t1 ∨ (leastF S1 t1 m n).2.1 ≠ t1
   ·have hst : stpB m n t1 S1 = some (S1.ex (leastF S1 t1 m n).1 (leastF S1 t1 m n).2.1 t1, t1) := by
     unfold stpB
     rw [if_neg (by rw [hle]; simp), if_pos hmv]
    rw [decide_eq_true hmv]
    repeat' first | apply jS | apply jO | apply jN | apply jT | refine Q1 ?_ | refine Q2 ?_ | refine Q0 ?_ | refine Q7 ?_ | refine Qe ?_ | refine QT (h := ?_) | refine Q6 ?_ | refine QL (k := _) (h := ?_) | apply jK | refine Q4 rfl ?_ | apply jW
    obtain ⟨hrun2, hok2⟩ := We hlt hrun hok hst
    obtain ⟨hD2, htm2, htn2⟩ := WL hD1 hst
    exact Qa (i + 1, t1, S1.ex (leastF S1 t1 m n).1 (leastF S1 t1 m n).2.1 t1, J2) ⟨hlt, hD2, hJ2, hF1.trans hF2, hk2.trans hk1, htm2, htn2, hrun2, hok2⟩ dgq cqq (HSub.refl _)
   ·rw [decide_eq_false hmv]
    obtain ⟨e1, e2⟩ : (leastF S1 t1 m n).1 = t1 ∧ (leastF S1 t1 m n).2.1 = t1 := by omega
    rw [e1] at l2
    rw [e2] at l4
    rw [e1, e2] at hlv
    rw [e1, e2, Qhm hD1 l2 l4] at hJ2
    repeat' first | apply jS | apply jO | apply jN | apply jT | refine Q1 ?_ | refine Q0 ?_ | refine QT (h := ?_) | refine Q5 rfl ?_
    refine XU (A := []) rfl pqq rfl eqq rfl (fun w hs => Qbs K w b J2 m n t1 ((s + i : Nat) : Int) S1 hJ2 hD1 hs hm hn l2 l4 oq hb1 hlv) fun v J3 hk3 hJ3 hF3 hR => ?_
    subst hR
    rw [List.nil_append]
    cases hcl : clrB m n t1 S1 with
    | some S2 =>
     rw [hcl] at hJ3
     repeat' first | apply jS | apply jO | apply jN | apply jT | refine Q1 ?_ | refine Q2 ?_ | refine Q0 ?_ | refine Q7 ?_ | refine Qe ?_ | refine QT (h := ?_) | refine Q6 ?_ | refine QL (k := _) (h := ?_) | apply jK | refine Q4 rfl ?_ | apply jW
     have hst := Qfy hle hmv hcl
     obtain ⟨hrun2, hok2⟩ := We hlt hrun hok hst
     obtain ⟨hD2, htm2, htn2⟩ := WL hD1 hst
     exact Qa (i + 1, t1, S2, J3) ⟨hlt, hD2, hJ3, (hF1.trans hF2).trans hF3, hk3.trans (hk2.trans hk1), htm2, htn2, hrun2, hok2⟩ dgq cqq (HSub.refl _)
    | none =>
     rw [hcl] at hJ3
     repeat' first | apply jS | apply jO | apply jN | apply jT | refine Q1 ?_ | refine Q0 ?_ | refine QT (h := ?_) | refine Q5 rfl ?_
     refine XU (A := []) rfl pqq rfl eqq rfl (fun w hs => Qi1 K w b J3 m n t1 ((s + i : Nat) : Int) S1 hJ3 hD1 hs hm hn l2 l4 oq hb1 hlv) fun v J4 hk4 hJ4 hF4 hR => ?_
     subst hR
     rw [List.nil_append]
     cases hsp : spoiledF S1 t1 m n with
     | some q =>
      rw [hsp] at hJ4
      repeat' first | apply jS | apply jO | apply jN | apply jT | refine Q1 ?_ | refine Q2 ?_ | refine Q0 ?_ | refine Q7 ?_ | refine Qe ?_ | refine QT (h := ?_) | refine Q6 ?_ | refine QL (k := _) (h := ?_) | apply jK | refine Q4 rfl ?_ | apply jW
      have hst := Qfx hle hmv hcl hsp
      obtain ⟨hrun2, hok2⟩ := We hlt hrun hok hst
      obtain ⟨hD2, htm2, htn2⟩ := WL hD1 hst
      exact Qa (i + 1, t1, _, J4) ⟨hlt, hD2, hJ4, ((hF1.trans hF2).trans hF3).trans hF4, hk4.trans (hk3.trans (hk2.trans hk1)), htm2, htn2, hrun2, hok2⟩ dgq cqq (HSub.refl _)
     | none =>
      rw [hsp] at hJ4
      repeat' first | apply jS | apply jO | apply jN | apply jT | refine Q1 ?_ | refine Q0 ?_ | refine QT (h := ?_) | refine Q5 rfl ?_
      have hst := Qfw hle hmv hcl hsp
      refine XU (A := []) (R := fun _ => True) rfl pqq rfl eqq rfl (fun w hs => (Q8s K w b J4 m n t1 ((s + i : Nat) : Int) S1 hJ4 hD1 hs hm hn l2 l4 oq hb1).mono fun e w' he => by
        cases e with
        | panicked _ => exact he.elim
        | outgrown => exact he.elim
        | returned v => exact ⟨he, trivial⟩) (fun v J5 hk5 hJ5 hF5 _ => ?_)
      rw [List.nil_append]
      repeat' first | apply jO | apply jN | apply jT | refine Q1 ?_ | refine Q2 ?_ | refine Q0 ?_ | refine Q7 ?_ | refine Qe ?_ | refine Q6 ?_ | refine QL (k := _) (h := ?_) | apply jW
      obtain ⟨hrun2, hok2⟩ := We hlt hrun hok hst
      obtain ⟨hD2, htm2, htn2⟩ := WL hD1 hst
      exact Qa (i + 1, t1 + 1, _, J5) ⟨hlt, hD2, hJ5, (((hF1.trans hF2).trans hF3).trans hF4).trans hF5, hk5.trans (hk4.trans (hk3.trans (hk2.trans hk1))), htm2, htn2, hrun2, hok2⟩ dgq cqq (HSub.refl _)
  ·have hle : (leastF S1 t1 m n).2.2 = false := by simpa using hle
   rw [hle]
   repeat' first | apply jS | apply jO | apply jN | apply jT | refine Q1 ?_ | refine Ql ?_ | refine Qn ?_ | refine QT (h := ?_) | apply jU | refine Q4 rfl ?_ | refine Qc ?_ | refine Qy (h := ?_) | apply jE
   refine Qb pqq rfl eqq rfl (fun w _ hs => Q14 K w b J1 m n t1 ((s + i : Nat) : Int) S1 hJ1 hs hm hn htm1 htn1 oq hb1.d) fun w v w' _ _ _ hR => ?_
   subst hR
   have hrn : runB m n k t S = (S1, t1, i) := by rw [hrun, Q6v hle]; dsimp only; rw [Nat.zero_add]
   rw [hrn]
   dsimp only
   rw [hle]
   repeat' first | apply jS | apply jO | apply jN | apply jT | refine Q1 ?_ | refine Q0 ?_ | apply jV | apply jR | refine Q5 rfl ?_
   exact Qd rfl (fun a w' st => ⟨⟨st.kp, J1, hk1, fun p hp => st.hs.blk p hp, hJ1, hF1⟩, rfl⟩)
 ·obtain rfl : i = k := by omega
  repeat' first | apply jS | apply jO | apply jN | apply jT | refine Q1 ?_ | refine Qn ?_ | (refine Qi (h1 := ?_) (h2 := ?_) <;> intro hc <;> try (exfalso; omega)) | apply jU | refine Q4 rfl ?_ | refine Qc ?_ | refine Qy (h := ?_) | apply jE
  refine Qb pqq rfl eqq rfl (fun w _ hs => Q14 K w b J1 m n t1 ((s + i : Nat) : Int) S1 hJ1 hs hm hn htm1 htn1 oq hb1.d) fun w v w' _ _ _ hR => ?_
  subst hR
  by_cases hle : (leastF S1 t1 m n).2.2 = true
  ·have hrn : runB m n i t S = (S1, t1, i) := by rw [hrun, Nat.sub_self]; show (S1, t1, 0 + i) = _; rw [Nat.zero_add]
   rw [hrn]
   dsimp only
   rw [hle]
   repeat' first | apply jS | apply jO | apply jN | apply jT | refine Q1 ?_ | refine Q0 ?_ | apply jK | apply jR | refine Q4 rfl ?_
   exact Qd rfl (fun a w' st => ⟨⟨st.kp, J1, hk1, fun p hp => st.hs.blk p hp, hJ1, hF1⟩, rfl⟩)
  ·have hle : (leastF S1 t1 m n).2.2 = false := by simpa using hle
   have hrn : runB m n i t S = (S1, t1, i) := by rw [hrun, Nat.sub_self]; show (S1, t1, 0 + i) = _; rw [Nat.zero_add]
   rw [hrn]
   dsimp only
   rw [hle]
   repeat' first | apply jS | apply jO | apply jN | apply jT | refine Q1 ?_ | refine Q0 ?_ | apply jV | apply jR | refine Q5 rfl ?_
   exact Qd rfl (fun a w' st => ⟨⟨st.kp, J1, hk1, fun p hp => st.hs.blk p hp, hJ1, hF1⟩, rfl⟩)


theorem newJ {c : Cx} {F : SFrame} {H0 N H : SHeap} {a : Act} {w : World} (st : St c F H a w) (hM : c.M = keys H0) (hH : HSub (H0 ++ N) H) : New N c.w0 w := by
 refine st.newM ((Qh (HSub.refl _)).trans hH) fun p hp h => ?_
 rw [hM] at h
 have nd := hH.nodup st.hs.nd
 unfold keys at nd
 rw [List.map_append] at nd
 exact (List.nodup_append.1 nd).2.2 p.1 h p.1 (List.mem_map.2 ⟨p, hp, rfl⟩) rfl

theorem Q3o (b : Nat) (z : Int) : OwnZ [(b, .cells ⟨[.bool (wz z).1, sv (wz z).2]⟩ 75)] (.slice (some ⟨b, 0, none⟩) 1 1) 1 [z] := by
 have h := OwnRow.mk' (e := 75) (sz := 2) (n := 1) (b := b) (cs := ⟨[.bool (wz z).1, sv (wz z).2]⟩) spq (by simp only [maxLen]; omega)
 exact h

set_option maxHeartbeats 8000000 in
theorem Qbz (K : Nat) (w : World) (b : Nat) (J : JV) (m n t : Nat) (s : Int) (S : Sm) (hJ : IsJ J m n S) (hs : Hsat (jbH b J m n t s) w) (hm : m ≤ 200) (hn : n ≤ 200) (htm : t ≤ m) (htn : t ≤ n) (hb : okG K S.d = true) :
  Calls Tryz.prog 69 #[.pointer (some ⟨b, 0, none⟩)] w (Ret fun v w' => Kp [] w w' ∧ ∃ N, New N w w' ∧ OwnZ N v t ((List.range t).map fun k => gE S.d k k)) := by
 have hM := QC hs
 refine Q8 [] (keys (jbH b J m n t s)) hM (jbH b J m n t s) Tryz.func69 rfl mixed (by kernel_rfl) Tryz.ntmps69 Tryz.results69 rfl hs (fun p hp => List.mem_map.2 ⟨p, hp, rfl⟩) ?_
 simp only [toS, textOps, toSOp, kindAt, kindOf, odAt, sopsAt, ordOf, zipF]
 unfold jbH jbC
 repeat' first | apply jS | apply jO | apply jN | apply jT | refine Q0 ?_ | apply jB
 refine Qj (ι := Nat × SHeap × Value) ⟨fun z => [(4, nv z.1), (3, z.2.2), (0, .pointer (some ⟨b, 0, none⟩))], fun z => jbH b J m n t s ++ (z.2.1 ++ []),
  fun z => z.1 ≤ t ∧ OwnZ z.2.1 z.2.2 z.1 ((List.range z.1).map fun k => gE S.d k k), fun z => t - z.1⟩ (0, [], .slice none 0 0) ⟨Nat.zero_le _, OwnZ.nil⟩ cqq (by show HSub (jbH b J m n t s ++ []) _; rw [List.append_nil (jbH b J m n t s)]; exact HSub.refl _) (fun z hz => ?_)
 obtain ⟨k, N, v4⟩ := z
 obtain ⟨hk, hO⟩ := hz
 dsimp only at hk hO ⊢
 unfold jbH jbC
 by_cases hlt : k < t
 ·have hk1 : k < m := by omega
  have hk2 : k < n := by omega
  repeat' first | apply jS | apply jO | apply jN | apply jT | refine Q1 ?_ | refine Q2 ?_ | refine Q7 ?_ | refine Q6 ?_ | (refine Qi (h1 := ?_) (h2 := ?_) <;> intro hc <;> try (exfalso; omega)) | apply jK | refine Q5 rfl ?_ | apply jB
  refine Qb pqq rfl eqq rfl (fun w _ hs => Yd w b J m n t s S k k hJ (HSub.in0.hsat hs) hk1 hk2 hm hn) fun w v w' _ _ _ hR => ?_
  subst hR
  skip
  refine Wn (sz := 2) (vs := [Wv (gE S.d k k)]) (cl := [.bool (wz (gE S.d k k)).1, sv (wz (gE S.d k k)).2]) rfl rfl (by first | rfl | trivial | exact ⟨rfl, rfl⟩) rfl rfl (fun v hv => by
   cases List.mem_singleton.1 hv; rfl) rfl dq dq (fun b2 => ?_)
  have h1 := Q3o b2 (gE S.d k k)
  skip
  refine Zn (A := _ :: jbH b J m n t s) (B := []) hO h1.rd Q9 rfl pqq rfl rfl rfl rfl oq (fun v' N' hO' => ?_)
  rw [show (List.map (fun k => gE S.d k k) (List.range k)) ++ [gE S.d k k] = List.map (fun k => gE S.d k k) (List.range (k + 1)) by rw [List.range_succ, List.map_append]; rfl] at hO'
  repeat' first | apply jO | apply jN | apply jT | refine Q1 ?_ | refine Q0 ?_ | refine Qe ?_ | apply jW
  exact Qa (k + 1, N', v') ⟨by dsimp only; omega, hO'⟩ dgq cqq (HSub.skip (HSub.refl _))
 ·obtain rfl : k = t := by omega
  repeat' first | apply jS | apply jO | apply jN | apply jT | refine Q1 ?_ | refine Q2 ?_ | refine Q0 ?_ | refine Q7 ?_ | refine Q6 ?_ | (refine Qi (h1 := ?_) (h2 := ?_) <;> intro hc <;> try (exfalso; omega)) | apply jU | apply jE | apply jR | refine Q4 rfl ?_ | refine Qc ?_
  exact Qd rfl (fun a w' st => ⟨Z1 hs st.kp (fun p hp => st.hs.blk p (List.mem_append_left _ hp)), N, newJ st rfl (by rw [List.append_nil N]; exact HSub.refl _), hO⟩)

end Go.Proofs.YtbofgpenopcfaaaGreatDoor

