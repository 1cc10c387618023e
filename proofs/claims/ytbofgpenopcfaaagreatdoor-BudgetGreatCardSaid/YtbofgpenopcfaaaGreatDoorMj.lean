import Derived.Test.YtbofgpenopcfaaaGreatDoorMi
import Derived.Test.YtbofgpenopcfaaaGreatDoorMh
import Derived.Test.YtbofgpenopcfaaaGreatDoorMc
namespace Go.Proofs.YtbofgpenopcfaaaGreatDoor
open Go Go.RowKit
set_option linter.unusedSimpArgs false
set_option linter.unusedVariables false
set_option linter.unusedSectionVars false


def aT (k : Int) : Tn := ⟨1, k, 0, 1⟩
def lsAt (S : Sm) (i : Nat) (st : Nat × Nat × Bool) (j : Nat) : Nat × Nat × Bool :=
 if gE S.d i j ≠ 0 ∧ (st.2.2 = false ∨ (gE S.d i j).natAbs < (gE S.d st.1 st.2.1).natAbs) then (i, j, true) else st
def WJ (S : Sm) (t n : Nat) (st : Nat × Nat × Bool) (i : Nat) : Nat × Nat × Bool := (List.range' t (n - t)).foldl (lsAt S i) st
def Qu (S : Sm) (t m n : Nat) : Nat × Nat × Bool := (List.range' t (m - t)).foldl (WJ S t n) (0, 0, false)

def exL (i k : Nat) (g : List (List Int)) : List (List Int) := (g.set i (g.getD k [])).set k (g.getD i [])
def exK (i k : Nat) (g : List (List Int)) : List (List Int) := g.map fun r => (r.set i (r.getD k 0)).set k (r.getD i 0)
def exN (i k a : Nat) : Nat := if a = k then i else if a = i then k else a
theorem WP {i k a r : Nat} (hi : i < r) (hk : k < r) (ha : a < r) : exN i k a < r := by
 unfold exN
 split
 ·exact hi
 ·split
  ·exact hk
  ·exact ha
theorem Rec.exL {r c i k : Nat} {g : List (List Int)} (h : Rec r c g) (hi : i < r) (hk : k < r) : Rec r c (exL i k g) := (h.set (h.at hk)).set (h.at hi)
theorem Rec.exK {r c i k : Nat} {g : List (List Int)} (h : Rec r c g) : Rec r c (exK i k g) :=
 ⟨by unfold Go.Proofs.YtbofgpenopcfaaaGreatDoor.exK; rw [List.length_map, h.len], fun x hx => by
  unfold Go.Proofs.YtbofgpenopcfaaaGreatDoor.exK at hx
  obtain ⟨y, hy, rfl⟩ := List.mem_map.1 hx
  rw [List.length_set, List.length_set]; exact h.row y hy⟩
theorem Q2j {r c i k a b : Nat} {g : List (List Int)} (h : Rec r c g) (hi : i < r) (hk : k < r) : gE (exL i k g) a b = gE g (exN i k a) b := by
 have hl := h.len
 unfold gE exL exN
 rw [Yq (by rw [List.length_set]; omega)]
 by_cases e1 : a = k
 ·rw [if_pos e1, if_pos e1]
 ·rw [if_neg e1, if_neg e1, Yq oq]
  by_cases e2 : a = i
  ·rw [if_pos e2, if_pos e2]
  ·rw [if_neg e2, if_neg e2]
theorem Q14 {r c i k a b : Nat} {g : List (List Int)} (h : Rec r c g) (hi : i < c) (hk : k < c) (ha : a < r) : gE (exK i k g) a b = gE g a (exN i k b) := by
 have h1 := h.at ha
 have hl := h.len
 have e : (exK i k g).getD a [] = ((g.getD a []).set i ((g.getD a []).getD k 0)).set k ((g.getD a []).getD i 0) := by
  unfold exK
  rw [List.getD, List.getElem?_map, List.getD, List.getElem?_eq_getElem (show a < g.length by omega)]
  rfl
 unfold gE exN
 rw [e, Yq (by rw [List.length_set]; omega)]
 by_cases e1 : b = k
 ·rw [if_pos e1, if_pos e1]
 ·rw [if_neg e1, if_neg e1, Yq oq]
  by_cases e2 : b = i
  ·rw [if_pos e2, if_pos e2]
  ·rw [if_neg e2, if_neg e2]
def Sm.ex (r c t : Nat) (S : Sm) : Sm := ⟨exL r t S.u, exK r t S.ui, exK c t (exL r t S.d), exK c t S.v, exL c t S.vi⟩
theorem Dm.ex {m n r c t : Nat} {S : Sm} (h : Dm m n S) (hr : r < m) (hc : c < n) (htm : t < m) (htn : t < n) : Dm m n (S.ex r c t) :=
 ⟨h.u.exL hr htm, h.ui.exK, (h.d.exL hr htm).exK, h.v.exK, h.vi.exL hc htn⟩

def fsR (S : Sm) (t m : Nat) : Option Nat := (List.range' (t + 1) (m - (t + 1))).find? fun i => decide (gE S.d i t ≠ 0)
def fsC (S : Sm) (t n : Nat) : Option Nat := (List.range' (t + 1) (n - (t + 1))).find? fun k => decide (gE S.d t k ≠ 0)
def stpB (m n t : Nat) (S : Sm) : Option (Sm × Nat) :=
 if (Qu S t m n).2.2 = false then none
 else if (Qu S t m n).1 ≠ t ∨ (Qu S t m n).2.1 ≠ t then some (S.ex (Qu S t m n).1 (Qu S t m n).2.1 t, t)
 else match fsR S t m with
 | some i => some (S.rows i t (aT (-(gE S.d i t / gE S.d t t))), t)
 | none => match fsC S t n with
  | some k => some (S.cols k t (aT (-(gE S.d t k / gE S.d t t))), t)
  | none => match Zb S t m n with
   | some i => some (S.rows t i (aT 1), t)
   | none => some (if gE S.d t t < 0 then S.neg t else S, t + 1)
def runB (m n : Nat) : Nat → Nat → Sm → Sm × Nat × Nat
 | 0, t, S => (S, t, 0)
 | k + 1, t, S => match stpB m n t S with
  | none => (S, t, 0)
  | some r => ((runB m n k r.2 r.1).1, (runB m n k r.2 r.1).2.1, (runB m n k r.2 r.1).2.2 + 1)


theorem Qeh {S : Sm} {R V : Nat → Nat → Prop} {i j : Nat} {st : Nat × Nat × Bool} (hr : R i j) (h1 : st.2.2 = true → R st.1 st.2.1 ∧ gE S.d st.1 st.2.1 ≠ 0)
  (h2 : ∀ a b, V a b → gE S.d a b ≠ 0 → st.2.2 = true ∧ (gE S.d st.1 st.2.1).natAbs ≤ (gE S.d a b).natAbs) :
  ((lsAt S i st j).2.2 = true → R (lsAt S i st j).1 (lsAt S i st j).2.1 ∧ gE S.d (lsAt S i st j).1 (lsAt S i st j).2.1 ≠ 0) ∧
  ∀ a b, (V a b ∨ (a = i ∧ b = j)) → gE S.d a b ≠ 0 → (lsAt S i st j).2.2 = true ∧ (gE S.d (lsAt S i st j).1 (lsAt S i st j).2.1).natAbs ≤ (gE S.d a b).natAbs := by
 unfold lsAt
 by_cases h : gE S.d i j ≠ 0 ∧ (st.2.2 = false ∨ (gE S.d i j).natAbs < (gE S.d st.1 st.2.1).natAbs)
 ·rw [if_pos h]
  refine ⟨fun _ => ⟨hr, h.1⟩, fun a b hv h0 => ⟨rfl, ?_⟩⟩
  dsimp only
  rcases hv with hv | ⟨rfl, rfl⟩
  ·obtain ⟨e1, e2⟩ := h2 a b hv h0
   rcases h.2 with h3 | h3
   ·rw [e1] at h3; cases h3
   ·omega
  ·exact Nat.le_refl _
 ·rw [if_neg h]
  refine ⟨h1, fun a b hv h0 => ?_⟩
  rcases hv with hv | ⟨rfl, rfl⟩
  ·exact h2 a b hv h0
  ·cases hb : st.2.2 with
   | false => exact absurd ⟨h0, .inl hb⟩ h
   | true => exact ⟨rfl, Nat.le_of_not_lt fun h3 => h ⟨h0, .inr h3⟩⟩
theorem Q5r {S : Sm} {R : Nat → Nat → Prop} {i : Nat} : ∀ (l : List Nat), (∀ j ∈ l, R i j) → ∀ (V : Nat → Nat → Prop) (st : Nat × Nat × Bool), (st.2.2 = true → R st.1 st.2.1 ∧ gE S.d st.1 st.2.1 ≠ 0) →
  (∀ a b, V a b → gE S.d a b ≠ 0 → st.2.2 = true ∧ (gE S.d st.1 st.2.1).natAbs ≤ (gE S.d a b).natAbs) →
  ((l.foldl (lsAt S i) st).2.2 = true → R (l.foldl (lsAt S i) st).1 (l.foldl (lsAt S i) st).2.1 ∧ gE S.d (l.foldl (lsAt S i) st).1 (l.foldl (lsAt S i) st).2.1 ≠ 0) ∧
  ∀ a b, (V a b ∨ (a = i ∧ b ∈ l)) → gE S.d a b ≠ 0 → (l.foldl (lsAt S i) st).2.2 = true ∧ (gE S.d (l.foldl (lsAt S i) st).1 (l.foldl (lsAt S i) st).2.1).natAbs ≤ (gE S.d a b).natAbs
 | [], _, V, st, h1, h2 => ⟨h1, fun a b hv h0 => by
  rcases hv with hv | ⟨_, hv⟩
  ·exact h2 a b hv h0
  ·cases hv⟩
 | j :: l, hl, V, st, h1, h2 => by
  obtain ⟨g1, g2⟩ := Qeh (R := R) (V := V) (hl j (List.mem_cons_self ..)) h1 h2
  obtain ⟨k1, k2⟩ := Q5r l (fun x hx => hl x (List.mem_cons_of_mem _ hx)) _ (lsAt S i st j) g1 g2
  refine ⟨k1, fun a b hv h0 => k2 a b ?_ h0⟩
  rcases hv with hv | ⟨rfl, hv⟩
  ·exact .inl (.inl hv)
  ·rcases List.mem_cons.1 hv with rfl | hv
   ·exact .inl (.inr ⟨rfl, rfl⟩)
   ·exact .inr ⟨rfl, hv⟩
theorem Q2h {S : Sm} {R : Nat → Nat → Prop} {t n : Nat} : ∀ (l : List Nat), (∀ i ∈ l, ∀ j ∈ List.range' t (n - t), R i j) → ∀ (V : Nat → Nat → Prop) (st : Nat × Nat × Bool), (st.2.2 = true → R st.1 st.2.1 ∧ gE S.d st.1 st.2.1 ≠ 0) →
  (∀ a b, V a b → gE S.d a b ≠ 0 → st.2.2 = true ∧ (gE S.d st.1 st.2.1).natAbs ≤ (gE S.d a b).natAbs) →
  ((l.foldl (WJ S t n) st).2.2 = true → R (l.foldl (WJ S t n) st).1 (l.foldl (WJ S t n) st).2.1 ∧ gE S.d (l.foldl (WJ S t n) st).1 (l.foldl (WJ S t n) st).2.1 ≠ 0) ∧
  ∀ a b, (V a b ∨ (a ∈ l ∧ b ∈ List.range' t (n - t))) → gE S.d a b ≠ 0 → (l.foldl (WJ S t n) st).2.2 = true ∧ (gE S.d (l.foldl (WJ S t n) st).1 (l.foldl (WJ S t n) st).2.1).natAbs ≤ (gE S.d a b).natAbs
 | [], _, V, st, h1, h2 => ⟨h1, fun a b hv h0 => by
  rcases hv with hv | ⟨hv, _⟩
  ·exact h2 a b hv h0
  ·cases hv⟩
 | i :: l, hl, V, st, h1, h2 => by
  obtain ⟨g1, g2⟩ := Q5r (R := R) (i := i) (List.range' t (n - t)) (hl i (List.mem_cons_self ..)) V st h1 h2
  obtain ⟨k1, k2⟩ := Q2h l (fun x hx => hl x (List.mem_cons_of_mem _ hx)) _ (WJ S t n st i) g1 g2
  refine ⟨k1, fun a b hv h0 => k2 a b ?_ h0⟩
  rcases hv with hv | ⟨hv, hb⟩
  ·exact .inl (.inl hv)
  ·rcases List.mem_cons.1 hv with rfl | hv
   ·exact .inl (.inr ⟨rfl, hb⟩)
   ·exact .inr ⟨hv, hb⟩
theorem Xv {t n a : Nat} : a ∈ List.range' t (n - t) ↔ t ≤ a ∧ a < n := by
 rw [List.mem_range'_1]; omega
theorem Xw {S : Sm} {t m n : Nat} (h : (Qu S t m n).2.2 = true) : (t ≤ (Qu S t m n).1 ∧ (Qu S t m n).1 < m ∧ t ≤ (Qu S t m n).2.1 ∧ (Qu S t m n).2.1 < n) ∧ gE S.d (Qu S t m n).1 (Qu S t m n).2.1 ≠ 0 := by
 obtain ⟨g, _⟩ := Q2h (S := S) (R := fun a b => t ≤ a ∧ a < m ∧ t ≤ b ∧ b < n) (t := t) (n := n) (List.range' t (m - t)) (fun i hi j hj => by
  have h1 := Xv.1 hi
  have h2 := Xv.1 hj
  exact ⟨h1.1, h1.2, h2.1, h2.2⟩) (fun _ _ => False) (0, 0, false) (fun h => by cases h) (fun _ _ h => h.elim)
 exact g h
theorem Q97 {S : Sm} {t m n a b : Nat} (h1 : t ≤ a) (h2 : a < m) (h3 : t ≤ b) (h4 : b < n) (h0 : gE S.d a b ≠ 0) : (Qu S t m n).2.2 = true ∧ (gE S.d (Qu S t m n).1 (Qu S t m n).2.1).natAbs ≤ (gE S.d a b).natAbs := by
 obtain ⟨_, g⟩ := Q2h (S := S) (R := fun _ _ => True) (t := t) (n := n) (List.range' t (m - t)) (fun _ _ _ _ => trivial) (fun _ _ => False) (0, 0, false) (fun h => by cases h) (fun _ _ h => h.elim)
 exact g a b (.inr ⟨Xv.2 ⟨h1, h2⟩, Xv.2 ⟨h3, h4⟩⟩) h0


theorem Q4j {S : Sm} {t m : Nat} (h : fsR S t m = none) {i : Nat} (h1 : t < i) (h2 : i < m) : gE S.d i t = 0 := by
 have := List.find?_eq_none.1 h i (Xv.2 ⟨h1, h2⟩)
 simpa using this
theorem Q4i {S : Sm} {t m i : Nat} (h : fsR S t m = some i) : t < i ∧ i < m ∧ gE S.d i t ≠ 0 := by
 have h1 := Xv.1 (List.mem_of_find?_eq_some h)
 have h2 := List.find?_some h
 exact ⟨h1.1, h1.2, by simpa using h2⟩
theorem Q4l {S : Sm} {t n : Nat} (h : fsC S t n = none) {k : Nat} (h1 : t < k) (h2 : k < n) : gE S.d t k = 0 := by
 have := List.find?_eq_none.1 h k (Xv.2 ⟨h1, h2⟩)
 simpa using this
theorem Q4k {S : Sm} {t n k : Nat} (h : fsC S t n = some k) : t < k ∧ k < n ∧ gE S.d t k ≠ 0 := by
 have h1 := Xv.1 (List.mem_of_find?_eq_some h)
 have h2 := List.find?_some h
 exact ⟨h1.1, h1.2, by simpa using h2⟩
theorem Q44 {S : Sm} {t m n i : Nat} (h : Zb S t m n = some i) : t < i ∧ i < m ∧ ∃ k, t < k ∧ k < n ∧ gE S.d i k ≠ 0 := by
 have h1 := Xv.1 (List.mem_of_find?_eq_some h)
 have h2 := List.find?_some h
 unfold Q06 at h2
 obtain ⟨k, hk, h3⟩ := List.any_eq_true.1 h2
 have h4 := Xv.1 hk
 refine ⟨h1.1, h1.2, k, h4.1, h4.2, fun h0 => ?_⟩
 have h5 := of_decide_eq_true h3
 unfold remZ at h5
 rw [h0] at h5
 simp at h5

def Zc (m n t : Nat) (S : Sm) : Prop := ∀ i, i < t → (∀ k, k < n → k ≠ i → gE S.d i k = 0) ∧ ∀ k, k < m → k ≠ i → gE S.d k i = 0
def Fr (M m n : Nat) (S : Sm) : Prop := ∀ a b, a < m → b < n → (gE S.d a b).natAbs < 256 ^ M
def Qs (M m n t : Nat) (S : Sm) : Prop := (∀ b, b < n → (gE S.d t b).natAbs < 256 ^ M) ∧ ∀ a, a < m → a ≠ t → (∀ b, b < n → (gE S.d a b).natAbs < 256 ^ M) ∨ (t < a ∧ gE S.d a t = 0 ∧ ∀ b, b < n → (gE S.d a b).natAbs < 256 ^ (2 * M + 1))
def Calm (m n t : Nat) (S : Sm) : Prop := ((Qu S t m n).1 ≠ t ∨ (Qu S t m n).2.1 ≠ t) ∨ (fsR S t m = none ∧ fsC S t n ≠ none)
theorem Fr.q {M m n t : Nat} {S : Sm} (h : Fr M m n S) (ht : t < m) : Qs M m n t S := ⟨fun b hb => h t b ht hb, fun a ha _ => .inl fun b hb => h a b ha hb⟩
theorem Qs.fr {M m n t : Nat} {S : Sm} (h : Qs M m n t S) : Fr (2 * M + 2) m n S := fun a b ha hb => by
 by_cases e : a = t
 ·subst e; exact QV (h.1 b hb) oq
 ·rcases h.2 a ha e with h1 | ⟨_, _, h1⟩
  ·exact QV (h1 b hb) oq
  ·exact QV (h1 b hb) oq
theorem Fr.mono {M M' m n : Nat} {S : Sm} (h : Fr M m n S) (hM : M ≤ M') : Fr M' m n S := fun a b ha hb => QV (h a b ha hb) hM
def Mb (B : Nat) : Nat → Nat
 | 0 => B
 | l + 1 => 2 * Mb B l + 2
theorem Q1c {B k l : Nat} (h : k ≤ l) : Mb B k ≤ Mb B l := by
 induction l with
 | zero => obtain rfl : k = 0 := by omega
           exact Nat.le_refl _
 | succ l ih =>
  by_cases e : k = l + 1
  ·subst e; exact Nat.le_refl _
  ·have := ih oq; rw [Mb]; omega
theorem Q96 {x y z : Int} {K L : Nat} (hx : x.natAbs < 256 ^ K) (hy : y.natAbs < 256 ^ L) (hz : z.natAbs < 256 ^ K) : (z + x * y).natAbs < 256 ^ (K + L + 1) := by
 have h1 := WH hx hy
 have h2 := Int.natAbs_add_le z (x * y)
 have h3 := QV hz (Nat.le_add_right K L)
 rw [Nat.pow_succ]
 omega
theorem X2 {M : Nat} {x p : Int} (h : x.natAbs < 256 ^ M) : (-(x / p)).natAbs < 256 ^ M := by
 rw [Int.natAbs_neg]
 exact Nat.lt_of_le_of_lt (Int.natAbs_ediv_le_natAbs x p) h
theorem Qfo {x p : Int} (hp : p ≠ 0) : (x + -(x / p) * p).natAbs < p.natAbs ∧ (x + -(x / p) * p = x % p) := by
 have h1 : x + -(x / p) * p = x % p := by rw [Int.emod_def, Int.neg_mul, Int.mul_comm]; omega
 have h2 := Int.emod_nonneg x hp
 have h3 := Int.emod_lt x hp
 exact ⟨by rw [h1]; omega, h1⟩


theorem Qib {m n r c t a b : Nat} {S : Sm} (h : Dm m n S) (hr : r < m) (hc : c < n) (htm : t < m) (htn : t < n) (ha : a < m) (hb : b < n) : gE (S.ex r c t).d a b = gE S.d (exN r t a) (exN c t b) := by
 show gE (exK c t (exL r t S.d)) a b = _
 rw [Q14 (h.d.exL hr htm) hc htn ha, Q2j h.d hr htm]
theorem Qbn {m n i k a b : Nat} {f : Int} {S : Sm} (h : Dm m n S) (hi : i < m) (hk : k < m) (hik : i ≠ k) (hb : b < n) : gE (S.rows i k (aT f)).d a b = if a = i then gE S.d i b + f * gE S.d k b else gE S.d a b := by
 show gE (Wd i k (aT f) S.d) a b = _
 rw [Wl h.d hi hk hb]
 by_cases e1 : a = k
 ·subst e1
  rw [if_pos rfl, if_neg (fun e => hik e.symm)]
  show 0 * _ + 1 * _ = _
  omega
 ·rw [if_neg e1]
  by_cases e2 : a = i
  ·rw [if_pos e2, if_pos e2]
   show 1 * gE S.d i b + f * gE S.d k b = _
   omega
  ·rw [if_neg e2, if_neg e2]
theorem Qbo {m n i k a b : Nat} {f : Int} {S : Sm} (h : Dm m n S) (hi : i < n) (hk : k < n) (hik : i ≠ k) (ha : a < m) : gE (S.cols i k (aT f)).d a b = if b = i then gE S.d a i + f * gE S.d a k else gE S.d a b := by
 show gE (Xi i k (aT f) S.d) a b = _
 rw [Wm h.d hi hk ha]
 by_cases e1 : b = k
 ·subst e1
  rw [if_pos rfl, if_neg (fun e => hik e.symm)]
  show 0 * _ + 1 * _ = _
  omega
 ·rw [if_neg e1]
  by_cases e2 : b = i
  ·rw [if_pos e2, if_pos e2]
   show 1 * gE S.d a i + f * gE S.d a k = _
   omega
  ·rw [if_neg e2, if_neg e2]

structure Inv (B m n k t : Nat) (S : Sm) : Prop where
 dm : Dm m n S
 z : Zc m n t S
 lv : ∃ l, (2 * l ≤ k ∧ Fr (Mb B l) m n S) ∨ (2 * l ≤ k + 1 ∧ Fr (Mb B l) m n S ∧ Calm m n t S) ∨ (2 * l + 1 ≤ k ∧ Qs (Mb B l) m n t S)

theorem Qkn {B m n k t r c : Nat} {S : Sm} (h : Inv B m n k t S) (hr : r < m) (hc : c < n) (htr : t ≤ r) (htc : t ≤ c) : Inv B m n (k + 1) t (S.ex r c t) := by
 have htm : t < m := by omega
 have htn : t < n := by omega
 have fr : ∀ {M}, Fr M m n S → Fr M m n (S.ex r c t) := fun hf a b ha hb => by
  rw [Qib h.dm hr hc htm htn ha hb]
  exact hf _ _ (WP hr htm ha) (WP hc htn hb)
 refine ⟨h.dm.ex hr hc htm htn, fun i hi => ⟨fun b hb hne => ?_, fun a ha hne => ?_⟩, ?_⟩
 ·rw [Qib h.dm hr hc htm htn oq hb]
  have e : exN r t i = i := by unfold exN; rw [if_neg oq, if_neg oq]
  rw [e]
  refine (h.z i hi).1 _ (WP hc htn hb) ?_
  unfold exN
  split
  ·omega
  ·split <;> omega
 ·rw [Qib h.dm hr hc htm htn ha oq]
  have e : exN c t i = i := by unfold exN; rw [if_neg oq, if_neg oq]
  rw [e]
  refine (h.z i hi).2 _ (WP hr htm ha) ?_
  unfold exN
  split
  ·omega
  ·split <;> omega
 ·obtain ⟨l, hl⟩ := h.lv
  rcases hl with ⟨h1, h2⟩ | ⟨h1, h2, _⟩ | ⟨h1, h2⟩
  ·exact ⟨l, .inl ⟨by omega, fr h2⟩⟩
  ·exact ⟨l, .inl ⟨by omega, fr h2⟩⟩
  ·exact ⟨l + 1, .inl ⟨by omega, fr h2.fr⟩⟩

structure Here (m n t : Nat) (S : Sm) : Prop where
 tm : t < m
 tn : t < n
 p : gE S.d t t ≠ 0
 ls : (Qu S t m n).1 = t ∧ (Qu S t m n).2.1 = t
theorem Here.calm {m n t : Nat} {S : Sm} (h : Here m n t S) (hc : Calm m n t S) : fsR S t m = none ∧ fsC S t n ≠ none := by
 rcases hc with h1 | h1
 ·rcases h1 with h1 | h1
  ·exact absurd h.ls.1 h1
  ·exact absurd h.ls.2 h1
 ·exact h1
theorem Inv.lev {B m n k t : Nat} {S : Sm} (h : Inv B m n k t S) (hh : Here m n t S) (hc : ¬ (fsR S t m = none ∧ fsC S t n ≠ none)) : ∃ l, 2 * l ≤ k ∧ Qs (Mb B l) m n t S := by
 obtain ⟨l, hl⟩ := h.lv
 rcases hl with ⟨h1, h2⟩ | ⟨_, _, h3⟩ | ⟨h1, h2⟩
 ·exact ⟨l, h1, h2.q hh.tm⟩
 ·exact absurd (hh.calm h3) hc
 ·exact ⟨l, by omega, h2⟩

theorem Qhz {B m n k t i : Nat} {S : Sm} (h : Inv B m n k t S) (hh : Here m n t S) (hf : fsR S t m = some i) : Inv B m n (k + 1) t (S.rows i t (aT (-(gE S.d i t / gE S.d t t)))) := by
 obtain ⟨hti, him, h0⟩ := Q4i hf
 have htm := hh.tm
 have htn := hh.tn
 have e : ∀ a b, b < n → gE (S.rows i t (aT (-(gE S.d i t / gE S.d t t)))).d a b = if a = i then gE S.d i b + -(gE S.d i t / gE S.d t t) * gE S.d t b else gE S.d a b := fun a b hb => Qbn h.dm him htm oq hb
 obtain ⟨l, hlk, hq⟩ := h.lev hh (fun hc => by rw [hf] at hc; cases hc.1)
 have hi0 : ∀ b, b < n → (gE S.d i b).natAbs < 256 ^ Mb B l := by
  rcases hq.2 i him oq with h1 | ⟨_, h1, _⟩
  ·exact h1
  ·exact absurd h1 h0
 have hnew : ∀ b, b < n → (gE S.d i b + -(gE S.d i t / gE S.d t t) * gE S.d t b).natAbs < 256 ^ (2 * Mb B l + 1) := fun b hb => by
  have := Q96 (X2 (p := gE S.d t t) (hi0 t htn)) (hq.1 b hb) (hi0 b hb)
  exact QV this oq
 have hrem := Qfo (x := gE S.d i t) hh.p
 refine ⟨h.dm.rows him htm, fun j hj => ⟨fun b hb hne => ?_, fun a ha hne => ?_⟩, ?_⟩
 ·rw [e j b hb, if_neg oq]; exact (h.z j hj).1 b hb hne
 ·rw [e a j oq]
  split
  ·rw [(h.z j hj).2 i him oq, (h.z j hj).2 t htm oq]; omega
  ·exact (h.z j hj).2 a ha hne
 ·by_cases hr : gE S.d i t + -(gE S.d i t / gE S.d t t) * gE S.d t t = 0
  ·refine ⟨l, .inr (.inr ⟨by omega, fun b hb => ?_, fun a ha hat => ?_⟩)⟩
   ·rw [e t b hb, if_neg oq]; exact hq.1 b hb
   ·by_cases hai : a = i
    ·subst hai
     refine .inr ⟨hti, by rw [e a t htn, if_pos rfl]; exact hr, fun b hb => ?_⟩
     rw [e a b hb, if_pos rfl]; exact hnew b hb
    ·rcases hq.2 a ha hat with h1 | ⟨h1, h2, h3⟩
     ·exact .inl fun b hb => by rw [e a b hb, if_neg hai]; exact h1 b hb
     ·exact .inr ⟨h1, by rw [e a t htn, if_neg hai]; exact h2, fun b hb => by rw [e a b hb, if_neg hai]; exact h3 b hb⟩
  ·refine ⟨l + 1, .inr (.inl ⟨by omega, fun a b ha hb => ?_, .inl ?_⟩)⟩
   ·rw [e a b hb]
    split
    ·exact QV (hnew b hb) (by rw [Mb]; omega)
    ·exact hq.fr a b ha hb
   ·refine Classical.byContradiction fun hn => ?_
    have hn1 : (Qu (S.rows i t (aT (-(gE S.d i t / gE S.d t t)))) t m n).1 = t := Classical.byContradiction fun x => hn (.inl x)
    have hn2 : (Qu (S.rows i t (aT (-(gE S.d i t / gE S.d t t)))) t m n).2.1 = t := Classical.byContradiction fun x => hn (.inr x)
    have hm := Q97 (S := S.rows i t (aT (-(gE S.d i t / gE S.d t t)))) (t := t) (m := m) (n := n) (a := i) (b := t) oq him (Nat.le_refl _) htn (by rw [e i t htn, if_pos rfl]; exact hr)
    rw [hn1, hn2, e t t htn, if_neg oq, e i t htn, if_pos rfl] at hm
    omega

theorem Qi1 {B m n k t j : Nat} {S : Sm} (h : Inv B m n k t S) (hh : Here m n t S) (hf0 : fsR S t m = none) (hf : fsC S t n = some j) : Inv B m n (k + 1) t (S.cols j t (aT (-(gE S.d t j / gE S.d t t)))) := by
 obtain ⟨htj, hjn, h0⟩ := Q4k hf
 have htm := hh.tm
 have htn := hh.tn
 have hz : ∀ a, a < m → a ≠ t → gE S.d a t = 0 := fun a ha hat => by
  rcases Nat.lt_or_ge a t with h1 | h1
  ·exact (h.z a h1).1 t htn oq
  ·exact Q4j hf0 oq ha
 have e : ∀ a b, a < m → a ≠ t → gE (S.cols j t (aT (-(gE S.d t j / gE S.d t t)))).d a b = gE S.d a b := fun a b ha hat => by
  rw [Qbo h.dm hjn htn oq ha, hz a ha hat]
  split
  ·rename_i hb; rw [hb]; omega
  ·rfl
 have et : ∀ b, gE (S.cols j t (aT (-(gE S.d t j / gE S.d t t)))).d t b = if b = j then gE S.d t j + -(gE S.d t j / gE S.d t t) * gE S.d t t else gE S.d t b := fun b => Qbo h.dm hjn htn oq htm
 have hrem := Qfo (x := gE S.d t j) hh.p
 have rowt : ∀ {M}, (∀ b, b < n → (gE S.d t b).natAbs < 256 ^ M) → ∀ b, b < n → (gE (S.cols j t (aT (-(gE S.d t j / gE S.d t t)))).d t b).natAbs < 256 ^ M := fun hM b hb => by
  rw [et b]
  split
  ·have := hM t htn; omega
  ·exact hM b hb
 have fr : ∀ {M}, Fr M m n S → Fr M m n (S.cols j t (aT (-(gE S.d t j / gE S.d t t)))) := fun hF a b ha hb => by
  by_cases hat : a = t
  ·subst hat; exact rowt (fun b hb => hF a b ha hb) b hb
  ·rw [e a b ha hat]; exact hF a b ha hb
 refine ⟨h.dm.cols hjn htn, fun i hi => ⟨fun b hb hne => ?_, fun a ha hne => ?_⟩, ?_⟩
 ·rw [e i b oq oq]; exact (h.z i hi).1 b hb hne
 ·by_cases hat : a = t
  ·subst hat; rw [et i, if_neg oq]; exact (h.z i hi).2 a ha hne
  ·rw [e a i ha hat]; exact (h.z i hi).2 a ha hne
 ·obtain ⟨l, hl⟩ := h.lv
  rcases hl with ⟨h1, h2⟩ | ⟨h1, h2, _⟩ | ⟨h1, h2⟩
  ·exact ⟨l, .inl ⟨by omega, fr h2⟩⟩
  ·exact ⟨l, .inl ⟨by omega, fr h2⟩⟩
  ·refine ⟨l, .inr (.inr ⟨by omega, rowt h2.1, fun a ha hat => ?_⟩)⟩
   rcases h2.2 a ha hat with g | ⟨g1, g2, g3⟩
   ·exact .inl fun b hb => by rw [e a b ha hat]; exact g b hb
   ·exact .inr ⟨g1, by rw [e a t ha hat]; exact g2, fun b hb => by rw [e a b ha hat]; exact g3 b hb⟩

theorem Qi0 {B m n k t i : Nat} {S : Sm} (h : Inv B m n k t S) (hh : Here m n t S) (hf0 : fsR S t m = none) (hf1 : fsC S t n = none) (hf : Zb S t m n = some i) : Inv B m n (k + 1) t (S.rows t i (aT 1)) := by
 obtain ⟨hti, him, j, htj, hjn, hj0⟩ := Q44 hf
 have htm := hh.tm
 have htn := hh.tn
 have e : ∀ a b, b < n → gE (S.rows t i (aT 1)).d a b = if a = t then gE S.d t b + 1 * gE S.d i b else gE S.d a b := fun a b hb => Qbn h.dm htm him oq hb
 obtain ⟨l, hlk, hq⟩ := h.lev hh (fun hc => hc.2 hf1)
 refine ⟨h.dm.rows htm him, fun a ha => ⟨fun b hb hne => ?_, fun b hb hne => ?_⟩, l + 1, .inr (.inl ⟨by omega, fun a b ha hb => ?_, .inr ⟨?_, fun hn => ?_⟩⟩)⟩
 ·rw [e a b hb, if_neg oq]; exact (h.z a ha).1 b hb hne
 ·rw [e b a oq]
  split
  ·rw [(h.z a ha).2 t htm oq, (h.z a ha).2 i him oq]; omega
  ·exact (h.z a ha).2 b hb hne
 ·rw [e a b hb]
  split
  ·have h1 := hq.1 b hb
   have h2 : (gE S.d i b).natAbs < 256 ^ (2 * Mb B l + 1) := by
    rcases hq.2 i him oq with g | ⟨_, _, g⟩
    ·exact QV (g b hb) oq
    ·exact g b hb
   have h3 := QV h1 (show Mb B l ≤ 2 * Mb B l + 1 by omega)
   have h4 := Int.natAbs_add_le (gE S.d t b) (1 * gE S.d i b)
   rw [Int.one_mul] at h4 ⊢
   rw [Mb, show 2 * Mb B l + 2 = (2 * Mb B l + 1) + 1 from rfl, Nat.pow_succ]
   omega
  ·exact hq.fr a b ha hb
 ·refine List.find?_eq_none.2 fun a ha => ?_
  have h1 := Xv.1 ha
  rw [e a t htn, if_neg oq, Q4j hf0 oq h1.2]
  simp
 ·have := Q4l hn htj hjn
  rw [e t j hjn, if_pos rfl, Q4l hf1 htj hjn] at this
  exact hj0 oq

theorem Q3i {B m n k t : Nat} {S S' : Sm} (h : Inv B m n k t S) (hh : Here m n t S) (hf0 : fsR S t m = none) (hf1 : fsC S t n = none) (hd : Dm m n S') (he : ∀ a b, a < m → b < n → gE S'.d a b = gE S.d a b ∨ (a = t ∧ gE S'.d a b = -gE S.d a b)) : Inv B m n (k + 1) (t + 1) S' := by
 have htm := hh.tm
 have htn := hh.tn
 have z0 : ∀ a b, a < m → b < n → gE S.d a b = 0 → gE S'.d a b = 0 := fun a b ha hb h0 => by
  rcases he a b ha hb with g | ⟨_, g⟩
  ·rw [g, h0]
  ·rw [g, h0]; rfl
 obtain ⟨l, hlk, hF⟩ : ∃ l, 2 * l ≤ k + 1 ∧ Fr (Mb B l) m n S := by
  obtain ⟨l, hl⟩ := h.lv
  rcases hl with ⟨h1, h2⟩ | ⟨h1, h2, _⟩ | ⟨h1, h2⟩
  ·exact ⟨l, by omega, h2⟩
  ·exact ⟨l, by omega, h2⟩
  ·exact ⟨l + 1, by omega, h2.fr⟩
 refine ⟨hd, fun i hi => ⟨fun b hb hne => z0 i b oq hb ?_, fun a ha hne => z0 a i ha oq ?_⟩, l, .inl ⟨hlk, fun a b ha hb => ?_⟩⟩
 ·rcases Nat.lt_or_ge i t with h1 | h1
  ·exact (h.z i h1).1 b hb hne
  ·obtain rfl : i = t := by omega
   rcases Nat.lt_or_ge b i with h2 | h2
   ·exact (h.z b h2).2 i htm oq
   ·exact Q4l hf1 oq hb
 ·rcases Nat.lt_or_ge i t with h1 | h1
  ·exact (h.z i h1).2 a ha hne
  ·obtain rfl : i = t := by omega
   rcases Nat.lt_or_ge a i with h2 | h2
   ·exact (h.z a h2).1 i htn oq
   ·exact Q4j hf0 oq ha
 ·have := hF a b ha hb
  rcases he a b ha hb with g | ⟨_, g⟩
  ·rw [g]; exact this
  ·rw [g, Int.natAbs_neg]; exact this


theorem Q6n {r c t a b : Nat} {g : List (List Int)} (h : Rec r c g) (ht : t < r) : gE (negR t g) a b = if a = t then -(gE g a b) else gE g a b := by
 unfold gE negR
 rw [Yq (by have := h.len; omega)]
 by_cases e : a = t
 ·subst e
  rw [if_pos rfl, if_pos rfl]
  generalize g.getD a [] = l
  rw [List.getD, List.getElem?_map, List.getD]
  cases l[b]? <;> simp
 ·rw [if_neg e, if_neg e]
theorem Qbc {r c t a b : Nat} {g : List (List Int)} (h : Rec r c g) (ht : t < c) (ha : a < r) : gE (negC t g) a b = if b = t then -(gE g a b) else gE g a b := by
 have h1 := h.at ha
 have hl := h.len
 have e : (negC t g).getD a [] = (g.getD a []).set t (-((g.getD a []).getD t 0)) := by
  unfold negC
  rw [List.getD, List.getElem?_map, List.getD, List.getElem?_eq_getElem (show a < g.length by omega)]
  rfl
 unfold gE
 rw [e, Yq oq]
 by_cases e1 : b = t
 ·subst e1; rw [if_pos rfl]
 ·rw [if_neg e1, if_neg e1]
theorem Q7y {r c t : Nat} {g : List (List Int)} (h : Rec r c g) (ht : t < r) : Rec r c (negR t g) := h.set (by rw [List.length_map]; exact h.at ht)
theorem Qe9 {r c t : Nat} {g : List (List Int)} (h : Rec r c g) : Rec r c (negC t g) :=
 ⟨by unfold negC; rw [List.length_map, h.len], fun x hx => by
  unfold negC at hx
  obtain ⟨y, hy, rfl⟩ := List.mem_map.1 hx
  rw [List.length_set]; exact h.row y hy⟩
theorem Qfu {m n t : Nat} {S : Sm} (h : Dm m n S) (ht : t < m) : Dm m n (S.neg t) := ⟨Q7y h.u ht, Qe9 h.ui, Q7y h.d ht, h.v, h.vi⟩

structure Ob (W m n : Nat) (S : Sm) : Prop where
 u : ∀ a b, a < m → b < m → (gE S.u a b).natAbs < 256 ^ W
 ui : ∀ a b, a < m → b < m → (gE S.ui a b).natAbs < 256 ^ W
 v : ∀ a b, a < n → b < n → (gE S.v a b).natAbs < 256 ^ W
 vi : ∀ a b, a < n → b < n → (gE S.vi a b).natAbs < 256 ^ W
theorem Ob.ex {W m n r c t : Nat} {S : Sm} (h : Ob W m n S) (hd : Dm m n S) (hr : r < m) (hc : c < n) (htm : t < m) (htn : t < n) : Ob W m n (S.ex r c t) := by
 refine ⟨fun a b ha hb => ?_, fun a b ha hb => ?_, fun a b ha hb => ?_, fun a b ha hb => ?_⟩
 ·show (gE (exL r t S.u) a b).natAbs < _
  rw [Q2j hd.u hr htm]; exact h.u _ _ (WP hr htm ha) hb
 ·show (gE (exK r t S.ui) a b).natAbs < _
  rw [Q14 hd.ui hr htm ha]; exact h.ui _ _ ha (WP hr htm hb)
 ·show (gE (exK c t S.v) a b).natAbs < _
  rw [Q14 hd.v hc htn ha]; exact h.v _ _ ha (WP hc htn hb)
 ·show (gE (exL c t S.vi) a b).natAbs < _
  rw [Q2j hd.vi hc htn]; exact h.vi _ _ (WP hc htn ha) hb
theorem Qe3 {f x y : Int} {K W : Nat} (hf : f.natAbs < 256 ^ K) (hx : x.natAbs < 256 ^ W) (hy : y.natAbs < 256 ^ W) : (1 * x + f * y).natAbs < 256 ^ (W + K + 1) ∧ (0 * x + 1 * y).natAbs < 256 ^ (W + K + 1) := by
 have h1 := WH hf hy
 have h2 := Int.natAbs_add_le (1 * x) (f * y)
 have h3 := QV hx (Nat.le_add_left W K)
 have h4 := QV hy (show W ≤ W + K + 1 by omega)
 rw [Int.one_mul] at h2
 rw [Int.zero_mul, Int.zero_add, Int.one_mul, Int.one_mul, Nat.add_comm W K, Nat.pow_succ]
 refine ⟨by omega, ?_⟩
 rw [← Nat.pow_succ]
 exact QV hy oq
theorem Ob.mono {W W' m n : Nat} {S : Sm} (h : Ob W m n S) (hW : W ≤ W') : Ob W' m n S := ⟨fun a b ha hb => QV (h.u a b ha hb) hW, fun a b ha hb => QV (h.ui a b ha hb) hW, fun a b ha hb => QV (h.v a b ha hb) hW, fun a b ha hb => QV (h.vi a b ha hb) hW⟩
theorem Ob.rows {W K m n i k : Nat} {f : Int} {S : Sm} (h : Ob W m n S) (hd : Dm m n S) (hi : i < m) (hk : k < m) (hf : f.natAbs < 256 ^ K) : Ob (W + K + 1) m n (S.rows i k (aT f)) := by
 refine ⟨fun a b ha hb => ?_, fun a b ha hb => ?_, fun a b ha hb => QV (h.v a b ha hb) oq, fun a b ha hb => QV (h.vi a b ha hb) oq⟩
 ·show (gE (Wd i k (aT f) S.u) a b).natAbs < _
  rw [Wl hd.u hi hk hb]
  have := Qe3 hf (h.u i b hi hb) (h.u k b hk hb)
  split
  ·exact this.2
  ·split
   ·exact this.1
   ·exact QV (h.u a b ha hb) oq
 ·show (gE (Xi i k (aT f).flip S.ui) a b).natAbs < _
  rw [Wm hd.ui hi hk ha]
  have hn : (-f).natAbs < 256 ^ K := by rw [Int.natAbs_neg]; exact hf
  have := Qe3 hn (h.ui a k ha hk) (h.ui a i ha hi)
  split
  ·show (-f * gE S.ui a i + 1 * gE S.ui a k).natAbs < _
   rw [Int.add_comm]; exact this.1
  ·split
   ·show (1 * gE S.ui a i + -0 * gE S.ui a k).natAbs < _
    rw [Int.add_comm, Int.neg_zero]; exact this.2
   ·exact QV (h.ui a b ha hb) oq
theorem Ob.cols {W K m n i k : Nat} {f : Int} {S : Sm} (h : Ob W m n S) (hd : Dm m n S) (hi : i < n) (hk : k < n) (hf : f.natAbs < 256 ^ K) : Ob (W + K + 1) m n (S.cols i k (aT f)) := by
 refine ⟨fun a b ha hb => QV (h.u a b ha hb) oq, fun a b ha hb => QV (h.ui a b ha hb) oq, fun a b ha hb => ?_, fun a b ha hb => ?_⟩
 ·show (gE (Xi i k (aT f) S.v) a b).natAbs < _
  rw [Wm hd.v hi hk ha]
  have := Qe3 hf (h.v a i ha hi) (h.v a k ha hk)
  split
  ·exact this.2
  ·split
   ·exact this.1
   ·exact QV (h.v a b ha hb) oq
 ·show (gE (Wd i k (aT f).flip S.vi) a b).natAbs < _
  rw [Wl hd.vi hi hk hb]
  have hn : (-f).natAbs < 256 ^ K := by rw [Int.natAbs_neg]; exact hf
  have := Qe3 hn (h.vi k b hk hb) (h.vi i b hi hb)
  split
  ·show (-f * gE S.vi i b + 1 * gE S.vi k b).natAbs < _
   rw [Int.add_comm]; exact this.1
  ·split
   ·show (1 * gE S.vi i b + -0 * gE S.vi k b).natAbs < _
    rw [Int.add_comm, Int.neg_zero]; exact this.2
   ·exact QV (h.vi a b ha hb) oq
theorem Ob.neg {W m n t : Nat} {S : Sm} (h : Ob W m n S) (hd : Dm m n S) (ht : t < m) : Ob W m n (S.neg t) := by
 refine ⟨fun a b ha hb => ?_, fun a b ha hb => ?_, h.v, h.vi⟩
 ·show (gE (negR t S.u) a b).natAbs < _
  rw [Q6n hd.u ht]
  split
  ·rw [Int.natAbs_neg]; exact h.u a b ha hb
  ·exact h.u a b ha hb
 ·show (gE (negC t S.ui) a b).natAbs < _
  rw [Qbc hd.ui ht ha]
  split
  ·rw [Int.natAbs_neg]; exact h.ui a b ha hb
  ·exact h.ui a b ha hb

def Wb (B W : Nat) : Nat → Nat
 | 0 => W
 | k + 1 => Wb B W k + Mb B ((k + 1) / 2) + 1
theorem Inv.el {B m n k t : Nat} {S : Sm} (h : Inv B m n k t S) : (∀ a, a < m → t < n → t ≤ a → gE S.d a t ≠ 0 → (gE S.d a t).natAbs < 256 ^ Mb B ((k + 1) / 2)) ∧ ∀ b, t < m → b < n → (gE S.d t b).natAbs < 256 ^ Mb B ((k + 1) / 2) := by
 obtain ⟨l, hl⟩ := h.lv
 rcases hl with ⟨h1, h2⟩ | ⟨h1, h2, _⟩ | ⟨h1, h2⟩
 ·exact ⟨fun a ha ht _ _ => QV (h2 a t ha ht) (Q1c oq), fun b ht hb => QV (h2 t b ht hb) (Q1c oq)⟩
 ·exact ⟨fun a ha ht _ _ => QV (h2 a t ha ht) (Q1c oq), fun b ht hb => QV (h2 t b ht hb) (Q1c oq)⟩
 ·refine ⟨fun a ha ht hta h0 => ?_, fun b ht hb => QV (h2.1 b hb) (Q1c oq)⟩
  by_cases e : a = t
  ·subst e; exact QV (h2.1 a ht) (Q1c oq)
  ·rcases h2.2 a ha e with g | ⟨_, g, _⟩
   ·exact QV (g t ht) (Q1c oq)
   ·exact absurd g h0
theorem Inv.fr {B m n k t : Nat} {S : Sm} (h : Inv B m n k t S) : Fr (Mb B ((k + 1) / 2)) m n S := by
 obtain ⟨l, hl⟩ := h.lv
 rcases hl with ⟨h1, h2⟩ | ⟨h1, h2, _⟩ | ⟨h1, h2⟩
 ·exact h2.mono (Q1c oq)
 ·exact h2.mono (Q1c oq)
 ·exact h2.fr.mono (Nat.le_trans (Nat.le_refl (Mb B (l + 1))) (Q1c oq))

theorem Qgq {B W m n k t t' : Nat} {S S' : Sm} (hB : 1 ≤ B) (h : Inv B m n k t S) (ho : Ob (Wb B W k) m n S) (hs : stpB m n t S = some (S', t')) : Inv B m n (k + 1) t' S' ∧ Ob (Wb B W (k + 1)) m n S' := by
 have hW : Wb B W (k + 1) = Wb B W k + Mb B ((k + 1) / 2) + 1 := rfl
 unfold stpB at hs
 split at hs
 ·cases hs
 ·rename_i hf
  have hf : (Qu S t m n).2.2 = true := by simpa using hf
  obtain ⟨⟨l1, l2, l3, l4⟩, l5⟩ := Xw hf
  split at hs
  ·cases hs
   exact ⟨Qkn h l2 l4 l1 l3, (ho.ex h.dm l2 l4 oq oq).mono oq⟩
  ·rename_i hne
   have e1 : (Qu S t m n).1 = t := Classical.byContradiction fun x => hne (.inl x)
   have e2 : (Qu S t m n).2.1 = t := Classical.byContradiction fun x => hne (.inr x)
   rw [e1, e2] at l5
   have hh : Here m n t S := ⟨by omega, by omega, l5, e1, e2⟩
   cases h1 : fsR S t m with
   | some i =>
    rw [h1] at hs
    cases hs
    obtain ⟨g1, g2, g3⟩ := Q4i h1
    refine ⟨Qhz h hh h1, ?_⟩
    rw [hW]
    exact ho.rows h.dm g2 hh.tm (X2 (h.el.1 i g2 hh.tn oq g3))
   | none =>
    rw [h1] at hs
    dsimp only at hs
    cases h2 : fsC S t n with
    | some j =>
     rw [h2] at hs
     cases hs
     obtain ⟨g1, g2, g3⟩ := Q4k h2
     refine ⟨Qi1 h hh h1 h2, ?_⟩
     rw [hW]
     exact ho.cols h.dm g2 hh.tn (X2 (h.el.2 j hh.tm g2))
    | none =>
     rw [h2] at hs
     dsimp only at hs
     cases h3 : Zb S t m n with
     | some i =>
      rw [h3] at hs
      cases hs
      obtain ⟨g1, g2, _⟩ := Q44 h3
      refine ⟨Qi0 h hh h1 h2 h3, ?_⟩
      rw [hW]
      refine (ho.rows (K := 1) h.dm hh.tm g2 dq).mono ?_
      have := Q1c (B := B) (Nat.zero_le ((k + 1) / 2))
      rw [show Mb B 0 = B from rfl] at this
      omega
     | none =>
      rw [h3] at hs
      cases hs
      by_cases hg : gE S.d t t < 0
      ·rw [if_pos hg]
       refine ⟨Q3i h hh h1 h2 (Qfu h.dm hh.tm) (fun a b ha hb => ?_), (ho.neg h.dm hh.tm).mono oq⟩
       have e : gE (S.neg t).d a b = if a = t then -(gE S.d a b) else gE S.d a b := Q6n h.dm.d hh.tm
       by_cases ea : a = t
       ·rw [if_pos ea] at e; exact .inr ⟨ea, e⟩
       ·rw [if_neg ea] at e; exact .inl e
      ·rw [if_neg hg]
       exact ⟨Q3i h hh h1 h2 h.dm (fun a b _ _ => .inl rfl), ho.mono oq⟩

def Kb (B W k : Nat) : Nat := Wb B W k + Mb B ((k + 1) / 2)
theorem Qlz {B W k l : Nat} (h : k ≤ l) : Wb B W k ≤ Wb B W l := by
 induction l with
 | zero => obtain rfl : k = 0 := by omega
           exact Nat.le_refl _
 | succ l ih =>
  by_cases e : k = l + 1
  ·subst e; exact Nat.le_refl _
  ·have := ih oq; rw [Wb]; omega
theorem XX {K r c : Nat} {g : List (List Int)} (h : Rec r c g) (e : ∀ a b, a < r → b < c → (gE g a b).natAbs < 256 ^ K) : okG K g = true := by
 unfold okG
 refine List.all_eq_true.2 fun x hx => List.all_eq_true.2 fun y hy => decide_eq_true ?_
 obtain ⟨a, ha, rfl⟩ := List.mem_iff_getElem.1 hx
 obtain ⟨b, hb, rfl⟩ := List.mem_iff_getElem.1 hy
 have h1 := h.len
 have h2 := h.row _ (List.getElem_mem ha)
 have := e a b oq oq
 unfold gE at this
 rw [List.getD, List.getD, List.getElem?_eq_getElem ha, Option.getD_some, List.getElem?_eq_getElem hb] at this
 exact this
theorem Inv.ok {B W m n k t : Nat} {S : Sm} (h : Inv B m n k t S) (ho : Ob (Wb B W k) m n S) : Ok (Kb B W k) S :=
 ⟨XX h.dm.u fun a b ha hb => QV (ho.u a b ha hb) (by unfold Kb; omega), XX h.dm.ui fun a b ha hb => QV (ho.ui a b ha hb) (by unfold Kb; omega),
  XX h.dm.d fun a b ha hb => QV (h.fr a b ha hb) (by unfold Kb; omega), XX h.dm.v fun a b ha hb => QV (ho.v a b ha hb) (by unfold Kb; omega), XX h.dm.vi fun a b ha hb => QV (ho.vi a b ha hb) (by unfold Kb; omega)⟩
theorem Qfn {B W m n : Nat} (hB : 1 ≤ B) : ∀ (j k t : Nat) (S : Sm), Inv B m n k t S → Ob (Wb B W k) m n S → Inv B m n (k + (runB m n j t S).2.2) (runB m n j t S).2.1 (runB m n j t S).1 ∧ Ob (Wb B W (k + (runB m n j t S).2.2)) m n (runB m n j t S).1
 | 0, k, t, S, h, ho => ⟨h, ho⟩
 | j + 1, k, t, S, h, ho => by
  rw [runB]
  cases hs : stpB m n t S with
  | none => exact ⟨h, ho⟩
  | some r =>
   obtain ⟨g1, g2⟩ := Qgq hB h ho hs
   have := Qfn hB j (k + 1) r.2 r.1 g1 g2
   dsimp only
   rw [show k + ((runB m n j r.2 r.1).2.2 + 1) = k + 1 + (runB m n j r.2 r.1).2.2 by omega]
   exact this
theorem Q6k {m n : Nat} : ∀ (j t : Nat) (S : Sm), (runB m n j t S).2.2 ≤ j
 | 0, _, _ => Nat.le_refl _
 | j + 1, t, S => by
  rw [runB]
  cases stpB m n t S with
  | none => exact Nat.zero_le _
  | some r => have := Q6k (m := m) (n := n) j r.2 r.1; dsimp only; omega


structure FV where
 A : Option Addr
 c : Nat
 N : SHeap
def Qm0 (F : FV) (r c : Nat) : Value := .slice F.A (r * c) F.c
structure JV where
 u : FV
 ui : FV
 d : FV
 v : FV
 vi : FV
def jbC (J : JV) (m n : Nat) (t s : Int) : Array Value := #[nv m, nv m, .slice J.u.A (m * m) J.u.c, nv m, nv m, .slice J.ui.A (m * m) J.ui.c, nv m, nv n, .slice J.d.A (m * n) J.d.c, nv n, nv n, .slice J.v.A (n * n) J.v.c, nv n, nv n, .slice J.vi.A (n * n) J.vi.c, iv t, iv s]
def jbH (b : Nat) (J : JV) (m n : Nat) (t s : Int) : SHeap := (b, .cells (jbC J m n t s) 72) :: (J.u.N ++ (J.ui.N ++ (J.d.N ++ (J.v.N ++ (J.vi.N ++ [])))))
structure IsJ (J : JV) (m n : Nat) (S : Sm) : Prop where
 u : OwnZ J.u.N (.slice J.u.A (m * m) J.u.c) (m * m) (tbz m m (gE S.u))
 ui : OwnZ J.ui.N (.slice J.ui.A (m * m) J.ui.c) (m * m) (tbz m m (gE S.ui))
 d : OwnZ J.d.N (.slice J.d.A (m * n) J.d.c) (m * n) (tbz m n (gE S.d))
 v : OwnZ J.v.N (.slice J.v.A (n * n) J.v.c) (n * n) (tbz n n (gE S.v))
 vi : OwnZ J.vi.N (.slice J.vi.A (n * n) J.vi.c) (n * n) (tbz n n (gE S.vi))
structure SameF (J J' : JV) : Prop where
 u : J'.u.A = J.u.A ∧ J'.u.c = J.u.c
 ui : J'.ui.A = J.ui.A ∧ J'.ui.c = J.ui.c
 d : J'.d.A = J.d.A ∧ J'.d.c = J.d.c
 v : J'.v.A = J.v.A ∧ J'.v.c = J.v.c
 vi : J'.vi.A = J.vi.A ∧ J'.vi.c = J.vi.c
theorem SameF.refl (J : JV) : SameF J J := ⟨⟨rfl, rfl⟩, ⟨rfl, rfl⟩, ⟨rfl, rfl⟩, ⟨rfl, rfl⟩, ⟨rfl, rfl⟩⟩
theorem SameF.trans {J J' J'' : JV} (h : SameF J J') (k : SameF J' J'') : SameF J J'' :=
 ⟨⟨k.u.1.trans h.u.1, k.u.2.trans h.u.2⟩, ⟨k.ui.1.trans h.ui.1, k.ui.2.trans h.ui.2⟩, ⟨k.d.1.trans h.d.1, k.d.2.trans h.d.2⟩, ⟨k.v.1.trans h.v.1, k.v.2.trans h.v.2⟩, ⟨k.vi.1.trans h.vi.1, k.vi.2.trans h.vi.2⟩⟩
def JbR (b : Nat) (J : JV) (m n : Nat) (t s t' s' : Int) (S' : Sm) (w w' : World) : Prop :=
 Kp (keys (jbH b J m n t s)) w w' ∧ ∃ J', keys (jbH b J' m n t' s') = keys (jbH b J m n t s) ∧ InW (jbH b J' m n t' s') w' ∧ IsJ J' m n S' ∧ SameF J J'
theorem JbR.same {b : Nat} {J : JV} {m n : Nat} {t s : Int} {S : Sm} (h : IsJ J m n S) {w w' : World} (h1 : Kp (keys (jbH b J m n t s)) w w') (h2 : ∀ p ∈ jbH b J m n t s, w'.heap[p.1]? = some p.2) : JbR b J m n t s t s S w w' :=
 ⟨h1, J, rfl, h2, h, SameF.refl J⟩

set_option maxHeartbeats 2000000 in
theorem Qeu (K : Nat) (w : World) (x y : Int) (hK : K ≤ 90000000) (hx : x.natAbs < 256 ^ K) (hy : y.natAbs < 256 ^ K) :
  Calls Tryz.prog 164 #[Wv x, Wv y] w (Ret fun v w' => Kp [] w w' ∧ v = .bool (decide (x.natAbs < y.natAbs))) := by
 have e : ∀ a : Int, (.agg #[.bool false, sv (magU a.natAbs)] : Value) = Wv ((a.natAbs : Nat) : Int) := fun a => by
  unfold Wv wv
  rw [decide_eq_false oq, Int.natAbs_natCast]
 refine Q8 [] [] spq [] Tryz.func164 rfl mixed (by kernel_rfl) Tryz.ntmps164 Tryz.results164 rfl ⟨by simp, by simp⟩ spq ?_
 simp only [toS, Qc, Qt, Qk, Qo, odAt, Qf, Qv, zipF]
 repeat' first | apply jS | apply jO | apply jN | refine Q2 ?_ | refine Q0 ?_ | refine Q7 ?_ | refine QJ (h := fun _ => ?_) | apply jT
 refine ZN (l := [(1, sv (magU x.natAbs))]) (cs := #[.bool false, sv (magU x.natAbs)]) rfl rfl rfl rfl ?_
 repeat' first | refine Q2 ?_ | refine Q7 ?_ | fail
 refine ZN (l := [(1, sv (magU y.natAbs))]) (cs := #[.bool false, sv (magU y.natAbs)]) rfl rfl rfl rfl ?_
 rw [e x, e y]
 skip
 refine Qb pqq rfl eqq rfl (fun w _ _ => Ql3 w _ _ ((x.natAbs : Nat) : Int) ((y.natAbs : Nat) : Int) K (QC (by simpa using hx)) (QC (by simpa using hy)) oq) fun w v w' _ _ _ hR => ?_
 subst hR
 have hsg : (((x.natAbs : Nat) : Int) - ((y.natAbs : Nat) : Int)).sign < 0 ↔ x.natAbs < y.natAbs := by
  rw [Int.sign_neg_iff]; omega
 by_cases hlt : x.natAbs < y.natAbs
 ·have := hsg.2 hlt
  rw [decide_eq_true hlt]
  repeat' first | apply jN | apply jT | refine Q0 ?_ | (refine Qm (h1 := ?_) (h2 := ?_) <;> intro hc <;> try (exfalso; omega)) | apply jR
  all_goals first
   | (exfalso; omega)
   | exact Qi rfl (fun a w' st => ⟨st.kp, rfl⟩)
 ·have := fun h => hlt (hsg.1 h)
  rw [decide_eq_false hlt]
  repeat' first | apply jN | apply jT | refine Q0 ?_ | (refine Qm (h1 := ?_) (h2 := ?_) <;> intro hc <;> try (exfalso; omega)) | apply jR
  all_goals first
   | (exfalso; omega)
   | exact Qi rfl (fun a w' st => ⟨st.kp, rfl⟩)

theorem Z9 {H : SHeap} {w w' : World} (hs : Hsat H w) (h1 : Kp (keys H) w w') (h2 : ∀ p ∈ H, w'.heap[p.1]? = some p.2) : Kp [] w w' :=
 ⟨h1.os, h1.tape, h1.output, h1.size, fun k hk _ => by
  by_cases hm : k ∈ keys H
  ·obtain ⟨p, hp, rfl⟩ := List.mem_map.1 hm
   rw [h2 p hp, hs.blk p hp]
  ·exact h1.block k hk hm⟩

set_option maxHeartbeats 2000000 in
theorem Xz (w : World) (b : Nat) (J : JV) (m n t : Nat) (s : Int) (S : Sm) (i j : Nat) (hJ : IsJ J m n S) (hs : Hsat (jbH b J m n t s) w) (hi : i < m) (hj : j < n) (hm : m ≤ 200) (hn : n ≤ 200) :
  Calls Tryz.prog 90 #[.pointer (some ⟨b, 0, none⟩), nv i, nv j] w (Ret fun v w' => Kp [] w w' ∧ v = Wv (gE S.d i j)) := by
 have hM := QM hs
 have hmn : m * n ≤ 40000 := Nat.mul_le_mul hm hn
 have hin : i * n ≤ 40000 := Nat.le_trans (Nat.mul_le_mul_right n (show i ≤ m by omega)) hmn
 have hlt := XY hi hj
 have hd := hJ.d
 refine Q8 [⟨1, 1, [], []⟩] (keys (jbH b J m n t s)) hM (jbH b J m n t s) Tryz.func90 rfl mixed (by kernel_rfl) Tryz.ntmps90 Tryz.results90 rfl hs (fun p hp => List.mem_map.2 ⟨p, hp, rfl⟩) ?_
 simp only [toS, Qc, Qt, Qk, Qo, odAt, Qf, Qv, zipF]
 unfold jbH jbC
 repeat' first | apply jS | apply jO | apply jD | apply jN | apply jT | refine Q1 ?_ | refine Q2 ?_ | refine Q7 ?_ | refine Zj (h := ?_) | refine Xm (h := ?_) | refine Ze (h := ?_) | refine Zi (h := ?_) | refine Q6 ?_ | refine Q3 ?_ | refine Qg fun _ => ?_ | refine Q3 ?_ | apply jR
 rw [YP hi hj]
 exact QP 0 rfl rfl rfl (fun a w' st => ⟨Z9 hs st.kp (fun p hp => st.hs.blk p (List.mem_cons_of_mem _ hp)), rfl⟩)

section
variable {c : Cx} {Q : Exit → Act → World → Prop} {m : Mode} {F : SFrame} {H : SHeap} {r : List SOp} {g : Option (Option Tmp × Bool)} {ns : Bool} {d : Tmp} {ty t t' : TypeId} {x y : Operand}
end
def rwV (st : Nat × Nat × Bool) : Value := if st.2.2 = true then nv st.1 else iv (-1)
def clV (st : Nat × Nat × Bool) : Value := if st.2.2 = true then nv st.2.1 else iv (-1)
set_option maxHeartbeats 4000000 in
theorem Q60 (K : Nat) (w : World) (b : Nat) (J : JV) (m n t : Nat) (s : Int) (S : Sm) (hJ : IsJ J m n S) (hs : Hsat (jbH b J m n t s) w) (hm : m ≤ 200) (hn : n ≤ 200) (htm : t ≤ m) (htn : t ≤ n) (hK : K ≤ 90000000) (hb : okG K S.d = true) :
  Calls Tryz.prog 128 #[.pointer (some ⟨b, 0, none⟩)] w (Ret fun v w' => Kp [] w w' ∧ v = .tuple #[rwV (Qu S t m n), clV (Qu S t m n), .bool (Qu S t m n).2.2]) := by
 have hM := QM hs
 refine Q8 [] (keys (jbH b J m n t s)) hM (jbH b J m n t s) Tryz.func128 rfl mixed (by kernel_rfl) Tryz.ntmps128 Tryz.results128 rfl hs (fun p hp => List.mem_map.2 ⟨p, hp, rfl⟩) ?_
 simp only [toS, Qc, Qt, Qk, Qo, odAt, Qf, Qv, zipF]
 unfold jbH jbC
 repeat' first | apply jS | apply jO | apply jN | apply jT | refine Q1 ?_ | refine Q2 ?_ | refine Q0 ?_ | refine Q7 ?_ | refine Q6 ?_ | apply jB
 refine Qp (ι := Nat × Nat × Nat × Bool) ⟨fun z => [(7, nv z.1), (5, rwV z.2), (6, clV z.2), (2, iv 0), (3, iv 0), (4, .bool false), (0, .pointer (some ⟨b, 0, none⟩))], fun _ => jbH b J m n t s,
  fun z => t ≤ z.1 ∧ z.1 ≤ m ∧ (z.2.2.2 = true → z.2.1 < m ∧ z.2.2.1 < n) ∧ Qu S t m n = (List.range' z.1 (m - z.1)).foldl (WJ S t n) z.2, fun z => m - z.1⟩ (t, 0, 0, false) ⟨Nat.le_refl _, htm, fun h => (by cases h), rfl⟩ cqq (HSub.refl _) (fun z hz => ?_)
 obtain ⟨i, x, y, fl⟩ := z
 obtain ⟨hti, him, hin, hls⟩ := hz
 dsimp only at hti him hin hls ⊢
 unfold jbH jbC
 by_cases hlt : i < m
 ·rw [Z0 hlt, List.foldl_cons] at hls
  repeat' first | apply jS | apply jO | apply jN | apply jT | refine Q1 ?_ | refine Q2 ?_ | refine Q0 ?_ | refine Q7 ?_ | refine Q6 ?_ | (refine Qm (h1 := ?_) (h2 := ?_) <;> intro hc <;> try (exfalso; omega)) | apply jK | refine Q5 rfl ?_ | apply jB
  refine Qp (ι := Nat × Nat × Nat × Bool) ⟨fun z => [(8, nv z.1), (7, nv i), (5, rwV z.2), (6, clV z.2), (2, iv 0), (3, iv 0), (4, .bool false), (0, .pointer (some ⟨b, 0, none⟩))], fun _ => jbH b J m n t s,
   fun z => t ≤ z.1 ∧ z.1 ≤ n ∧ (z.2.2.2 = true → z.2.1 < m ∧ z.2.2.1 < n) ∧ Qu S t m n = (List.range' (i + 1) (m - (i + 1))).foldl (WJ S t n) ((List.range' z.1 (n - z.1)).foldl (lsAt S i) z.2), fun z => n - z.1⟩ (t, x, y, fl) ⟨Nat.le_refl _, htn, hin, hls⟩ cqq (HSub.refl _) (fun z hz => ?_)
  clear hls hin
  obtain ⟨j, x, y, fl⟩ := z
  obtain ⟨htj, hjn, hin, hls⟩ := hz
  dsimp only at htj hjn hin hls ⊢
  unfold jbH jbC
  by_cases hjt : j < n
  ·rw [Z0 hjt, List.foldl_cons] at hls
   have hx : (gE S.d i j).natAbs < 256 ^ K := Zf hb _ _
   repeat' first | apply jS | apply jO | apply jN | apply jT | refine Q1 ?_ | refine Q2 ?_ | refine Q7 ?_ | refine Q6 ?_ | (refine Qm (h1 := ?_) (h2 := ?_) <;> intro hc <;> try (exfalso; omega)) | apply jK | refine Q5 rfl ?_ | apply jB
   refine Qb pqq rfl eqq rfl (fun w _ hs => Xz w b J m n t s S i j hJ hs hlt hjt hm hn) fun w v w' _ _ _ hR => ?_
   subst hR
   repeat' first | apply jS | apply jD | apply jN | refine Q1 ?_ | refine Q2 ?_ | refine Q7 ?_ | refine Q3 ?_ | refine Xa (h := ?_) | refine Qg fun _ => ?_ | refine Q3 ?_ | apply jT
   rename_i bx
   have hmg : decide (magU (gE S.d i j).natAbs ≠ []) = decide (gE S.d i j ≠ 0) := decide_eq_decide.2 (not_congr (magU_nil.trans Int.natAbs_eq_zero))
   rw [hmg]
   by_cases hz : gE S.d i j = 0
   ·have h1 : lsAt S i (x, y, fl) j = (x, y, fl) := by unfold lsAt; rw [if_neg (fun h => h.1 hz)]
    rw [h1] at hls
    rw [show decide (gE S.d i j ≠ 0) = false from decide_eq_false (fun h => h hz)]
    repeat' first | apply jO | apply jN | apply jT | refine Q1 ?_ | refine Q0 ?_ | refine Qh ?_ | refine Qz (h := ?_) | apply jK | refine Q4 rfl ?_ | refine QL (h := ?_) | apply jW
    exact Qa (j + 1, x, y, fl) ⟨by dsimp only; omega, by dsimp only; omega, hin, hls⟩ dgq cqq (by exact HSub.skip (HSub.refl _))
   ·rw [show decide (gE S.d i j ≠ 0) = true from decide_eq_true hz]
    cases fl with
    | false =>
     have h1 : lsAt S i (x, y, false) j = (i, j, true) := by unfold lsAt; rw [if_pos ⟨hz, .inl rfl⟩]
     rw [h1] at hls
     rw [show rwV (x, y, false) = iv (-1) from rfl]
     repeat' first | apply jS | apply jO | apply jN | apply jT | refine Q1 ?_ | refine Q0 ?_ | refine Qh ?_ | refine Qw (h := ?_) | (refine Qm (h1 := ?_) (h2 := ?_) <;> intro hc <;> try (exfalso; omega)) | refine Q5 rfl ?_ | refine QL (h := ?_) | apply jW
     exact Qa (j + 1, i, j, true) ⟨by dsimp only; omega, by dsimp only; omega, fun _ => ⟨hlt, hjt⟩, hls⟩ dgq cqq (by exact HSub.skip (HSub.refl _))
    | true =>
     obtain ⟨hxm, hyn⟩ := hin rfl
     rw [show rwV (x, y, true) = nv x from rfl, show clV (x, y, true) = nv y from rfl]
     repeat' first | refine Q1 ?_ | refine Ql ?_ | (refine Qm (h1 := ?_) (h2 := ?_) <;> intro hc <;> try (exfalso; omega)) | fail
     refine Qb pqq rfl eqq rfl (fun w _ hs => Xz w b J m n t s S x y hJ ((HSub.skip (HSub.refl _)).hsat hs) hxm hyn hm hn) fun w v w' _ _ _ hR => ?_
     subst hR
     skip
     refine Qb pqq rfl eqq rfl (fun w _ _ => Qeu K w (gE S.d i j) (gE S.d x y) hK hx (Zf hb _ _)) fun w v w' _ _ _ hR => ?_
     subst hR
     by_cases hq : (gE S.d i j).natAbs < (gE S.d x y).natAbs
     ·have h1 : lsAt S i (x, y, true) j = (i, j, true) := by unfold lsAt; rw [if_pos ⟨hz, .inr hq⟩]
      rw [h1] at hls
      rw [show decide ((gE S.d i j).natAbs < (gE S.d x y).natAbs) = true from decide_eq_true hq]
      repeat' first | apply jS | apply jO | apply jN | apply jT | refine Q1 ?_ | refine Q0 ?_ | refine Qh ?_ | refine Qw (h := ?_) | refine Qz (h := ?_) | refine Q5 rfl ?_ | apply jW
      exact Qa (j + 1, i, j, true) ⟨by dsimp only; omega, by dsimp only; omega, fun _ => ⟨hlt, hjt⟩, hls⟩ dgq cqq (by exact HSub.skip (HSub.refl _))
     ·have h1 : lsAt S i (x, y, true) j = (x, y, true) := by
       unfold lsAt
       rw [if_neg]
       rintro ⟨_, h | h⟩
       ·cases h
       ·exact hq h
      rw [h1] at hls
      rw [show decide ((gE S.d i j).natAbs < (gE S.d x y).natAbs) = false from decide_eq_false hq]
      repeat' first | apply jO | apply jN | apply jT | refine Q1 ?_ | refine Q0 ?_ | refine Qh ?_ | refine Qw (h := ?_) | refine Qz (h := ?_) | apply jK | refine Q4 rfl ?_ | apply jW
      exact Qa (j + 1, x, y, true) ⟨by dsimp only; omega, by dsimp only; omega, hin, hls⟩ dgq cqq (by exact HSub.skip (HSub.refl _))
  ·rw [show n - j = 0 by omega] at hls
   repeat' first | apply jS | apply jO | apply jN | apply jT | refine Q1 ?_ | refine Q2 ?_ | refine Q0 ?_ | refine Q7 ?_ | refine Qh ?_ | refine Q6 ?_ | (refine Qm (h1 := ?_) (h2 := ?_) <;> intro hc <;> try (exfalso; omega)) | apply jU | apply jE | refine Q4 rfl ?_ | apply jW | refine Qe ?_
   exact Qa (i + 1, x, y, fl) ⟨by dsimp only; omega, by dsimp only; omega, hin, hls⟩ dgq cqq (HSub.refl _)
 ·rw [show m - i = 0 by omega] at hls
  have hls : Qu S t m n = (x, y, fl) := hls
  rw [hls]
  cases fl with
  | true =>
   rw [show rwV (x, y, true) = nv x from rfl, show clV (x, y, true) = nv y from rfl]
   repeat' first | apply jS | apply jO | apply jN | apply jT | refine Q1 ?_ | refine Q2 ?_ | refine Q0 ?_ | refine Q7 ?_ | refine Q6 ?_ | (refine Qm (h1 := ?_) (h2 := ?_) <;> intro hc <;> try (exfalso; omega)) | (refine ZL (h1 := ?_) (h2 := ?_) <;> intro hc <;> try (exfalso; omega)) | apply jU | apply jE | apply jR | refine Q4 rfl ?_ | refine Qe ?_
   all_goals first
    | (exfalso; omega)
    | exact YD [nv x, nv y, .bool true] ⟨rfl, rfl, rfl, trivial⟩ (fun a w' st => ⟨Z9 hs st.kp (fun p hp => st.hs.blk p hp), rfl⟩)
  | false =>
   rw [show rwV (x, y, false) = iv (-1) from rfl, show clV (x, y, false) = iv (-1) from rfl]
   repeat' first | apply jS | apply jO | apply jN | apply jT | refine Q1 ?_ | refine Q2 ?_ | refine Q0 ?_ | refine Q7 ?_ | refine Q6 ?_ | (refine Qm (h1 := ?_) (h2 := ?_) <;> intro hc <;> try (exfalso; omega)) | (refine ZL (h1 := ?_) (h2 := ?_) <;> intro hc <;> try (exfalso; omega)) | apply jU | apply jE | apply jR | refine Q4 rfl ?_ | refine Qe ?_
   all_goals first
    | (exfalso; omega)
    | exact YD [iv (-1), iv (-1), .bool false] ⟨rfl, rfl, rfl, trivial⟩ (fun a w' st => ⟨Z9 hs st.kp (fun p hp => st.hs.blk p hp), rfl⟩)


section
variable {c : Cx} {Q : Exit → Act → World → Prop} {m : Mode} {F : SFrame} {H : SHeap} {r : List SOp} {g : Option (Option Tmp × Bool)} {ns : Bool} {d : Tmp} {ty t t' : TypeId} {x y : Operand}
theorem QK {b o : Nat} (k : Nat) {cs : Array Value} {x1 x2 x3 : Value} {T : TypeId} {fz : Nat × Nat} [TN c.P t 3] (hd : Qr c.n (some d) = true) (hg : Qd F g = some true) (hx : ev F x = some (.pointer (some ⟨b, o, none⟩))) (hl : m.live = true)
  (hb : (m.src H)[k]? = some (b, .cells cs T fz)) (h1 : cs[o]? = some x1) (h2 : cs[o + 1]? = some x2) (h3 : cs[o + 2]? = some x3) (h : JO c Q m r ((d, (.agg #[x1, x2, x3])) :: F) H) : JO c Q m (⟨some d, .load t x, ty, g, .ld, ns⟩ :: r) F H :=
 Qh5 k hd hg hx hl hb (vs := #[x1, x2, x3]) rfl (fun j hj => by
  match j, hj with
  | 0, _ => exact h1
  | 1, _ => exact h2
  | 2, _ => exact h3) h
theorem Zs {A N B : SHeap} {f : FuncId} {args : Array Operand} {ats : Array TypeId} {vs : List Value} {dd : Option Tmp} {v : Value} {rr cc : Nat} {G : Mi} [TF c.P f] (hH : H = A ++ (N ++ B)) (hm : m.mayStore ns r) (hd : Qr c.n dd = true) (hg : Qd F g = some true) (ha : Zx F args.toList = some vs)
  (hc : ∀ w, Hsat N w → Calls c.P f vs.toArray w (Ret fun _ w' => Q9m N v rr cc G w w'))
  (h : ∀ u N', keys N' = keys N → OwnZ N' v (rr * cc) (tbz rr cc G) → JO c Q m.spent r (putF F dd u) (A ++ (N' ++ B))) :
  JO c Q m (⟨dd, .call ⟨.value (.func f), args, ats⟩, ty, g, .seq, ns⟩ :: r) F H :=
 Wi (A := A) (N := N) (B := B) hH hm hd hg ha (fun w _ hs => hc w (HSub.hsat (by rw [hH]; exact (HSub.in0.trans (Qj (HSub.refl _)))) hs)) (fun w u w' _ _ _ hR => by
  obtain ⟨N', hk, hin, hO⟩ := hR
  exact ⟨N', hk, hin, h u N' hk hO⟩)
theorem Q7r {A N B Hs : SHeap} {f : FuncId} {args : Array Operand} {ats : Array TypeId} {vs : List Value} {dd : Option Tmp} {v : Value} {rr cc : Nat} {G : Mi} [TF c.P f] (hH : H = A ++ (N ++ B)) (hHs : HSub Hs (A ++ B)) (hd : Qr c.n dd = true) (hg : Qd F g = some true) (ha : Zx F args.toList = some vs)
  (hc : ∀ w, Hsat N w → Calls c.P f vs.toArray w (Ret fun _ w' => Q9m N v rr cc G w w'))
  (h : ∀ u N', keys N' = keys N → OwnZ N' v (rr * cc) (tbz rr cc G) → JO c Q (.draw Hs true) r (putF F dd u) (A ++ (N' ++ B))) :
  JO c Q (.draw Hs true) (⟨dd, .call ⟨.value (.func f), args, ats⟩, ty, g, .seq, ns⟩ :: r) F H :=
 Qdx (A := A) (N := N) (B := B) hH hHs hd hg ha (fun w _ hs => hc w (HSub.hsat (by rw [hH]; exact (HSub.in0.trans (Qj (HSub.refl _)))) hs)) (fun w u w' _ _ _ hR => by
  obtain ⟨N', hk, hin, hO⟩ := hR
  exact ⟨N', hk, hin, h u N' hk hO⟩)
end

set_option maxHeartbeats 1000000 in
theorem Q1q (K : Nat) (w : World) (b : Nat) (J : JV) (m n t : Nat) (s : Int) (S : Sm) (hJ : IsJ J m n S) (hs : Hsat (jbH b J m n t s) w) (hm : m ≤ 200) (hn : n ≤ 200) (htm : t ≤ m) (htn : t ≤ n) (hK : K ≤ 90000000) (hb : okG K S.d = true) :
  Calls Tryz.prog 64 #[.pointer (some ⟨b, 0, none⟩)] w (Ret fun v w' => Kp [] w w' ∧ v = .bool (!(Qu S t m n).2.2)) := by
 refine Q8 [] [] spq [] Tryz.func64 rfl mixed (by kernel_rfl) Tryz.ntmps64 Tryz.results64 rfl ⟨by simp, by simp⟩ spq ?_
 simp only [toS, Qc, Qt, Qk, Qo, odAt, Qf, Qv, zipF]
 repeat' first | apply jS | apply jO | apply jN | refine Q1 ?_ | refine Q0 ?_ | apply jT
 refine Qb pqq rfl eqq rfl (fun w' hk _ => Q60 K w' b J m n t s S hJ (hs.kp hk (fun _ _ h => by cases h)) hm hn htm htn hK hb) fun w v w' _ _ _ hR => ?_
 subst hR
 repeat' first | apply jS | apply jO | apply jN | apply jT | refine Q1 ?_ | refine Q0 ?_ | refine Zo (h := ?_) | refine Qy (h := ?_) | apply jR
 exact Qi rfl (fun a w' st => ⟨st.kp, rfl⟩)

theorem Qfv {r c i k a b : Nat} {f : Int} {g : List (List Int)} (h : Rec r c g) (hi : i < r) (hk : k < r) (hik : i ≠ k) (hb : b < c) : (if a = i ∧ b < c then gE g i b + f * gE g k b else gE g a b) = gE (Wd i k (aT f) g) a b := by
 rw [Wl h hi hk hb]
 by_cases e1 : a = k
 ·subst e1
  rw [if_neg (fun x => hik x.1.symm), if_pos rfl]
  show _ = 0 * gE g i b + 1 * gE g a b
  omega
 ·rw [if_neg e1]
  by_cases e : a = i
  ·rw [if_pos ⟨e, hb⟩, if_pos e]
   show _ = 1 * gE g i b + f * gE g k b
   omega
  ·rw [if_neg (fun x => e x.1), if_neg e]
theorem Qfx {r c i k a b : Nat} {f : Int} {g : List (List Int)} (h : Rec r c g) (hi : i < c) (hk : k < c) (hik : i ≠ k) (ha : a < r) : (if b = i ∧ a < r then gE g a i + f * gE g a k else gE g a b) = gE (Xi i k (aT f) g) a b := by
 rw [Wm h hi hk ha]
 by_cases e1 : b = k
 ·subst e1
  rw [if_neg (fun x => hik x.1.symm), if_pos rfl]
  show _ = 0 * gE g a i + 1 * gE g a b
  omega
 ·rw [if_neg e1]
  by_cases e : b = i
  ·rw [if_pos ⟨e, ha⟩, if_pos e]
   show _ = 1 * gE g a i + f * gE g a k
   omega
  ·rw [if_neg (fun x => e x.1), if_neg e]
theorem Qi9 {r c i k a b : Nat} {f : Int} {g : List (List Int)} (h : Rec r c g) (hi : i < c) (hk : k < c) (hik : i ≠ k) (ha : a < r) : (if b = k ∧ a < r then gE g a k + -f * gE g a i else gE g a b) = gE (Xi i k (aT f).flip g) a b := by
 rw [Wm h hi hk ha]
 by_cases e1 : b = k
 ·subst e1
  rw [if_pos ⟨rfl, ha⟩, if_pos rfl]
  show _ = -f * gE g a i + 1 * gE g a b
  omega
 ·rw [if_neg e1, if_neg (fun x => e1 x.1)]
  by_cases e : b = i
  ·subst e
   rw [if_pos rfl]
   show _ = 1 * gE g a b + -0 * gE g a k
   omega
  ·rw [if_neg e]
theorem Qi8 {r c i k a b : Nat} {f : Int} {g : List (List Int)} (h : Rec r c g) (hi : i < r) (hk : k < r) (hik : i ≠ k) (hb : b < c) : (if a = k ∧ b < c then gE g k b + -f * gE g i b else gE g a b) = gE (Wd i k (aT f).flip g) a b := by
 rw [Wl h hi hk hb]
 by_cases e1 : a = k
 ·subst e1
  rw [if_pos ⟨rfl, hb⟩, if_pos rfl]
  show _ = -f * gE g i b + 1 * gE g a b
  omega
 ·rw [if_neg e1, if_neg (fun x => e1 x.1)]
  by_cases e : a = i
  ·subst e
   rw [if_pos rfl]
   show _ = 1 * gE g a b + -0 * gE g k b
   omega
  ·rw [if_neg e]

set_option maxHeartbeats 8000000 in
theorem Q5y (K L : Nat) (w : World) (b : Nat) (J : JV) (m n : Nat) (t s : Int) (S : Sm) (i k : Nat) (f : Int) (hJ : IsJ J m n S) (hD : Dm m n S) (hs : Hsat (jbH b J m n t s) w) (hi : i < m) (hk : k < m) (hik : i ≠ k) (hm : m ≤ 200) (hn : n ≤ 200) (hK : K + L ≤ 42000000) (hb : Ok K S) (hf : f.natAbs < 256 ^ L) :
  Calls Tryz.prog 131 #[.pointer (some ⟨b, 0, none⟩), nv i, nv k, Wv f] w (Ret fun _ w' => JbR b J m n t s t s (S.rows i k (aT f)) w w') := by
 have hM := QM hs
 have hfn : (-f).natAbs < 256 ^ L := by rw [Int.natAbs_neg]; exact hf
 refine Q8 [⟨1, 1, [], []⟩, ⟨2, 1, [], []⟩] (keys (jbH b J m n t s)) hM (jbH b J m n t s) Tryz.func131 rfl mixed (by kernel_rfl) Tryz.ntmps131 Tryz.results131 rfl hs (fun p hp => List.mem_map.2 ⟨p, hp, rfl⟩) ?_
 simp only [toS, Qc, Qt, Qk, Qo, odAt, Qf, Qv, zipF]
 unfold jbH jbC
 repeat' first | apply jS | apply jO | apply jD | apply jN | refine Q1 ?_ | refine Q2 ?_ | refine Q6 ?_ | refine QJ (h := fun _ => ?_) | apply jT
 rename_i b7
 refine QK 1 rfl rfl rfl rfl rfl rfl rfl rfl ?_
 repeat' first | refine Q1 ?_ | refine Ql ?_ | fail
 refine Zs (A := _ :: _ :: (J.u.N ++ J.ui.N)) (N := J.d.N) (B := J.v.N ++ (J.vi.N ++ [])) (by simp only [List.append_assoc, List.cons_append, List.nil_append]; rfl) pqq rfl eqq rfl (fun w hs => X4 K L w J.d.A J.d.c J.d.N m n i k f (gE S.d) hJ.d hs hi hk hm hn hK hf (fun a b' _ _ => Zf hb.d a b')) (fun u Nd hkNd hONd => ?_)
 simp only [List.append_assoc, List.cons_append, List.nil_append]
 repeat' first | apply jS | apply jD | apply jN | refine Q1 ?_ | refine Q2 ?_ | refine Q6 ?_ | apply jT
 refine QK 1 rfl rfl rfl rfl rfl rfl rfl rfl ?_
 repeat' first | refine Q1 ?_ | refine Ql ?_ | fail
 refine Zs (A := _ :: _ :: []) (N := J.u.N) (B := J.ui.N ++ (Nd ++ (J.v.N ++ (J.vi.N ++ [])))) (by simp only [List.append_assoc, List.cons_append, List.nil_append]; rfl) pqq rfl eqq rfl (fun w hs => X4 K L w J.u.A J.u.c J.u.N m m i k f (gE S.u) hJ.u hs hi hk hm hm hK hf (fun a b' _ _ => Zf hb.u a b')) (fun u Nu hkNu hONu => ?_)
 simp only [List.append_assoc, List.cons_append, List.nil_append]
 repeat' first | apply jN | apply jT
 refine Q53 [(b7, .cells #[.bool (decide (f < 0)), sv (magU f.natAbs)] 75 (0, 0)), (b, .cells #[nv m, nv m, .slice J.u.A (m * m) J.u.c, nv m, nv m, .slice J.ui.A (m * m) J.ui.c, nv m, nv n, .slice J.d.A (m * n) J.d.c, nv n, nv n, .slice J.v.A (n * n) J.v.c, nv n, nv n, .slice J.vi.A (n * n) J.vi.c, iv t, iv s] 72 (0, 0))] (HSub.at 0 rfl (HSub.at 0 rfl (HSub.nil _))) ?_
 repeat' first | refine Q1 ?_ | refine Q2 ?_ | refine Q6 ?_ | fail
 refine QK 1 rfl rfl rfl rfl rfl rfl rfl rfl ?_
 repeat' first | refine Q1 ?_ | refine Ql ?_ | fail
 refine Qb pqq rfl eqq rfl (fun w _ _ => Q8i w _ f L (QC hf) oq) fun w v w' _ _ _ hR => ?_
 subst hR
 skip
 refine Q7r (A := _ :: _ :: Nu) (N := J.ui.N) (B := Nd ++ (J.v.N ++ (J.vi.N ++ []))) (by simp only [List.append_assoc, List.cons_append, List.nil_append]) (HSub.at 0 rfl (HSub.at 0 rfl (HSub.nil _))) rfl eqq rfl (fun w hs => XJ K L w J.ui.A J.ui.c J.ui.N m m k i (-f) (gE S.ui) hJ.ui hs hk hi hm hm hK hfn (fun a b' _ _ => Zf hb.ui a b')) (fun u Nui hkNui hONui => ?_)
 simp only [List.append_assoc, List.cons_append, List.nil_append]
 repeat' first | apply jN
 rw [Qq (fun a b' _ hb' => Qfv hD.d hi hk hik hb')] at hONd
 rw [Qq (fun a b' _ hb' => Qfv hD.u hi hk hik hb')] at hONu
 rw [Qq (fun a b' ha _ => Qi9 hD.ui hi hk hik ha)] at hONui
 refine Zw (fun a w' st => ⟨st.kp, ⟨⟨J.u.A, J.u.c, Nu⟩, ⟨J.ui.A, J.ui.c, Nui⟩, ⟨J.d.A, J.d.c, Nd⟩, J.v, J.vi⟩, ?_, fun p hp => st.hs.blk p (List.mem_cons_of_mem _ hp), ⟨hONu, hONui, hONd, hJ.v, hJ.vi⟩, ⟨⟨rfl, rfl⟩, ⟨rfl, rfl⟩, ⟨rfl, rfl⟩, ⟨rfl, rfl⟩, ⟨rfl, rfl⟩⟩⟩)
 unfold jbH keys at *
 simp only [List.map_cons, List.map_append, hkNd, hkNu, hkNui]

set_option maxHeartbeats 8000000 in
theorem Qce (K L : Nat) (w : World) (b : Nat) (J : JV) (m n : Nat) (t s : Int) (S : Sm) (i k : Nat) (f : Int) (hJ : IsJ J m n S) (hD : Dm m n S) (hs : Hsat (jbH b J m n t s) w) (hi : i < n) (hk : k < n) (hik : i ≠ k) (hm : m ≤ 200) (hn : n ≤ 200) (hK : K + L ≤ 42000000) (hb : Ok K S) (hf : f.natAbs < 256 ^ L) :
  Calls Tryz.prog 133 #[.pointer (some ⟨b, 0, none⟩), nv i, nv k, Wv f] w (Ret fun _ w' => JbR b J m n t s t s (S.cols i k (aT f)) w w') := by
 have hM := QM hs
 have hfn : (-f).natAbs < 256 ^ L := by rw [Int.natAbs_neg]; exact hf
 refine Q8 [⟨1, 1, [], []⟩, ⟨2, 1, [], []⟩] (keys (jbH b J m n t s)) hM (jbH b J m n t s) Tryz.func133 rfl mixed (by kernel_rfl) Tryz.ntmps133 Tryz.results133 rfl hs (fun p hp => List.mem_map.2 ⟨p, hp, rfl⟩) ?_
 simp only [toS, Qc, Qt, Qk, Qo, odAt, Qf, Qv, zipF]
 unfold jbH jbC
 repeat' first | apply jS | apply jO | apply jD | apply jN | refine Q1 ?_ | refine Q2 ?_ | refine Q6 ?_ | refine QJ (h := fun _ => ?_) | apply jT
 rename_i b7
 refine QK 1 rfl rfl rfl rfl rfl rfl rfl rfl ?_
 repeat' first | refine Q1 ?_ | refine Ql ?_ | fail
 refine Zs (A := _ :: _ :: (J.u.N ++ J.ui.N)) (N := J.d.N) (B := J.v.N ++ (J.vi.N ++ [])) (by simp only [List.append_assoc, List.cons_append, List.nil_append]; rfl) pqq rfl eqq rfl (fun w hs => XJ K L w J.d.A J.d.c J.d.N m n i k f (gE S.d) hJ.d hs hi hk hm hn hK hf (fun a b' _ _ => Zf hb.d a b')) (fun u Nd hkNd hONd => ?_)
 simp only [List.append_assoc, List.cons_append, List.nil_append]
 repeat' first | apply jS | apply jD | apply jN | refine Q1 ?_ | refine Q2 ?_ | refine Q6 ?_ | apply jT
 refine QK 1 rfl rfl rfl rfl rfl rfl rfl rfl ?_
 repeat' first | refine Q1 ?_ | refine Ql ?_ | fail
 refine Zs (A := _ :: _ :: (J.u.N ++ (J.ui.N ++ Nd))) (N := J.v.N) (B := J.vi.N ++ []) (by simp only [List.append_assoc, List.cons_append, List.nil_append]; rfl) pqq rfl eqq rfl (fun w hs => XJ K L w J.v.A J.v.c J.v.N n n i k f (gE S.v) hJ.v hs hi hk hn hn hK hf (fun a b' _ _ => Zf hb.v a b')) (fun u Nv hkNv hONv => ?_)
 simp only [List.append_assoc, List.cons_append, List.nil_append]
 repeat' first | apply jN | apply jT
 refine Q53 [(b7, .cells #[.bool (decide (f < 0)), sv (magU f.natAbs)] 75 (0, 0)), (b, .cells #[nv m, nv m, .slice J.u.A (m * m) J.u.c, nv m, nv m, .slice J.ui.A (m * m) J.ui.c, nv m, nv n, .slice J.d.A (m * n) J.d.c, nv n, nv n, .slice J.v.A (n * n) J.v.c, nv n, nv n, .slice J.vi.A (n * n) J.vi.c, iv t, iv s] 72 (0, 0))] (HSub.at 0 rfl (HSub.at 0 rfl (HSub.nil _))) ?_
 repeat' first | refine Q1 ?_ | refine Q2 ?_ | refine Q6 ?_ | fail
 refine QK 1 rfl rfl rfl rfl rfl rfl rfl rfl ?_
 repeat' first | refine Q1 ?_ | refine Ql ?_ | fail
 refine Qb pqq rfl eqq rfl (fun w _ _ => Q8i w _ f L (QC hf) oq) fun w v w' _ _ _ hR => ?_
 subst hR
 skip
 refine Q7r (A := _ :: _ :: (J.u.N ++ (J.ui.N ++ (Nd ++ Nv)))) (N := J.vi.N) (B := []) (by simp only [List.append_assoc, List.cons_append, List.nil_append]) (HSub.at 0 rfl (HSub.at 0 rfl (HSub.nil _))) rfl eqq rfl (fun w hs => X4 K L w J.vi.A J.vi.c J.vi.N n n k i (-f) (gE S.vi) hJ.vi hs hk hi hn hn hK hfn (fun a b' _ _ => Zf hb.vi a b')) (fun u Nvi hkNvi hONvi => ?_)
 simp only [List.append_assoc, List.cons_append, List.nil_append]
 repeat' first | apply jN
 rw [Qq (fun a b' ha _ => Qfx hD.d hi hk hik ha)] at hONd
 rw [Qq (fun a b' ha _ => Qfx hD.v hi hk hik ha)] at hONv
 rw [Qq (fun a b' _ hb' => Qi8 hD.vi hi hk hik hb')] at hONvi
 refine Zw (fun a w' st => ⟨st.kp, ⟨J.u, J.ui, ⟨J.d.A, J.d.c, Nd⟩, ⟨J.v.A, J.v.c, Nv⟩, ⟨J.vi.A, J.vi.c, Nvi⟩⟩, ?_, fun p hp => st.hs.blk p (List.mem_cons_of_mem _ hp), ⟨hJ.u, hJ.ui, hONd, hONv, hONvi⟩, ⟨⟨rfl, rfl⟩, ⟨rfl, rfl⟩, ⟨rfl, rfl⟩, ⟨rfl, rfl⟩, ⟨rfl, rfl⟩⟩⟩)
 unfold jbH keys at *
 simp only [List.map_cons, List.map_append, hkNd, hkNv, hkNvi]


section
variable {c : Cx} {Q : Exit → Act → World → Prop} {md : Mode} {F : SFrame} {H : SHeap} {r : List SOp} {g : Option (Option Tmp × Bool)} {ns : Bool} {ty : TypeId}
theorem Wj {A : SHeap} {f : FuncId} {args : Array Operand} {ats : Array TypeId} {vs : List Value} {R : Value → Prop} {dd : Option Tmp} {b m n : Nat} {J : JV} {t s t' s' : Int} {S' : Sm} [TF c.P f] (hH : H = A ++ jbH b J m n t s) (hm : md.mayStore ns r) (hd : Qr c.n dd = true) (hg : Qd F g = some true) (ha : Zx F args.toList = some vs)
  (hc : ∀ w, Hsat (jbH b J m n t s) w → Calls c.P f vs.toArray w (Ret fun v w' => JbR b J m n t s t' s' S' w w' ∧ R v))
  (h : ∀ v J', keys (jbH b J' m n t' s') = keys (jbH b J m n t s) → IsJ J' m n S' → SameF J J' → R v → JO c Q md.spent r (putF F dd v) (A ++ jbH b J' m n t' s')) :
  JO c Q md (⟨dd, .call ⟨.value (.func f), args, ats⟩, ty, g, .seq, ns⟩ :: r) F H :=
 Wi (A := A) (N := jbH b J m n t s) (B := []) (by rw [hH, List.append_nil]) hm hd hg ha (R := fun w v w' => (∃ J', keys (jbH b J' m n t' s') = keys (jbH b J m n t s) ∧ InW (jbH b J' m n t' s') w' ∧ IsJ J' m n S' ∧ SameF J J') ∧ R v)
  (fun w _ hs => (hc w (HSub.hsat (by rw [hH]; exact Qj (HSub.refl _)) hs)).mono fun e w' he => by
   cases e with
   | panicked _ => exact he.elim
   | outgrown => exact he.elim
   | returned v => exact ⟨he.1.1, he.1.2, he.2⟩) (fun w v w' _ _ _ hR => by
  obtain ⟨⟨J', hk, hin, hJ, hf⟩, hv⟩ := hR
  refine ⟨jbH b J' m n t' s', hk, hin, ?_⟩
  rw [List.append_nil]
  exact h v J' hk hJ hf hv)
end

set_option maxHeartbeats 1000000 in
theorem Q8c (K : Nat) (w : World) (b : Nat) (J : JV) (m n t : Nat) (s : Int) (S : Sm) (x : Int) (hJ : IsJ J m n S) (hs : Hsat (jbH b J m n t s) w) (hm : m ≤ 200) (hn : n ≤ 200) (htm : t < m) (htn : t < n) (hK : K ≤ 42000000) (hb : okG K S.d = true) (hx : x.natAbs < 256 ^ K) (hp : gE S.d t t ≠ 0) :
  Calls Tryz.prog 132 #[.pointer (some ⟨b, 0, none⟩), Wv x] w (Ret fun v w' => Kp [] w w' ∧ v = Wv (-(x / gE S.d t t))) := by
 have hM := QM hs
 refine Q8 [⟨1, 3, [], []⟩] (keys (jbH b J m n t s)) hM (jbH b J m n t s) Tryz.func132 rfl mixed (by kernel_rfl) Tryz.ntmps132 Tryz.results132 rfl hs (fun p hp => List.mem_map.2 ⟨p, hp, rfl⟩) ?_
 simp only [toS, Qc, Qt, Qk, Qo, odAt, Qf, Qv, zipF]
 unfold jbH jbC
 repeat' first | apply jS | apply jO | apply jD | apply jN | refine Q1 ?_ | refine Q2 ?_ | refine Q7 ?_ | refine Ql ?_ | refine Q6 ?_ | refine Qg fun _ => ?_ | refine QJ (h := fun _ => ?_) | apply jT
 refine Qb pqq rfl eqq rfl (fun w _ hs => Xz w b J m n t s S t t hJ ((HSub.skip (HSub.skip (HSub.refl _))).hsat hs) htm htn hm hn) fun w v w' _ _ _ hR => ?_
 subst hR
 skip
 refine Qb pqq rfl eqq rfl (fun w _ _ => Qg9 w _ _ x (gE S.d t t) K (QC hx) (QC (Zf hb _ _)) oq) fun w v w' _ _ _ hR => ?_
 rw [if_neg hp] at hR
 subst hR
 repeat' first | apply jS | apply jO | apply jN | refine Q1 ?_ | refine Q0 ?_ | refine Ql ?_ | refine Qy (h := ?_) | refine Q3 ?_ | refine Qg fun _ => ?_ | refine Q3 ?_ | apply jT
 refine Qb pqq rfl eqq rfl (fun w _ _ => Q8i w _ (x / gE S.d t t) K (QC (Nat.lt_of_le_of_lt (Int.natAbs_ediv_le_natAbs _ _) hx)) oq) fun w v w' _ _ _ hR => ?_
 subst hR
 repeat' first | apply jN | apply jT | refine Q3 ?_ | refine Q3 ?_ | apply jR
 exact QP 2 rfl rfl rfl (fun a w' st => ⟨Z9 hs st.kp (fun p hp => st.hs.blk p (List.mem_cons_of_mem _ (List.mem_cons_of_mem _ (List.mem_cons_of_mem _ (List.mem_cons_of_mem _ hp))))), rfl⟩)

theorem Q98 {r c i k a b : Nat} {g : List (List Int)} (h : Rec r c g) (hi : i < r) (hk : k < r) (hb : b < c) : (if a = k ∧ b < c then gE g i b else if a = i ∧ b < c then gE g k b else gE g a b) = gE (exL i k g) a b := by
 rw [Q2j h hi hk]
 unfold exN
 by_cases e1 : a = k
 ·rw [if_pos ⟨e1, hb⟩, if_pos e1]
 ·rw [if_neg (fun x => e1 x.1), if_neg e1]
  by_cases e2 : a = i
  ·rw [if_pos ⟨e2, hb⟩, if_pos e2]
  ·rw [if_neg (fun x => e2 x.1), if_neg e2]
theorem Q99 {r c i k a b : Nat} {g : List (List Int)} (h : Rec r c g) (hi : i < c) (hk : k < c) (ha : a < r) : (if b = k ∧ a < r then gE g a i else if b = i ∧ a < r then gE g a k else gE g a b) = gE (exK i k g) a b := by
 rw [Q14 h hi hk ha]
 unfold exN
 by_cases e1 : b = k
 ·rw [if_pos ⟨e1, ha⟩, if_pos e1]
 ·rw [if_neg (fun x => e1 x.1), if_neg e1]
  by_cases e2 : b = i
  ·rw [if_pos ⟨e2, ha⟩, if_pos e2]
  ·rw [if_neg (fun x => e2 x.1), if_neg e2]
theorem Q3l {r c t a b : Nat} {g : List (List Int)} (h : Rec r c g) (ht : t < r) : gE g a b = gE (exL t t g) a b := by
 rw [Q2j h ht ht]
 unfold exN
 by_cases e1 : a = t
 ·rw [if_pos e1, e1]
 ·rw [if_neg e1, if_neg e1]
theorem Q3m {r c t a b : Nat} {g : List (List Int)} (h : Rec r c g) (ht : t < c) (ha : a < r) : gE g a b = gE (exK t t g) a b := by
 rw [Q14 h ht ht ha]
 unfold exN
 by_cases e1 : b = t
 ·rw [if_pos e1, e1]
 ·rw [if_neg e1, if_neg e1]

set_option maxHeartbeats 16000000 in
theorem Qet (K : Nat) (w : World) (b : Nat) (J : JV) (m n t : Nat) (s : Int) (S : Sm) (hJ : IsJ J m n S) (hD : Dm m n S) (hs : Hsat (jbH b J m n t s) w) (hm : m ≤ 200) (hn : n ≤ 200) (htm : t ≤ m) (htn : t ≤ n) (hK : K ≤ 42000000) (hb : Ok K S) (hl : (Qu S t m n).2.2 = true) :
  Calls Tryz.prog 65 #[.pointer (some ⟨b, 0, none⟩)] w (Ret fun v w' => JbR b J m n t s t s (S.ex (Qu S t m n).1 (Qu S t m n).2.1 t) w w' ∧ v = .bool (decide ((Qu S t m n).1 ≠ t ∨ (Qu S t m n).2.1 ≠ t))) := by
 have hM := QM hs
 refine Q8 [⟨3, 1, [], []⟩, ⟨4, 1, [], []⟩, ⟨5, 1, [], []⟩, ⟨7, 1, [], []⟩, ⟨8, 1, [], []⟩, ⟨9, 1, [], []⟩] (keys (jbH b J m n t s)) hM (jbH b J m n t s) Tryz.func65 rfl mixed (by kernel_rfl) Tryz.ntmps65 Tryz.results65 rfl hs (fun p hp => List.mem_map.2 ⟨p, hp, rfl⟩) ?_
 simp only [toS, Qc, Qt, Qk, Qo, odAt, Qf, Qv, zipF]
 repeat' first | apply jS | apply jO | apply jN | refine Q1 ?_ | refine Q0 ?_ | apply jT
 refine Qb pqq rfl eqq rfl (fun w _ hs => Q60 K w b J m n t s S hJ hs hm hn htm htn oq hb.d) fun w v w' _ _ _ hR => ?_
 obtain ⟨⟨l1, l2, l3, l4⟩, _⟩ := Xw hl
 obtain ⟨r, hr⟩ : ∃ r, r = (Qu S t m n).1 := ⟨_, rfl⟩
 obtain ⟨q, hq⟩ : ∃ q, q = (Qu S t m n).2.1 := ⟨_, rfl⟩
 rw [show rwV (Qu S t m n) = nv r by unfold rwV; rw [if_pos hl, hr], show clV (Qu S t m n) = nv q by unfold clV; rw [if_pos hl, hq], hl] at hR
 rw [← hr] at l1 l2
 rw [← hq] at l3 l4
 rw [← hr, ← hq]
 subst hR
 have htm' : t < m := by omega
 have htn' : t < n := by omega
 unfold jbH jbC
 by_cases hrt : r = t
 ·rw [hrt] at l1 l2 ⊢
  by_cases hqt : q = t
  ·rw [hqt] at l3 l4 ⊢
   repeat' first | apply jS | apply jO | apply jN | apply jT | refine Q1 ?_ | refine Q2 ?_ | refine Q0 ?_ | refine Q7 ?_ | refine Qz (h := ?_) | refine Q6 ?_ | refine Qy (h := ?_) | (refine YE (h1 := ?_) (h2 := ?_) <;> intro hc <;> try (exfalso; omega)) | apply jK | apply jR | refine Q4 rfl ?_
   all_goals first
    | (exfalso; omega)
    | skip
   have hOxd := hJ.d
   rw [Qq (fun a b' _ _ => Q3l (t := t) hD.d htm')] at hOxd
   have hOxu := hJ.u
   rw [Qq (fun a b' _ _ => Q3l (t := t) hD.u htm')] at hOxu
   have hOxui := hJ.ui
   rw [Qq (fun a b' ha _ => Q3m (t := t) hD.ui htm' ha)] at hOxui
   have hOyd := hOxd
   rw [Qq (fun a b' ha _ => Q3m (t := t) (hD.d.exL htm' htm') htn' ha)] at hOyd
   have hOyv := hJ.v
   rw [Qq (fun a b' ha _ => Q3m (t := t) hD.v htn' ha)] at hOyv
   have hOyvi := hJ.vi
   rw [Qq (fun a b' _ _ => Q3l (t := t) hD.vi htn')] at hOyvi
   have hdec : decide (t ≠ t ∨ t ≠ t) = false := decide_eq_false spq
   rw [hdec]
   exact Qi rfl (fun a w' st => ⟨⟨st.kp, ⟨⟨J.u.A, J.u.c, J.u.N⟩, ⟨J.ui.A, J.ui.c, J.ui.N⟩, ⟨J.d.A, J.d.c, J.d.N⟩, ⟨J.v.A, J.v.c, J.v.N⟩, ⟨J.vi.A, J.vi.c, J.vi.N⟩⟩, by
    unfold jbH keys at *
    simp only [List.map_cons, List.map_append]
    try rfl, fun p hp => st.hs.blk p hp, ⟨hOxu, hOxui, hOyd, hOyv, hOyvi⟩, ⟨⟨rfl, rfl⟩, ⟨rfl, rfl⟩, ⟨rfl, rfl⟩, ⟨rfl, rfl⟩, ⟨rfl, rfl⟩⟩⟩, rfl⟩)
  ·skip
   repeat' first | apply jS | apply jO | apply jD | apply jN | apply jT | refine Q1 ?_ | refine Q2 ?_ | refine Q0 ?_ | refine Q7 ?_ | refine Q6 ?_ | refine Qy (h := ?_) | (refine YE (h1 := ?_) (h2 := ?_) <;> intro hc <;> try (exfalso; omega)) | apply jK | refine Q5 rfl ?_ | refine Q4 rfl ?_
   all_goals first
    | (exfalso; omega)
    | skip
   have hOxd := hJ.d
   rw [Qq (fun a b' _ _ => Q3l (t := t) hD.d htm')] at hOxd
   have hOxu := hJ.u
   rw [Qq (fun a b' _ _ => Q3l (t := t) hD.u htm')] at hOxu
   have hOxui := hJ.ui
   rw [Qq (fun a b' ha _ => Q3m (t := t) hD.ui htm' ha)] at hOxui
   refine QK 0 rfl rfl rfl rfl rfl rfl rfl rfl ?_
   repeat' first | refine Q1 ?_ | refine Q2 ?_ | refine Q7 ?_ | refine Q6 ?_ | fail
   refine Zs (A := _ :: (J.u.N ++ J.ui.N)) (N := J.d.N) (B := J.v.N ++ (J.vi.N ++ [])) (by simp only [List.append_assoc, List.cons_append, List.nil_append]; rfl) pqq rfl eqq rfl (fun w hs => Yc w J.d.A J.d.c J.d.N m n q t (gE (exL t t S.d)) hOxd hs l4 htn' hm hn) (fun u Nd2 hkNd2 hONd2 => ?_)
   rw [Qq (fun a b' ha _ => Q99 (hD.d.exL htm' htm') l4 htn' ha)] at hONd2
   simp only [List.append_assoc, List.cons_append, List.nil_append]
   repeat' first | apply jS | apply jD | apply jN | refine Q1 ?_ | refine Q2 ?_ | refine Q6 ?_ | apply jT
   all_goals first
    | (exfalso; omega)
    | skip
   refine QK 0 rfl rfl rfl rfl rfl rfl rfl rfl ?_
   repeat' first | refine Q1 ?_ | refine Q2 ?_ | refine Q7 ?_ | refine Q6 ?_ | fail
   refine Zs (A := _ :: (J.u.N ++ (J.ui.N ++ Nd2))) (N := J.v.N) (B := J.vi.N ++ []) (by simp only [List.append_assoc, List.cons_append, List.nil_append]; rfl) pqq rfl eqq rfl (fun w hs => Yc w J.v.A J.v.c J.v.N n n q t (gE S.v) hJ.v hs l4 htn' hn hn) (fun u Nv hkNv hONv => ?_)
   rw [Qq (fun a b' ha _ => Q99 hD.v l4 htn' ha)] at hONv
   simp only [List.append_assoc, List.cons_append, List.nil_append]
   repeat' first | apply jD | apply jN | refine Q1 ?_ | refine Q2 ?_ | refine Q6 ?_ | apply jT
   all_goals first
    | (exfalso; omega)
    | skip
   refine QK 0 rfl rfl rfl rfl rfl rfl rfl rfl ?_
   repeat' first | refine Q1 ?_ | refine Q2 ?_ | refine Q7 ?_ | refine Q6 ?_ | fail
   refine Zs (A := _ :: (J.u.N ++ (J.ui.N ++ (Nd2 ++ Nv)))) (N := J.vi.N) (B := []) (by simp only [List.append_assoc, List.cons_append, List.nil_append]; rfl) pqq rfl eqq rfl (fun w hs => Yb w J.vi.A J.vi.c J.vi.N n n q t (gE S.vi) hJ.vi hs l4 htn' hn hn) (fun u Nvi hkNvi hONvi => ?_)
   rw [Qq (fun a b' _ hb' => Q98 hD.vi l4 htn' hb')] at hONvi
   simp only [List.append_assoc, List.cons_append, List.nil_append]
   repeat' first | apply jS | apply jO | apply jN | apply jT | refine Q1 ?_ | refine Q2 ?_ | refine Q0 ?_ | refine Q7 ?_ | refine Qz (h := ?_) | refine Q6 ?_ | (refine YE (h1 := ?_) (h2 := ?_) <;> intro hc <;> try (exfalso; omega)) | apply jR
   all_goals first
    | (exfalso; omega)
    | skip
   have hdec : decide (t ≠ t ∨ q ≠ t) = true := decide_eq_true (.inr hqt)
   rw [hdec]
   exact Qi rfl (fun a w' st => ⟨⟨st.kp, ⟨⟨J.u.A, J.u.c, J.u.N⟩, ⟨J.ui.A, J.ui.c, J.ui.N⟩, ⟨J.d.A, J.d.c, Nd2⟩, ⟨J.v.A, J.v.c, Nv⟩, ⟨J.vi.A, J.vi.c, Nvi⟩⟩, by
    unfold jbH keys at *
    simp only [List.map_cons, List.map_append, hkNd2, hkNv, hkNvi]
    try rfl, fun p hp => st.hs.blk p hp, ⟨hOxu, hOxui, hONd2, hONv, hONvi⟩, ⟨⟨rfl, rfl⟩, ⟨rfl, rfl⟩, ⟨rfl, rfl⟩, ⟨rfl, rfl⟩, ⟨rfl, rfl⟩⟩⟩, rfl⟩)
 ·skip
  by_cases hqt : q = t
  ·rw [hqt] at l3 l4 ⊢
   repeat' first | apply jS | apply jO | apply jD | apply jN | apply jT | refine Q1 ?_ | refine Q2 ?_ | refine Q0 ?_ | refine Q7 ?_ | refine Q6 ?_ | refine Qy (h := ?_) | (refine YE (h1 := ?_) (h2 := ?_) <;> intro hc <;> try (exfalso; omega)) | refine Q5 rfl ?_
   all_goals first
    | (exfalso; omega)
    | skip
   refine QK 0 rfl rfl rfl rfl rfl rfl rfl rfl ?_
   repeat' first | refine Q1 ?_ | refine Q2 ?_ | refine Q7 ?_ | refine Q6 ?_ | fail
   refine Zs (A := _ :: (J.u.N ++ J.ui.N)) (N := J.d.N) (B := J.v.N ++ (J.vi.N ++ [])) (by simp only [List.append_assoc, List.cons_append, List.nil_append]; rfl) pqq rfl eqq rfl (fun w hs => Yb w J.d.A J.d.c J.d.N m n r t (gE S.d) hJ.d hs l2 htm' hm hn) (fun u Nd hkNd hONd => ?_)
   rw [Qq (fun a b' _ hb' => Q98 hD.d l2 htm' hb')] at hONd
   simp only [List.append_assoc, List.cons_append, List.nil_append]
   repeat' first | apply jS | apply jD | apply jN | refine Q1 ?_ | refine Q2 ?_ | refine Q6 ?_ | apply jT
   all_goals first
    | (exfalso; omega)
    | skip
   refine QK 0 rfl rfl rfl rfl rfl rfl rfl rfl ?_
   repeat' first | refine Q1 ?_ | refine Q2 ?_ | refine Q7 ?_ | refine Q6 ?_ | fail
   refine Zs (A := _ :: []) (N := J.u.N) (B := J.ui.N ++ (Nd ++ (J.v.N ++ (J.vi.N ++ [])))) (by simp only [List.append_assoc, List.cons_append, List.nil_append]; rfl) pqq rfl eqq rfl (fun w hs => Yb w J.u.A J.u.c J.u.N m m r t (gE S.u) hJ.u hs l2 htm' hm hm) (fun u Nu hkNu hONu => ?_)
   rw [Qq (fun a b' _ hb' => Q98 hD.u l2 htm' hb')] at hONu
   simp only [List.append_assoc, List.cons_append, List.nil_append]
   repeat' first | apply jD | apply jN | refine Q1 ?_ | refine Q2 ?_ | refine Q6 ?_ | apply jT
   all_goals first
    | (exfalso; omega)
    | skip
   refine QK 0 rfl rfl rfl rfl rfl rfl rfl rfl ?_
   repeat' first | refine Q1 ?_ | refine Q2 ?_ | refine Q7 ?_ | refine Q6 ?_ | fail
   refine Zs (A := _ :: Nu) (N := J.ui.N) (B := Nd ++ (J.v.N ++ (J.vi.N ++ []))) (by simp only [List.append_assoc, List.cons_append, List.nil_append]; rfl) pqq rfl eqq rfl (fun w hs => Yc w J.ui.A J.ui.c J.ui.N m m r t (gE S.ui) hJ.ui hs l2 htm' hm hm) (fun u Nui hkNui hONui => ?_)
   rw [Qq (fun a b' ha _ => Q99 hD.ui l2 htm' ha)] at hONui
   simp only [List.append_assoc, List.cons_append, List.nil_append]
   repeat' first | apply jS | apply jO | apply jN | apply jT | refine Q1 ?_ | refine Q2 ?_ | refine Q0 ?_ | refine Q7 ?_ | refine Qw (h := ?_) | refine Q6 ?_ | (refine YE (h1 := ?_) (h2 := ?_) <;> intro hc <;> try (exfalso; omega)) | apply jK | refine Q4 rfl ?_ | refine QL (h := ?_) | apply jR
   all_goals first
    | (exfalso; omega)
    | skip
   have hOyd := hONd
   rw [Qq (fun a b' ha _ => Q3m (t := t) (hD.d.exL l2 htm') htn' ha)] at hOyd
   have hOyv := hJ.v
   rw [Qq (fun a b' ha _ => Q3m (t := t) hD.v htn' ha)] at hOyv
   have hOyvi := hJ.vi
   rw [Qq (fun a b' _ _ => Q3l (t := t) hD.vi htn')] at hOyvi
   have hdec : decide (r ≠ t ∨ t ≠ t) = true := decide_eq_true (.inl hrt)
   rw [hdec]
   exact Qi rfl (fun a w' st => ⟨⟨st.kp, ⟨⟨J.u.A, J.u.c, Nu⟩, ⟨J.ui.A, J.ui.c, Nui⟩, ⟨J.d.A, J.d.c, Nd⟩, ⟨J.v.A, J.v.c, J.v.N⟩, ⟨J.vi.A, J.vi.c, J.vi.N⟩⟩, by
    unfold jbH keys at *
    simp only [List.map_cons, List.map_append, hkNd, hkNu, hkNui]
    try rfl, fun p hp => st.hs.blk p hp, ⟨hONu, hONui, hOyd, hOyv, hOyvi⟩, ⟨⟨rfl, rfl⟩, ⟨rfl, rfl⟩, ⟨rfl, rfl⟩, ⟨rfl, rfl⟩, ⟨rfl, rfl⟩⟩⟩, rfl⟩)
  ·skip
   repeat' first | apply jS | apply jO | apply jD | apply jN | apply jT | refine Q1 ?_ | refine Q2 ?_ | refine Q0 ?_ | refine Q7 ?_ | refine Q6 ?_ | refine Qy (h := ?_) | (refine YE (h1 := ?_) (h2 := ?_) <;> intro hc <;> try (exfalso; omega)) | refine Q5 rfl ?_
   all_goals first
    | (exfalso; omega)
    | skip
   refine QK 0 rfl rfl rfl rfl rfl rfl rfl rfl ?_
   repeat' first | refine Q1 ?_ | refine Q2 ?_ | refine Q7 ?_ | refine Q6 ?_ | fail
   refine Zs (A := _ :: (J.u.N ++ J.ui.N)) (N := J.d.N) (B := J.v.N ++ (J.vi.N ++ [])) (by simp only [List.append_assoc, List.cons_append, List.nil_append]; rfl) pqq rfl eqq rfl (fun w hs => Yb w J.d.A J.d.c J.d.N m n r t (gE S.d) hJ.d hs l2 htm' hm hn) (fun u Nd hkNd hONd => ?_)
   rw [Qq (fun a b' _ hb' => Q98 hD.d l2 htm' hb')] at hONd
   simp only [List.append_assoc, List.cons_append, List.nil_append]
   repeat' first | apply jS | apply jD | apply jN | refine Q1 ?_ | refine Q2 ?_ | refine Q6 ?_ | apply jT
   all_goals first
    | (exfalso; omega)
    | skip
   refine QK 0 rfl rfl rfl rfl rfl rfl rfl rfl ?_
   repeat' first | refine Q1 ?_ | refine Q2 ?_ | refine Q7 ?_ | refine Q6 ?_ | fail
   refine Zs (A := _ :: []) (N := J.u.N) (B := J.ui.N ++ (Nd ++ (J.v.N ++ (J.vi.N ++ [])))) (by simp only [List.append_assoc, List.cons_append, List.nil_append]; rfl) pqq rfl eqq rfl (fun w hs => Yb w J.u.A J.u.c J.u.N m m r t (gE S.u) hJ.u hs l2 htm' hm hm) (fun u Nu hkNu hONu => ?_)
   rw [Qq (fun a b' _ hb' => Q98 hD.u l2 htm' hb')] at hONu
   simp only [List.append_assoc, List.cons_append, List.nil_append]
   repeat' first | apply jD | apply jN | refine Q1 ?_ | refine Q2 ?_ | refine Q6 ?_ | apply jT
   all_goals first
    | (exfalso; omega)
    | skip
   refine QK 0 rfl rfl rfl rfl rfl rfl rfl rfl ?_
   repeat' first | refine Q1 ?_ | refine Q2 ?_ | refine Q7 ?_ | refine Q6 ?_ | fail
   refine Zs (A := _ :: Nu) (N := J.ui.N) (B := Nd ++ (J.v.N ++ (J.vi.N ++ []))) (by simp only [List.append_assoc, List.cons_append, List.nil_append]; rfl) pqq rfl eqq rfl (fun w hs => Yc w J.ui.A J.ui.c J.ui.N m m r t (gE S.ui) hJ.ui hs l2 htm' hm hm) (fun u Nui hkNui hONui => ?_)
   rw [Qq (fun a b' ha _ => Q99 hD.ui l2 htm' ha)] at hONui
   simp only [List.append_assoc, List.cons_append, List.nil_append]
   repeat' first | apply jS | apply jO | apply jD | apply jN | apply jT | refine Q1 ?_ | refine Q2 ?_ | refine Q7 ?_ | refine Q6 ?_ | (refine YE (h1 := ?_) (h2 := ?_) <;> intro hc <;> try (exfalso; omega)) | refine Q5 rfl ?_
   all_goals first
    | (exfalso; omega)
    | skip
   refine QK 0 rfl rfl rfl rfl rfl rfl rfl rfl ?_
   repeat' first | refine Q1 ?_ | refine Q2 ?_ | refine Q7 ?_ | refine Q6 ?_ | fail
   refine Zs (A := _ :: (Nu ++ Nui)) (N := Nd) (B := J.v.N ++ (J.vi.N ++ [])) (by simp only [List.append_assoc, List.cons_append, List.nil_append]; rfl) pqq rfl eqq rfl (fun w hs => Yc w J.d.A J.d.c Nd m n q t (gE (exL r t S.d)) hONd hs l4 htn' hm hn) (fun u Nd2 hkNd2 hONd2 => ?_)
   rw [Qq (fun a b' ha _ => Q99 (hD.d.exL l2 htm') l4 htn' ha)] at hONd2
   simp only [List.append_assoc, List.cons_append, List.nil_append]
   repeat' first | apply jS | apply jD | apply jN | refine Q1 ?_ | refine Q2 ?_ | refine Q6 ?_ | apply jT
   all_goals first
    | (exfalso; omega)
    | skip
   refine QK 0 rfl rfl rfl rfl rfl rfl rfl rfl ?_
   repeat' first | refine Q1 ?_ | refine Q2 ?_ | refine Q7 ?_ | refine Q6 ?_ | fail
   refine Zs (A := _ :: (Nu ++ (Nui ++ Nd2))) (N := J.v.N) (B := J.vi.N ++ []) (by simp only [List.append_assoc, List.cons_append, List.nil_append]; rfl) pqq rfl eqq rfl (fun w hs => Yc w J.v.A J.v.c J.v.N n n q t (gE S.v) hJ.v hs l4 htn' hn hn) (fun u Nv hkNv hONv => ?_)
   rw [Qq (fun a b' ha _ => Q99 hD.v l4 htn' ha)] at hONv
   simp only [List.append_assoc, List.cons_append, List.nil_append]
   repeat' first | apply jD | apply jN | refine Q1 ?_ | refine Q2 ?_ | refine Q6 ?_ | apply jT
   all_goals first
    | (exfalso; omega)
    | skip
   refine QK 0 rfl rfl rfl rfl rfl rfl rfl rfl ?_
   repeat' first | refine Q1 ?_ | refine Q2 ?_ | refine Q7 ?_ | refine Q6 ?_ | fail
   refine Zs (A := _ :: (Nu ++ (Nui ++ (Nd2 ++ Nv)))) (N := J.vi.N) (B := []) (by simp only [List.append_assoc, List.cons_append, List.nil_append]; rfl) pqq rfl eqq rfl (fun w hs => Yb w J.vi.A J.vi.c J.vi.N n n q t (gE S.vi) hJ.vi hs l4 htn' hn hn) (fun u Nvi hkNvi hONvi => ?_)
   rw [Qq (fun a b' _ hb' => Q98 hD.vi l4 htn' hb')] at hONvi
   simp only [List.append_assoc, List.cons_append, List.nil_append]
   repeat' first | apply jS | apply jO | apply jN | apply jT | refine Q1 ?_ | refine Q2 ?_ | refine Q0 ?_ | refine Q7 ?_ | refine Qw (h := ?_) | refine Q6 ?_ | (refine YE (h1 := ?_) (h2 := ?_) <;> intro hc <;> try (exfalso; omega)) | refine QL (h := ?_) | apply jR
   all_goals first
    | (exfalso; omega)
    | skip
   have hdec : decide (r ≠ t ∨ q ≠ t) = true := decide_eq_true (.inl hrt)
   rw [hdec]
   exact Qi rfl (fun a w' st => ⟨⟨st.kp, ⟨⟨J.u.A, J.u.c, Nu⟩, ⟨J.ui.A, J.ui.c, Nui⟩, ⟨J.d.A, J.d.c, Nd2⟩, ⟨J.v.A, J.v.c, Nv⟩, ⟨J.vi.A, J.vi.c, Nvi⟩⟩, by
    unfold jbH keys at *
    simp only [List.map_cons, List.map_append, hkNd2, hkNd, hkNu, hkNui, hkNv, hkNvi]
    try rfl, fun p hp => st.hs.blk p hp, ⟨hONu, hONui, hONd2, hONv, hONvi⟩, ⟨⟨rfl, rfl⟩, ⟨rfl, rfl⟩, ⟨rfl, rfl⟩, ⟨rfl, rfl⟩, ⟨rfl, rfl⟩⟩⟩, rfl⟩)


section
variable {c : Cx} {Q : Exit → Act → World → Prop} {m : Mode} {F : SFrame} {H : SHeap} {r : List SOp} {g : Option (Option Tmp × Bool)} {ns : Bool} {d : Tmp} {ty t t' : TypeId} {x y : Operand}
theorem Qat {s : TypeId} {fs : Array Field} {fl : Field} {f : Nat} {vs : Array Value} {v : Value} (hu : c.P.underlying s = some (.struct fs)) (hf : fs[f]? = some fl) (ht : T1 c.P fl.type) (hd : Qr c.n (some d) = true) (hg : Qd F g = some true) (hx : ev F x = some (.agg vs)) (hv : vs[fl.offset]? = some v)
  (h : JO c Q m r ((d, v) :: F) H) : JO c Q m (⟨some d, .field s x f, ty, g, .mov, ns⟩ :: r) F H :=
 Zp hd hg (fun a w fr => by
  simp only [execOp, fr.ev hx, Instr.field, Sem.run_bind, run_underlying hu, Result.andThen_ok, hf, asAgg, Sem.run_pure, part, T1.agg, Bool.false_eq_true, if_false, hv]) h

end


def clrB (m n t : Nat) (S : Sm) : Option Sm := match fsR S t m with
 | some i => some (S.rows i t (aT (-(gE S.d i t / gE S.d t t))))
 | none => match fsC S t n with
  | some k => some (S.cols k t (aT (-(gE S.d t k / gE S.d t t))))
  | none => none

theorem hmag (x : Int) : decide (magU x.natAbs ≠ []) = decide (x ≠ 0) := decide_eq_decide.2 (not_congr (magU_nil.trans Int.natAbs_eq_zero))
set_option maxHeartbeats 16000000 in
theorem Qcf (K : Nat) (w : World) (b : Nat) (J : JV) (m n t : Nat) (s : Int) (S : Sm) (hJ : IsJ J m n S) (hD : Dm m n S) (hs : Hsat (jbH b J m n t s) w) (hm : m ≤ 200) (hn : n ≤ 200) (htm : t < m) (htn : t < n) (hK : K ≤ 21000000) (hb : Ok K S) (hp : gE S.d t t ≠ 0) :
  Calls Tryz.prog 66 #[.pointer (some ⟨b, 0, none⟩)] w (Ret fun v w' => JbR b J m n t s t s ((clrB m n t S).getD S) w w' ∧ v = .bool (clrB m n t S).isSome) := by
 have hM := QM hs
 refine Q8 [] (keys (jbH b J m n t s)) hM (jbH b J m n t s) Tryz.func66 rfl mixed (by kernel_rfl) Tryz.ntmps66 Tryz.results66 rfl hs (fun p hp => List.mem_map.2 ⟨p, hp, rfl⟩) ?_
 simp only [toS, Qc, Qt, Qk, Qo, odAt, Qf, Qv, zipF]
 unfold jbH jbC
 repeat' first | apply jS | apply jO | apply jN | apply jT | refine Q1 ?_ | refine Q2 ?_ | refine Q0 ?_ | refine Q7 ?_ | refine Qh ?_ | refine Q6 ?_ | apply jB
 refine Qp (ι := Nat) ⟨fun z => [(4, nv z), (3, nv t), (0, .pointer (some ⟨b, 0, none⟩))], fun _ => jbH b J m n t s,
  fun z => t + 1 ≤ z ∧ z ≤ m ∧ fsR S t m = (List.range' z (m - z)).find? fun i => decide (gE S.d i t ≠ 0), fun z => m - z⟩ (t + 1) ⟨by omega, by omega, rfl⟩ cqq (HSub.refl _) (fun i hi => ?_)
 obtain ⟨hti, him, hf⟩ := hi
 dsimp only at hti him hf ⊢
 unfold jbH jbC
 by_cases hlt : i < m
 ·rw [Z0 hlt, List.find?_cons] at hf
  repeat' first | apply jS | apply jO | apply jN | apply jT | refine Q1 ?_ | refine Q2 ?_ | refine Q7 ?_ | refine Q6 ?_ | (refine Qm (h1 := ?_) (h2 := ?_) <;> intro hc <;> try (exfalso; omega)) | apply jK | refine Q5 rfl ?_ | apply jB
  refine Qb pqq rfl eqq rfl (fun w _ hs => Xz w b J m n t s S i t hJ hs hlt htn hm hn) fun w v w' _ _ _ hR => ?_
  subst hR
  skip
  refine Qat Tryz.underlying75 rfl (show T1 Tryz.prog 9 from inferInstance) rfl eqq rfl rfl ?_
  repeat' first | apply jN | refine Xa (h := ?_) | apply jT
  rw [hmag]
  by_cases hz : gE S.d i t = 0
  ·rw [show decide (gE S.d i t ≠ 0) = false from decide_eq_false (fun h => h hz)] at hf ⊢
   repeat' first | apply jO | apply jN | apply jT | refine Q1 ?_ | refine Q0 ?_ | refine Qh ?_ | apply jK | refine Q4 rfl ?_ | apply jW
   exact Qa (i + 1) ⟨by first | omega | (dsimp only; omega), by first | omega | (dsimp only; omega), hf⟩ dgp cqq (HSub.refl _)
  ·rw [show decide (gE S.d i t ≠ 0) = true from decide_eq_true hz] at hf ⊢
   have hf : fsR S t m = some i := hf
   have hcl : clrB m n t S = some (S.rows i t (aT (-(gE S.d i t / gE S.d t t)))) := by unfold clrB; rw [hf]
   rw [hcl]
   repeat' first | apply jS | apply jO | refine Q1 ?_ | refine Q5 rfl ?_
   refine Qb pqq rfl eqq rfl (fun w _ hs => Xz w b J m n t s S i t hJ hs hlt htn hm hn) fun w v w' _ _ _ hR => ?_
   subst hR
   skip
   refine Qb pqq rfl eqq rfl (fun w _ hs => Q8c K w b J m n t s S (gE S.d i t) hJ hs hm hn htm htn oq hb.d (Zf hb.d _ _) hp) fun w v w' _ _ _ hR => ?_
   subst hR
   skip
   refine Wj (A := []) (R := fun _ => True) rfl pqq rfl eqq rfl (fun w hs => (Q5y K K w b J m n t s S i t (-(gE S.d i t / gE S.d t t)) hJ hD hs hlt htm oq hm hn oq hb (X2 (Zf hb.d _ _))).mono fun e w' he => by
     cases e with
     | panicked _ => exact he.elim
     | outgrown => exact he.elim
     | returned v => exact ⟨he, trivial⟩) (fun v J' hkJ hJ' hF _ => ?_)
   repeat' first | apply jS | apply jO | apply jN | apply jT | refine Q0 ?_ | apply jV | apply jR | refine QE ?_
   exact Qi rfl (fun a w' st => ⟨⟨st.kp, J', hkJ, fun p hp => st.hs.blk p hp, hJ', hF⟩, rfl⟩)
 ·rw [show m - i = 0 by omega] at hf
  have hfr : fsR S t m = none := hf
  clear hf
  repeat' first | apply jS | apply jO | apply jN | apply jT | refine Q1 ?_ | refine Q2 ?_ | refine Q0 ?_ | refine Q7 ?_ | refine Qh ?_ | refine Q6 ?_ | (refine Qm (h1 := ?_) (h2 := ?_) <;> intro hc <;> try (exfalso; omega)) | apply jU | apply jE | refine Q4 rfl ?_ | apply jB | refine Qe ?_
  refine Qp (ι := Nat) ⟨fun z => [(5, nv z), (3, nv t), (0, .pointer (some ⟨b, 0, none⟩))], fun _ => jbH b J m n t s,
   fun z => t + 1 ≤ z ∧ z ≤ n ∧ fsC S t n = (List.range' z (n - z)).find? fun i => decide (gE S.d t i ≠ 0), fun z => n - z⟩ (t + 1) ⟨by omega, by omega, rfl⟩ cqq (HSub.refl _) (fun i hi => ?_)
  obtain ⟨hti, him, hf⟩ := hi
  dsimp only at hti him hf ⊢
  unfold jbH jbC
  by_cases hlt : i < n
  ·rw [Z0 hlt, List.find?_cons] at hf
   repeat' first | apply jS | apply jO | apply jN | apply jT | refine Q1 ?_ | refine Q2 ?_ | refine Q7 ?_ | refine Q6 ?_ | (refine Qm (h1 := ?_) (h2 := ?_) <;> intro hc <;> try (exfalso; omega)) | apply jK | refine Q5 rfl ?_ | apply jB
   refine Qb pqq rfl eqq rfl (fun w _ hs => Xz w b J m n t s S t i hJ hs htm hlt hm hn) fun w v w' _ _ _ hR => ?_
   subst hR
   skip
   refine Qat Tryz.underlying75 rfl (show T1 Tryz.prog 9 from inferInstance) rfl eqq rfl rfl ?_
   repeat' first | apply jN | refine Xa (h := ?_) | apply jT
   rw [hmag]
   by_cases hz : gE S.d t i = 0
   ·rw [show decide (gE S.d t i ≠ 0) = false from decide_eq_false (fun h => h hz)] at hf ⊢
    repeat' first | apply jO | apply jN | apply jT | refine Q1 ?_ | refine Q0 ?_ | refine Qh ?_ | apply jK | refine Q4 rfl ?_ | apply jW
    exact Qa (i + 1) ⟨by first | omega | (dsimp only; omega), by first | omega | (dsimp only; omega), hf⟩ dgp cqq (HSub.refl _)
   ·rw [show decide (gE S.d t i ≠ 0) = true from decide_eq_true hz] at hf ⊢
    have hf : fsC S t n = some i := hf
    have hcl : clrB m n t S = some (S.cols i t (aT (-(gE S.d t i / gE S.d t t)))) := by unfold clrB; rw [hfr, hf]
    rw [hcl]
    repeat' first | apply jS | apply jO | refine Q1 ?_ | refine Q5 rfl ?_
    refine Qb pqq rfl eqq rfl (fun w _ hs => Xz w b J m n t s S t i hJ hs htm hlt hm hn) fun w v w' _ _ _ hR => ?_
    subst hR
    skip
    refine Qb pqq rfl eqq rfl (fun w _ hs => Q8c K w b J m n t s S (gE S.d t i) hJ hs hm hn htm htn oq hb.d (Zf hb.d _ _) hp) fun w v w' _ _ _ hR => ?_
    subst hR
    skip
    refine Wj (A := []) (R := fun _ => True) rfl pqq rfl eqq rfl (fun w hs => (Qce K K w b J m n t s S i t (-(gE S.d t i / gE S.d t t)) hJ hD hs hlt htn oq hm hn oq hb (X2 (Zf hb.d _ _))).mono fun e w' he => by
      cases e with
      | panicked _ => exact he.elim
      | outgrown => exact he.elim
      | returned v => exact ⟨he, trivial⟩) (fun v J' hkJ hJ' hF _ => ?_)
    repeat' first | apply jS | apply jO | apply jN | apply jT | refine Q0 ?_ | apply jV | apply jR | refine QE ?_
    exact Qi rfl (fun a w' st => ⟨⟨st.kp, J', hkJ, fun p hp => st.hs.blk p hp, hJ', hF⟩, rfl⟩)
  ·rw [show n - i = 0 by omega] at hf
   have hfc : fsC S t n = none := hf
   have hcl : clrB m n t S = none := by unfold clrB; rw [hfr, hfc]
   rw [hcl]
   repeat' first | apply jS | apply jO | apply jN | apply jT | refine Q1 ?_ | refine Q2 ?_ | refine Q0 ?_ | refine Q7 ?_ | refine Q6 ?_ | (refine Qm (h1 := ?_) (h2 := ?_) <;> intro hc <;> try (exfalso; omega)) | apply jU | apply jE | apply jR | refine Q4 rfl ?_ | refine Qe ?_
   exact Qi rfl (fun a w' st => ⟨JbR.same hJ st.kp (fun p hp => st.hs.blk p hp), rfl⟩)


set_option maxHeartbeats 16000000 in
theorem Qiq (K : Nat) (w : World) (b : Nat) (J : JV) (m n t : Nat) (s : Int) (S : Sm) (hJ : IsJ J m n S) (hD : Dm m n S) (hs : Hsat (jbH b J m n t s) w) (hm : m ≤ 200) (hn : n ≤ 200) (htm : t < m) (htn : t < n) (hK : K ≤ 21000000) (hb : Ok K S) (hp : gE S.d t t ≠ 0) :
  Calls Tryz.prog 67 #[.pointer (some ⟨b, 0, none⟩)] w (Ret fun v w' => JbR b J m n t s t s (((Zb S t m n).map fun i => S.rows t i (aT 1)).getD S) w w' ∧ v = .bool (Zb S t m n).isSome) := by
 have hM := QM hs
 have hrem : ∀ x, remZ x (gE S.d t t) = x % gE S.d t t := fun x => if_neg hp
 refine Q8 [] (keys (jbH b J m n t s)) hM (jbH b J m n t s) Tryz.func67 rfl mixed (by kernel_rfl) Tryz.ntmps67 Tryz.results67 rfl hs (fun p hp => List.mem_map.2 ⟨p, hp, rfl⟩) ?_
 simp only [toS, Qc, Qt, Qk, Qo, odAt, Qf, Qv, zipF]
 unfold jbH jbC
 repeat' first | apply jS | apply jO | apply jN | apply jT | refine Q1 ?_ | refine Q2 ?_ | refine Q0 ?_ | refine Q7 ?_ | refine Qh ?_ | refine Q6 ?_ | apply jB
 refine Qp (ι := Nat) ⟨fun z => [(4, nv z), (3, nv t), (0, .pointer (some ⟨b, 0, none⟩))], fun _ => jbH b J m n t s,
  fun z => t + 1 ≤ z ∧ z ≤ m ∧ Zb S t m n = (List.range' z (m - z)).find? (Q06 S t n), fun z => m - z⟩ (t + 1) ⟨by omega, by omega, rfl⟩ cqq (HSub.refl _) (fun i hi => ?_)
 obtain ⟨hti, him, hsp⟩ := hi
 dsimp only at hti him hsp ⊢
 unfold jbH jbC
 by_cases hlt : i < m
 ·rw [Z0 hlt, List.find?_cons] at hsp
  repeat' first | apply jS | apply jO | apply jN | apply jT | refine Q1 ?_ | refine Q2 ?_ | refine Q0 ?_ | refine Q7 ?_ | refine Qh ?_ | refine Q6 ?_ | (refine Qm (h1 := ?_) (h2 := ?_) <;> intro hc <;> try (exfalso; omega)) | apply jK | refine Q5 rfl ?_ | apply jB
  refine Qp (ι := Nat) ⟨fun z => [(5, nv z), (4, nv i), (3, nv t), (0, .pointer (some ⟨b, 0, none⟩))], fun _ => jbH b J m n t s,
   fun z => t + 1 ≤ z ∧ z ≤ n ∧ Q06 S t n i = (List.range' z (n - z)).any fun j => decide (remZ (gE S.d i j) (gE S.d t t) ≠ 0), fun z => n - z⟩ (t + 1) ⟨by omega, by omega, rfl⟩ cqq (HSub.refl _) (fun j hj => ?_)
  obtain ⟨htj, hjn, hbr⟩ := hj
  dsimp only at htj hjn hbr ⊢
  unfold jbH jbC
  by_cases hjt : j < n
  ·rw [Z0 hjt, List.any_cons, hrem] at hbr
   repeat' first | apply jS | apply jO | apply jN | apply jT | refine Q1 ?_ | refine Q2 ?_ | refine Q7 ?_ | refine Q6 ?_ | (refine Qm (h1 := ?_) (h2 := ?_) <;> intro hc <;> try (exfalso; omega)) | apply jK | refine Q5 rfl ?_ | apply jB
   refine Qb pqq rfl eqq rfl (fun w _ hs => Xz w b J m n t s S i j hJ hs hlt hjt hm hn) fun w v w' _ _ _ hR => ?_
   subst hR
   repeat' first | refine Q1 ?_ | fail
   refine Qb pqq rfl eqq rfl (fun w _ hs => Xz w b J m n t s S t t hJ hs htm htn hm hn) fun w v w' _ _ _ hR => ?_
   subst hR
   skip
   refine Qb pqq rfl eqq rfl (fun w _ _ => Qg9 w _ _ (gE S.d i j) (gE S.d t t) K (QC (Zf hb.d _ _)) (QC (Zf hb.d _ _)) oq) fun w v w' _ _ _ hR => ?_
   rw [if_neg hp] at hR
   subst hR
   repeat' first | apply jS | apply jO | apply jN | refine Q1 ?_ | refine Q2 ?_ | refine Q0 ?_ | refine Q7 ?_ | refine Qy (h := ?_) | refine Q3 ?_ | refine Xa (h := ?_) | refine Qg fun _ => ?_ | refine Q3 ?_ | apply jT
   rw [hmag]
   by_cases hz : gE S.d i j % gE S.d t t = 0
   ·rw [show decide (gE S.d i j % gE S.d t t ≠ 0) = false from decide_eq_false (fun h => h hz)] at hbr ⊢
    repeat' first | apply jO | apply jN | apply jT | refine Q1 ?_ | refine Q0 ?_ | refine Qh ?_ | apply jK | refine Q4 rfl ?_ | apply jW
    exact Qa (j + 1) ⟨by first | omega | (dsimp only; omega), by first | omega | (dsimp only; omega), by rw [hbr]; exact Bool.false_or _⟩ dgp cqq (HSub.skip (HSub.skip (HSub.refl _)))
   ·rw [show decide (gE S.d i j % gE S.d t t ≠ 0) = true from decide_eq_true hz] at hbr ⊢
    rw [Bool.true_or] at hbr
    rw [hbr] at hsp
    have hsp : Zb S t m n = some i := hsp
    rw [hsp]
    repeat' first | apply jS | apply jO | refine Q1 ?_ | refine Q5 rfl ?_
    refine Qb pqq rfl eqq rfl (fun w _ _ => Xk w 1 oq oq) fun w v w' _ _ _ hR => ?_
    subst hR
    skip
    refine Wj (A := [_, _]) (R := fun _ => True) rfl pqq rfl eqq rfl (fun w hs => (Q5y K 1 w b J m n t s S t i 1 hJ hD hs htm hlt oq hm hn oq hb dq).mono fun e w' he => by
      cases e with
      | panicked _ => exact he.elim
      | outgrown => exact he.elim
      | returned v => exact ⟨he, trivial⟩) (fun v J' hkJ hJ' hF _ => ?_)
    repeat' first | apply jS | apply jO | apply jN | apply jT | refine Q0 ?_ | apply jV | apply jR | refine QE ?_
    exact Qi rfl (fun a w' st => ⟨⟨st.kp, J', hkJ, fun p hp => st.hs.blk p (List.mem_cons_of_mem _ (List.mem_cons_of_mem _ hp)), hJ', hF⟩, rfl⟩)
  ·rw [show n - j = 0 by omega] at hbr
   have hbr : Q06 S t n i = false := hbr
   rw [hbr] at hsp
   repeat' first | apply jS | apply jO | apply jN | apply jT | refine Q1 ?_ | refine Q2 ?_ | refine Q0 ?_ | refine Q7 ?_ | refine Qh ?_ | refine Q6 ?_ | (refine Qm (h1 := ?_) (h2 := ?_) <;> intro hc <;> try (exfalso; omega)) | apply jU | apply jE | refine Q4 rfl ?_ | apply jW | refine Qe ?_
   exact Qa (i + 1) ⟨by first | omega | (dsimp only; omega), by first | omega | (dsimp only; omega), hsp⟩ dgp cqq (HSub.refl _)
 ·rw [show m - i = 0 by omega] at hsp
  have hsp : Zb S t m n = none := hsp
  rw [hsp]
  repeat' first | apply jS | apply jO | apply jN | apply jT | refine Q1 ?_ | refine Q2 ?_ | refine Q0 ?_ | refine Q7 ?_ | refine Q6 ?_ | (refine Qm (h1 := ?_) (h2 := ?_) <;> intro hc <;> try (exfalso; omega)) | apply jU | apply jE | apply jR | refine Q4 rfl ?_ | refine Qe ?_
  exact Qi rfl (fun a w' st => ⟨JbR.same hJ st.kp (fun p hp => st.hs.blk p hp), rfl⟩)


theorem Qfw {r c t a b : Nat} {g : List (List Int)} (h : Rec r c g) (ht : t < r) (hb : b < c) : (if a = t ∧ b < c then gE g t b + -2 * gE g t b else gE g a b) = gE (negR t g) a b := by
 rw [Q6n h ht]
 by_cases e : a = t
 ·rw [if_pos ⟨e, hb⟩, if_pos e, e]; omega
 ·rw [if_neg (fun x => e x.1), if_neg e]
theorem Qks {r c t a b : Nat} {g : List (List Int)} (h : Rec r c g) (ht : t < c) (ha : a < r) : (if b = t ∧ a < r then gE g a t + -2 * gE g a t else gE g a b) = gE (negC t g) a b := by
 rw [Qbc h ht ha]
 by_cases e : b = t
 ·rw [if_pos ⟨e, ha⟩, if_pos e, e]; omega
 ·rw [if_neg (fun x => e x.1), if_neg e]

set_option maxHeartbeats 16000000 in
theorem Q9c (K : Nat) (w : World) (b : Nat) (J : JV) (m n t : Nat) (s : Int) (S : Sm) (hJ : IsJ J m n S) (hD : Dm m n S) (hs : Hsat (jbH b J m n t s) w) (hm : m ≤ 200) (hn : n ≤ 200) (htm : t < m) (htn : t < n) (hK : K ≤ 21000000) (hb : Ok K S) :
  Calls Tryz.prog 68 #[.pointer (some ⟨b, 0, none⟩)] w (Ret fun _ w' => JbR b J m n t s ((t + 1 : Nat) : Int) s (if gE S.d t t < 0 then S.neg t else S) w w') := by
 have hM := QM hs
 refine Q8 [⟨3, 1, [], []⟩, ⟨4, 1, [], []⟩, ⟨5, 1, [], []⟩] (keys (jbH b J m n t s)) hM (jbH b J m n t s) Tryz.func68 rfl mixed (by kernel_rfl) Tryz.ntmps68 Tryz.results68 rfl hs (fun p hp => List.mem_map.2 ⟨p, hp, rfl⟩) ?_
 simp only [toS, Qc, Qt, Qk, Qo, odAt, Qf, Qv, zipF]
 unfold jbH jbC
 repeat' first | apply jS | apply jO | apply jN | refine Q1 ?_ | refine Q2 ?_ | refine Q0 ?_ | refine Q7 ?_ | refine Q6 ?_ | apply jT
 refine Qb pqq rfl eqq rfl (fun w _ hs => Xz w b J m n t s S t t hJ hs htm htn hm hn) fun w v w' _ _ _ hR => ?_
 subst hR
 skip
 refine Qb pqq rfl eqq rfl (fun w _ _ => Qcg w _ (gE S.d t t) K (QC (Zf hb.d _ _)) oq) fun w v w' _ _ _ hR => ?_
 subst hR
 have hsg : (gE S.d t t).sign < 0 ↔ gE S.d t t < 0 := Int.sign_neg_iff
 by_cases hneg : gE S.d t t < 0
 ·have := hsg.2 hneg
  rw [if_pos hneg]
  repeat' first | apply jS | apply jO | apply jN | apply jT | (refine Qm (h1 := ?_) (h2 := ?_) <;> intro hc <;> try (exfalso; omega)) | refine Q5 rfl ?_
  all_goals first
   | (exfalso; omega)
   | skip
  refine Qb pqq rfl eqq rfl (fun w _ _ => Xk w (-2) oq oq) fun w v w' _ _ _ hR => ?_
  subst hR
  repeat' first | apply jS | apply jD | apply jN | refine Q1 ?_ | refine Q2 ?_ | refine Q6 ?_ | refine Q3 ?_ | refine Qg fun _ => ?_ | refine Q3 ?_ | apply jT
  refine QK 1 rfl rfl rfl rfl rfl rfl rfl rfl ?_
  repeat' first | refine Q1 ?_ | refine Ql ?_ | fail
  refine Zs (A := _ :: _ :: (J.u.N ++ J.ui.N)) (N := J.d.N) (B := J.v.N ++ (J.vi.N ++ [])) (by simp only [List.append_assoc, List.cons_append, List.nil_append]; rfl) pqq rfl eqq rfl (fun w hs => X4 K 1 w J.d.A J.d.c J.d.N m n t t (-2) (gE S.d) hJ.d hs htm htm hm hn oq dq (fun a b' _ _ => Zf hb.d a b')) (fun u Nd hkNd hONd => ?_)
  rw [Qq (fun a b' _ hb' => Qfw hD.d htm hb')] at hONd
  simp only [List.append_assoc, List.cons_append, List.nil_append]
  repeat' first | apply jS | apply jD | apply jN | refine Q1 ?_ | refine Q2 ?_ | refine Q6 ?_ | apply jT
  refine QK 1 rfl rfl rfl rfl rfl rfl rfl rfl ?_
  repeat' first | refine Q1 ?_ | refine Ql ?_ | fail
  refine Zs (A := _ :: _ :: []) (N := J.u.N) (B := J.ui.N ++ (Nd ++ (J.v.N ++ (J.vi.N ++ [])))) (by simp only [List.append_assoc, List.cons_append, List.nil_append]; rfl) pqq rfl eqq rfl (fun w hs => X4 K 1 w J.u.A J.u.c J.u.N m m t t (-2) (gE S.u) hJ.u hs htm htm hm hm oq dq (fun a b' _ _ => Zf hb.u a b')) (fun u Nu hkNu hONu => ?_)
  rw [Qq (fun a b' _ hb' => Qfw hD.u htm hb')] at hONu
  simp only [List.append_assoc, List.cons_append, List.nil_append]
  repeat' first | apply jD | apply jN | refine Q1 ?_ | refine Q2 ?_ | refine Q6 ?_ | apply jT
  refine QK 1 rfl rfl rfl rfl rfl rfl rfl rfl ?_
  repeat' first | refine Q1 ?_ | refine Ql ?_ | fail
  refine Zs (A := _ :: _ :: Nu) (N := J.ui.N) (B := Nd ++ (J.v.N ++ (J.vi.N ++ []))) (by simp only [List.append_assoc, List.cons_append, List.nil_append]; rfl) pqq rfl eqq rfl (fun w hs => XJ K 1 w J.ui.A J.ui.c J.ui.N m m t t (-2) (gE S.ui) hJ.ui hs htm htm hm hm oq dq (fun a b' _ _ => Zf hb.ui a b')) (fun u Nui hkNui hONui => ?_)
  rw [Qq (fun a b' ha _ => Qks hD.ui htm ha)] at hONui
  simp only [List.append_assoc, List.cons_append, List.nil_append]
  repeat' first | apply jO | apply jN | refine Q1 ?_ | refine Q2 ?_ | refine Q7 ?_ | refine Qh ?_ | refine Q6 ?_ | refine QS (k := _) (h := ?_) | apply jT
  refine Zw (fun a w' st => ⟨st.kp, ⟨⟨J.u.A, J.u.c, Nu⟩, ⟨J.ui.A, J.ui.c, Nui⟩, ⟨J.d.A, J.d.c, Nd⟩, J.v, J.vi⟩, ?_, fun p hp => st.hs.blk p (List.mem_cons_of_mem _ hp), ⟨hONu, hONui, hONd, hJ.v, hJ.vi⟩, ⟨⟨rfl, rfl⟩, ⟨rfl, rfl⟩, ⟨rfl, rfl⟩, ⟨rfl, rfl⟩, ⟨rfl, rfl⟩⟩⟩)
  unfold jbH keys at *
  simp only [List.map_cons, List.map_append, hkNd, hkNu, hkNui]
 ·have := fun h => hneg (hsg.1 h)
  rw [if_neg hneg]
  repeat' first | apply jO | apply jN | apply jT | refine Q1 ?_ | refine Q2 ?_ | refine Q7 ?_ | refine Qh ?_ | refine Q6 ?_ | (refine Qm (h1 := ?_) (h2 := ?_) <;> intro hc <;> try (exfalso; omega)) | refine QS (k := _) (h := ?_) | apply jK | refine Q4 rfl ?_
  all_goals first
   | (exfalso; omega)
   | skip
  exact Zw (fun a w' st => ⟨st.kp, J, rfl, fun p hp => st.hs.blk p hp, hJ, SameF.refl J⟩)


theorem Q84 (t a : Nat) : exN t t a = a := by
 unfold exN
 by_cases e : a = t
 ·rw [if_pos e, e]
 ·rw [if_neg e, if_neg e]
theorem Q4m {r c t : Nat} {g : List (List Int)} (h : Rec r c g) (ht : t < r) : exL t t g = g := (h.exL ht ht).ext h fun a b _ _ => by rw [Q2j h ht ht, Q84]
theorem Q4n {r c t : Nat} {g : List (List Int)} (h : Rec r c g) (ht : t < c) : exK t t g = g := h.exK.ext h fun a b ha _ => by rw [Q14 h ht ht ha, Q84]
theorem Qic {m n t : Nat} {S : Sm} (h : Dm m n S) (htm : t < m) (htn : t < n) : S.ex t t t = S := by
 unfold Sm.ex
 rw [Q4m h.u htm, Q4n h.ui htm, Q4m h.d htm, Q4n h.d htn, Q4n h.v htn, Q4m h.vi htn]
theorem Q0f {m n t t' : Nat} {S S' : Sm} (h : Dm m n S) (hs : stpB m n t S = some (S', t')) : Dm m n S' ∧ t' ≤ m ∧ t' ≤ n := by
 unfold stpB at hs
 split at hs
 ·cases hs
 ·rename_i hf
  have hf : (Qu S t m n).2.2 = true := by simpa using hf
  obtain ⟨⟨l1, l2, l3, l4⟩, l5⟩ := Xw hf
  split at hs
  ·cases hs
   exact ⟨h.ex l2 l4 oq oq, by omega, by omega⟩
  ·cases h1 : fsR S t m with
   | some i => rw [h1] at hs; cases hs; obtain ⟨g1, g2, _⟩ := Q4i h1; exact ⟨h.rows g2 oq, by omega, by omega⟩
   | none =>
    rw [h1] at hs
    dsimp only at hs
    cases h2 : fsC S t n with
    | some j => rw [h2] at hs; cases hs; obtain ⟨g1, g2, _⟩ := Q4k h2; exact ⟨h.cols g2 oq, by omega, by omega⟩
    | none =>
     rw [h2] at hs
     dsimp only at hs
     cases h3 : Zb S t m n with
     | some i => rw [h3] at hs; cases hs; obtain ⟨g1, g2, _⟩ := Q44 h3; exact ⟨h.rows oq g2, by omega, by omega⟩
     | none =>
      rw [h3] at hs
      cases hs
      by_cases hg : gE S.d t t < 0
      ·rw [if_pos hg]; exact ⟨Qfu h oq, by omega, by omega⟩
      ·rw [if_neg hg]; exact ⟨h, by omega, by omega⟩

theorem Qgp {m n t : Nat} {S S2 : Sm} (hl : (Qu S t m n).2.2 = true) (he : ¬((Qu S t m n).1 ≠ t ∨ (Qu S t m n).2.1 ≠ t)) (h : clrB m n t S = some S2) : stpB m n t S = some (S2, t) := by
 unfold stpB
 rw [if_neg (by rw [hl]; simp), if_neg he]
 unfold clrB at h
 cases h1 : fsR S t m with
 | some i => rw [h1] at h; cases h; rfl
 | none =>
  rw [h1] at h
  dsimp only at h ⊢
  cases h2 : fsC S t n with
  | some j => rw [h2] at h; cases h; rfl
  | none => rw [h2] at h; cases h
theorem Qgo {m n t i : Nat} {S : Sm} (hl : (Qu S t m n).2.2 = true) (he : ¬((Qu S t m n).1 ≠ t ∨ (Qu S t m n).2.1 ≠ t)) (h : clrB m n t S = none) (hs : Zb S t m n = some i) : stpB m n t S = some (S.rows t i (aT 1), t) := by
 unfold stpB
 rw [if_neg (by rw [hl]; simp), if_neg he]
 unfold clrB at h
 cases h1 : fsR S t m with
 | some i => rw [h1] at h; cases h
 | none =>
  rw [h1] at h
  dsimp only at h ⊢
  cases h2 : fsC S t n with
  | some j => rw [h2] at h; cases h
  | none => rw [hs]
theorem Qgn {m n t : Nat} {S : Sm} (hl : (Qu S t m n).2.2 = true) (he : ¬((Qu S t m n).1 ≠ t ∨ (Qu S t m n).2.1 ≠ t)) (h : clrB m n t S = none) (hs : Zb S t m n = none) : stpB m n t S = some (if gE S.d t t < 0 then S.neg t else S, t + 1) := by
 unfold stpB
 rw [if_neg (by rw [hl]; simp), if_neg he]
 unfold clrB at h
 cases h1 : fsR S t m with
 | some i => rw [h1] at h; cases h
 | none =>
  rw [h1] at h
  dsimp only at h ⊢
  cases h2 : fsC S t n with
  | some j => rw [h2] at h; cases h
  | none => rw [hs]
theorem Q7e {m n k t t' : Nat} {S S' : Sm} (hk : 0 < k) (h : stpB m n t S = some (S', t')) : runB m n k t S = ((runB m n (k - 1) t' S').1, (runB m n (k - 1) t' S').2.1, (runB m n (k - 1) t' S').2.2 + 1) := by
 obtain ⟨k, rfl⟩ : ∃ j, k = j + 1 := ⟨k - 1, by omega⟩
 rw [Nat.add_sub_cancel]
 show (match stpB m n t S with | none => _ | some r => _) = _
 rw [h]
theorem Q7f {m n k t : Nat} {S : Sm} (h : (Qu S t m n).2.2 = false) : runB m n k t S = (S, t, 0) := by
 cases k with
 | zero => rfl
 | succ k =>
  show (match stpB m n t S with | none => _ | some r => _) = _
  rw [show stpB m n t S = none by unfold stpB; rw [if_pos h]]
theorem Wy {K k i m n t t1 t2 : Nat} {S S1 S2 : Sm} (hlt : i < k) (hrun : runB m n k t S = ((runB m n (k - i) t1 S1).1, (runB m n (k - i) t1 S1).2.1, (runB m n (k - i) t1 S1).2.2 + i))
  (hok : ∀ j, j ≤ (runB m n (k - i) t1 S1).2.2 → Ok K (runB m n j t1 S1).1) (hs : stpB m n t1 S1 = some (S2, t2)) :
  runB m n k t S = ((runB m n (k - (i + 1)) t2 S2).1, (runB m n (k - (i + 1)) t2 S2).2.1, (runB m n (k - (i + 1)) t2 S2).2.2 + (i + 1)) ∧ ∀ j, j ≤ (runB m n (k - (i + 1)) t2 S2).2.2 → Ok K (runB m n j t2 S2).1 := by
 have e := Q7e (k := k - i) oq hs
 rw [Nat.sub_sub] at e
 rw [e] at hrun hok
 refine ⟨by rw [hrun]; dsimp only; rw [show (runB m n (k - (i + 1)) t2 S2).2.2 + 1 + i = (runB m n (k - (i + 1)) t2 S2).2.2 + (i + 1) by omega], fun j hj => ?_⟩
 have h := hok (j + 1) dgq
 rw [Q7e oq hs, Nat.add_sub_cancel] at h
 exact h

set_option maxHeartbeats 16000000 in
theorem Qiw (K : Nat) (w : World) (b : Nat) (J : JV) (m n t s k : Nat) (S : Sm) (hJ : IsJ J m n S) (hD : Dm m n S) (hs : Hsat (jbH b J m n t s) w) (hm : m ≤ 200) (hn : n ≤ 200) (htm : t ≤ m) (htn : t ≤ n) (hK : K ≤ 21000000) (hsk : s + k < 1099511627776)
  (hb : ∀ j, j ≤ (runB m n k t S).2.2 → Ok K (runB m n j t S).1) :
  Calls Tryz.prog 27 #[.pointer (some ⟨b, 0, none⟩), nv k] w (Ret fun v w' => JbR b J m n t s ((runB m n k t S).2.1 : Nat) ((s + (runB m n k t S).2.2 : Nat) : Int) (runB m n k t S).1 w w' ∧ v = iv (if (Qu (runB m n k t S).1 (runB m n k t S).2.1 m n).2.2 = true then 60 else 0)) := by
 have hM := QM hs
 refine Q8 [] (keys (jbH b J m n t s)) hM (jbH b J m n t s) Tryz.func27 rfl mixed (by kernel_rfl) Tryz.ntmps27 Tryz.results27 rfl hs (fun p hp => List.mem_map.2 ⟨p, hp, rfl⟩) ?_
 simp only [toS, Qc, Qt, Qk, Qo, odAt, Qf, Qv, zipF]
 repeat' first | apply jS | apply jO | apply jN | apply jT | refine Q1 ?_ | refine Q0 ?_ | refine Qz (h := ?_) | (refine Qm (h1 := ?_) (h2 := ?_) <;> intro hc <;> try (exfalso; omega)) | (refine QT (h1 := ?_) (h2 := ?_) <;> intro hc <;> try (exfalso; omega)) | apply jK | refine Q4 rfl ?_ | apply jB
 refine Qp (ι := Nat × Nat × Sm × JV) ⟨fun z => [(5, nv z.1), (0, .pointer (some ⟨b, 0, none⟩)), (1, nv k)], fun z => jbH b z.2.2.2 m n z.2.1 ((s + z.1 : Nat) : Int),
  fun z => z.1 ≤ k ∧ Dm m n z.2.2.1 ∧ IsJ z.2.2.2 m n z.2.2.1 ∧ SameF J z.2.2.2 ∧ keys (jbH b z.2.2.2 m n z.2.1 ((s + z.1 : Nat) : Int)) = keys (jbH b J m n t s) ∧ z.2.1 ≤ m ∧ z.2.1 ≤ n ∧
   runB m n k t S = ((runB m n (k - z.1) z.2.1 z.2.2.1).1, (runB m n (k - z.1) z.2.1 z.2.2.1).2.1, (runB m n (k - z.1) z.2.1 z.2.2.1).2.2 + z.1) ∧
   ∀ j, j ≤ (runB m n (k - z.1) z.2.1 z.2.2.1).2.2 → Ok K (runB m n j z.2.1 z.2.2.1).1, fun z => k - z.1⟩ (0, t, S, J) ⟨Nat.zero_le _, hD, hJ, SameF.refl J, rfl, htm, htn, rfl, hb⟩ cqq (HSub.refl _) (fun z hz => ?_)
 obtain ⟨i, t1, S1, J1⟩ := z
 obtain ⟨hik, hD1, hJ1, hF1, hk1, htm1, htn1, hrun, hok⟩ := hz
 dsimp only at hik hD1 hJ1 hF1 hk1 htm1 htn1 hrun hok ⊢
 have hb1 : Ok K S1 := hok 0 (Nat.zero_le _)
 by_cases hlt : i < k
 ·repeat' first | apply jS | refine Q1 ?_ | (refine Qm (h1 := ?_) (h2 := ?_) <;> intro hc <;> try (exfalso; omega)) | apply jO
  refine Qb pqq rfl eqq rfl (fun w _ hs => Q1q K w b J1 m n t1 ((s + i : Nat) : Int) S1 hJ1 hs hm hn htm1 htn1 oq hb1.d) fun w v w' _ _ _ hR => ?_
  subst hR
  by_cases hle : (Qu S1 t1 m n).2.2 = true
  ·rw [hle]
   obtain ⟨⟨l1, l2, l3, l4⟩, hlv⟩ := Xw hle
   repeat' first | apply jS | apply jO | apply jN | apply jT | refine Q1 ?_ | refine Q2 ?_ | refine Q7 ?_ | refine Qw (h := ?_) | refine Zo (h := ?_) | refine Q6 ?_ | (refine Qm (h1 := ?_) (h2 := ?_) <;> intro hc <;> try (exfalso; omega)) | apply jK | refine Q5 rfl ?_ | apply jB
   refine Wj (A := []) rfl pqq rfl eqq rfl (fun w hs => Qet K w b J1 m n t1 ((s + i : Nat) : Int) S1 hJ1 hD1 hs hm hn htm1 htn1 oq hb1 hle) fun v J2 hk2 hJ2 hF2 hR => ?_
   subst hR
   rw [List.nil_append]
   by_cases hmv : (Qu S1 t1 m n).1 ≠ t1 ∨ (Qu S1 t1 m n).2.1 ≠ t1
   ·have hst : stpB m n t1 S1 = some (S1.ex (Qu S1 t1 m n).1 (Qu S1 t1 m n).2.1 t1, t1) := by
     unfold stpB
     rw [if_neg (by rw [hle]; simp), if_pos hmv]
    rw [decide_eq_true hmv]
    repeat' first | apply jS | apply jO | apply jN | apply jT | refine Q1 ?_ | refine Q2 ?_ | refine Q0 ?_ | refine Q7 ?_ | refine Qh ?_ | refine Zo (h := ?_) | refine Q6 ?_ | refine QS (k := _) (h := ?_) | apply jK | refine Q4 rfl ?_ | apply jW
    obtain ⟨hrun2, hok2⟩ := Wy hlt hrun hok hst
    obtain ⟨hD2, htm2, htn2⟩ := Q0f hD1 hst
    exact Qa (i + 1, t1, S1.ex (Qu S1 t1 m n).1 (Qu S1 t1 m n).2.1 t1, J2) ⟨hlt, hD2, hJ2, hF1.trans hF2, hk2.trans hk1, htm2, htn2, hrun2, hok2⟩ dgq cqq (HSub.refl _)
   ·rw [decide_eq_false hmv]
    obtain ⟨e1, e2⟩ : (Qu S1 t1 m n).1 = t1 ∧ (Qu S1 t1 m n).2.1 = t1 := by omega
    rw [e1] at l2
    rw [e2] at l4
    rw [e1, e2] at hlv
    rw [e1, e2, Qic hD1 l2 l4] at hJ2
    repeat' first | apply jS | apply jO | apply jN | apply jT | refine Q1 ?_ | refine Q0 ?_ | refine Zo (h := ?_) | refine Q5 rfl ?_
    refine Wj (A := []) rfl pqq rfl eqq rfl (fun w hs => Qcf K w b J2 m n t1 ((s + i : Nat) : Int) S1 hJ2 hD1 hs hm hn l2 l4 oq hb1 hlv) fun v J3 hk3 hJ3 hF3 hR => ?_
    subst hR
    rw [List.nil_append]
    cases hcl : clrB m n t1 S1 with
    | some S2 =>
     rw [hcl] at hJ3
     repeat' first | apply jS | apply jO | apply jN | apply jT | refine Q1 ?_ | refine Q2 ?_ | refine Q0 ?_ | refine Q7 ?_ | refine Qh ?_ | refine Zo (h := ?_) | refine Q6 ?_ | refine QS (k := _) (h := ?_) | apply jK | refine Q4 rfl ?_ | apply jW
     have hst := Qgp hle hmv hcl
     obtain ⟨hrun2, hok2⟩ := Wy hlt hrun hok hst
     obtain ⟨hD2, htm2, htn2⟩ := Q0f hD1 hst
     exact Qa (i + 1, t1, S2, J3) ⟨hlt, hD2, hJ3, (hF1.trans hF2).trans hF3, hk3.trans (hk2.trans hk1), htm2, htn2, hrun2, hok2⟩ dgq cqq (HSub.refl _)
    | none =>
     rw [hcl] at hJ3
     repeat' first | apply jS | apply jO | apply jN | apply jT | refine Q1 ?_ | refine Q0 ?_ | refine Zo (h := ?_) | refine Q5 rfl ?_
     refine Wj (A := []) rfl pqq rfl eqq rfl (fun w hs => Qiq K w b J3 m n t1 ((s + i : Nat) : Int) S1 hJ3 hD1 hs hm hn l2 l4 oq hb1 hlv) fun v J4 hk4 hJ4 hF4 hR => ?_
     subst hR
     rw [List.nil_append]
     cases hsp : Zb S1 t1 m n with
     | some q =>
      rw [hsp] at hJ4
      repeat' first | apply jS | apply jO | apply jN | apply jT | refine Q1 ?_ | refine Q2 ?_ | refine Q0 ?_ | refine Q7 ?_ | refine Qh ?_ | refine Zo (h := ?_) | refine Q6 ?_ | refine QS (k := _) (h := ?_) | apply jK | refine Q4 rfl ?_ | apply jW
      have hst := Qgo hle hmv hcl hsp
      obtain ⟨hrun2, hok2⟩ := Wy hlt hrun hok hst
      obtain ⟨hD2, htm2, htn2⟩ := Q0f hD1 hst
      exact Qa (i + 1, t1, _, J4) ⟨hlt, hD2, hJ4, ((hF1.trans hF2).trans hF3).trans hF4, hk4.trans (hk3.trans (hk2.trans hk1)), htm2, htn2, hrun2, hok2⟩ dgq cqq (HSub.refl _)
     | none =>
      rw [hsp] at hJ4
      repeat' first | apply jS | apply jO | apply jN | apply jT | refine Q1 ?_ | refine Q0 ?_ | refine Zo (h := ?_) | refine Q5 rfl ?_
      have hst := Qgn hle hmv hcl hsp
      refine Wj (A := []) (R := fun _ => True) rfl pqq rfl eqq rfl (fun w hs => (Q9c K w b J4 m n t1 ((s + i : Nat) : Int) S1 hJ4 hD1 hs hm hn l2 l4 oq hb1).mono fun e w' he => by
        cases e with
        | panicked _ => exact he.elim
        | outgrown => exact he.elim
        | returned v => exact ⟨he, trivial⟩) (fun v J5 hk5 hJ5 hF5 _ => ?_)
      rw [List.nil_append]
      repeat' first | apply jO | apply jN | apply jT | refine Q1 ?_ | refine Q2 ?_ | refine Q0 ?_ | refine Q7 ?_ | refine Qh ?_ | refine Q6 ?_ | refine QS (k := _) (h := ?_) | apply jW
      obtain ⟨hrun2, hok2⟩ := Wy hlt hrun hok hst
      obtain ⟨hD2, htm2, htn2⟩ := Q0f hD1 hst
      exact Qa (i + 1, t1 + 1, _, J5) ⟨hlt, hD2, hJ5, (((hF1.trans hF2).trans hF3).trans hF4).trans hF5, hk5.trans (hk4.trans (hk3.trans (hk2.trans hk1))), htm2, htn2, hrun2, hok2⟩ dgq cqq (HSub.refl _)
  ·have hle : (Qu S1 t1 m n).2.2 = false := by simpa using hle
   rw [hle]
   repeat' first | apply jS | apply jO | apply jN | apply jT | refine Q1 ?_ | refine Qw (h := ?_) | refine Qz (h := ?_) | refine Zo (h := ?_) | apply jU | refine Q4 rfl ?_ | refine Qe ?_ | refine QL (h := ?_) | apply jE
   refine Qb pqq rfl eqq rfl (fun w _ hs => Q1q K w b J1 m n t1 ((s + i : Nat) : Int) S1 hJ1 hs hm hn htm1 htn1 oq hb1.d) fun w v w' _ _ _ hR => ?_
   subst hR
   have hrn : runB m n k t S = (S1, t1, i) := by rw [hrun, Q7f hle]; dsimp only; rw [Nat.zero_add]
   rw [hrn]
   dsimp only
   rw [hle]
   repeat' first | apply jS | apply jO | apply jN | apply jT | refine Q1 ?_ | refine Q0 ?_ | apply jV | apply jR | refine Q5 rfl ?_
   exact Qi rfl (fun a w' st => ⟨⟨st.kp, J1, hk1, fun p hp => st.hs.blk p hp, hJ1, hF1⟩, rfl⟩)
 ·obtain rfl : i = k := by omega
  repeat' first | apply jS | apply jO | apply jN | apply jT | refine Q1 ?_ | refine Qz (h := ?_) | (refine Qm (h1 := ?_) (h2 := ?_) <;> intro hc <;> try (exfalso; omega)) | apply jU | refine Q4 rfl ?_ | refine Qe ?_ | refine QL (h := ?_) | apply jE
  refine Qb pqq rfl eqq rfl (fun w _ hs => Q1q K w b J1 m n t1 ((s + i : Nat) : Int) S1 hJ1 hs hm hn htm1 htn1 oq hb1.d) fun w v w' _ _ _ hR => ?_
  subst hR
  by_cases hle : (Qu S1 t1 m n).2.2 = true
  ·have hrn : runB m n i t S = (S1, t1, i) := by rw [hrun, Nat.sub_self]; show (S1, t1, 0 + i) = _; rw [Nat.zero_add]
   rw [hrn]
   dsimp only
   rw [hle]
   repeat' first | apply jS | apply jO | apply jN | apply jT | refine Q1 ?_ | refine Q0 ?_ | apply jK | apply jR | refine Q4 rfl ?_
   exact Qi rfl (fun a w' st => ⟨⟨st.kp, J1, hk1, fun p hp => st.hs.blk p hp, hJ1, hF1⟩, rfl⟩)
  ·have hle : (Qu S1 t1 m n).2.2 = false := by simpa using hle
   have hrn : runB m n i t S = (S1, t1, i) := by rw [hrun, Nat.sub_self]; show (S1, t1, 0 + i) = _; rw [Nat.zero_add]
   rw [hrn]
   dsimp only
   rw [hle]
   repeat' first | apply jS | apply jO | apply jN | apply jT | refine Q1 ?_ | refine Q0 ?_ | apply jV | apply jR | refine Q5 rfl ?_
   exact Qi rfl (fun a w' st => ⟨⟨st.kp, J1, hk1, fun p hp => st.hs.blk p hp, hJ1, hF1⟩, rfl⟩)


theorem newJ {c : Cx} {F : SFrame} {H0 N H : SHeap} {a : Act} {w : World} (st : St c F H a w) (hM : c.M = keys H0) (hH : HSub (H0 ++ N) H) : New N c.w0 w := by
 refine st.newM ((Qj (HSub.refl _)).trans hH) fun p hp h => ?_
 rw [hM] at h
 have nd := hH.nodup st.hs.nd
 unfold keys at nd
 rw [List.map_append] at nd
 exact (List.nodup_append.1 nd).2.2 p.1 h p.1 (List.mem_map.2 ⟨p, hp, rfl⟩) rfl

theorem Q4a (b : Nat) (z : Int) : OwnZ [(b, .cells ⟨[.bool (wz z).1, sv (wz z).2]⟩ 75)] (.slice (some ⟨b, 0, none⟩) 1 1) 1 [z] := by
 have h := OwnRow.mk' (e := 75) (sz := 2) (n := 1) (b := b) (cs := ⟨[.bool (wz z).1, sv (wz z).2]⟩) spq (by simp only [maxLen]; omega)
 exact h

set_option maxHeartbeats 8000000 in
theorem Qck (K : Nat) (w : World) (b : Nat) (J : JV) (m n t : Nat) (s : Int) (S : Sm) (hJ : IsJ J m n S) (hs : Hsat (jbH b J m n t s) w) (hm : m ≤ 200) (hn : n ≤ 200) (htm : t ≤ m) (htn : t ≤ n) (hb : okG K S.d = true) :
  Calls Tryz.prog 69 #[.pointer (some ⟨b, 0, none⟩)] w (Ret fun v w' => Kp [] w w' ∧ ∃ N, New N w w' ∧ OwnZ N v t ((List.range t).map fun k => gE S.d k k)) := by
 have hM := QM hs
 refine Q8 [] (keys (jbH b J m n t s)) hM (jbH b J m n t s) Tryz.func69 rfl mixed (by kernel_rfl) Tryz.ntmps69 Tryz.results69 rfl hs (fun p hp => List.mem_map.2 ⟨p, hp, rfl⟩) ?_
 simp only [toS, Qc, Qt, Qk, Qo, odAt, Qf, Qv, zipF]
 unfold jbH jbC
 repeat' first | apply jS | apply jO | apply jN | apply jT | refine Q0 ?_ | apply jB
 refine Qp (ι := Nat × SHeap × Value) ⟨fun z => [(4, nv z.1), (3, z.2.2), (0, .pointer (some ⟨b, 0, none⟩))], fun z => jbH b J m n t s ++ (z.2.1 ++ []),
  fun z => z.1 ≤ t ∧ OwnZ z.2.1 z.2.2 z.1 ((List.range z.1).map fun k => gE S.d k k), fun z => t - z.1⟩ (0, [], .slice none 0 0) ⟨Nat.zero_le _, OwnZ.nil⟩ cqq (by show HSub (jbH b J m n t s ++ []) _; rw [List.append_nil (jbH b J m n t s)]; exact HSub.refl _) (fun z hz => ?_)
 obtain ⟨k, N, v4⟩ := z
 obtain ⟨hk, hO⟩ := hz
 dsimp only at hk hO ⊢
 unfold jbH jbC
 by_cases hlt : k < t
 ·have hk1 : k < m := by omega
  have hk2 : k < n := by omega
  repeat' first | apply jS | apply jO | apply jN | apply jT | refine Q1 ?_ | refine Q2 ?_ | refine Q7 ?_ | refine Q6 ?_ | (refine Qm (h1 := ?_) (h2 := ?_) <;> intro hc <;> try (exfalso; omega)) | apply jK | refine Q5 rfl ?_ | apply jB
  refine Qb pqq rfl eqq rfl (fun w _ hs => Xz w b J m n t s S k k hJ (HSub.in0.hsat hs) hk1 hk2 hm hn) fun w v w' _ _ _ hR => ?_
  subst hR
  skip
  refine WF (sz := 2) (vs := [Wv (gE S.d k k)]) (cl := [.bool (wz (gE S.d k k)).1, sv (wz (gE S.d k k)).2]) rfl rfl (by first | rfl | trivial | exact ⟨rfl, rfl⟩) rfl rfl (fun v hv => by
   cases List.mem_singleton.1 hv; rfl) rfl dq dq (fun b2 => ?_)
  have h1 := Q4a b2 (gE S.d k k)
  skip
  refine ZD (A := _ :: jbH b J m n t s) (B := []) hO h1.rd Q9 rfl pqq rfl rfl rfl rfl oq (fun v' N' hO' => ?_)
  rw [show (List.map (fun k => gE S.d k k) (List.range k)) ++ [gE S.d k k] = List.map (fun k => gE S.d k k) (List.range (k + 1)) by rw [List.range_succ, List.map_append]; rfl] at hO'
  repeat' first | apply jO | apply jN | apply jT | refine Q1 ?_ | refine Q0 ?_ | refine Qh ?_ | apply jW
  exact Qa (k + 1, N', v') ⟨by dsimp only; omega, hO'⟩ dgq cqq (HSub.skip (HSub.refl _))
 ·obtain rfl : k = t := by omega
  repeat' first | apply jS | apply jO | apply jN | apply jT | refine Q1 ?_ | refine Q2 ?_ | refine Q0 ?_ | refine Q7 ?_ | refine Q6 ?_ | (refine Qm (h1 := ?_) (h2 := ?_) <;> intro hc <;> try (exfalso; omega)) | apply jU | apply jE | apply jR | refine Q4 rfl ?_ | refine Qe ?_
  exact Qi rfl (fun a w' st => ⟨Z9 hs st.kp (fun p hp => st.hs.blk p (List.mem_append_left _ hp)), N, newJ st rfl (by rw [List.append_nil N]; exact HSub.refl _), hO⟩)

end Go.Proofs.YtbofgpenopcfaaaGreatDoor

