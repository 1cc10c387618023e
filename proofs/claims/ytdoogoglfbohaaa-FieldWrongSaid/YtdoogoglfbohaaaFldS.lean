/- What the functions of field compute, in plain words. -/
import Derived.Test.YtdoogoglfbohaaaExI
namespace Go.Proofs.Ytdoogoglfbohaaa
open Go Go.RowKit
set_option linter.unusedSimpArgs false
set_option linter.unusedVariables false
set_option linter.unusedSectionVars false

/-- A matrix, right or not. -/
structure FM where
  P : Int
  R : Int
  C : Int
  E : List Int
  deriving DecidableEq

/-- A matrix of naturals. -/
structure NM where
  p : Nat
  r : Nat
  c : Nat
  e : List Nat
  deriving DecidableEq

def NM.fm (m : NM) : FM := ⟨m.p, m.r, m.c, ints m.e⟩

def zeroF : FM := ⟨0, 0, 0, []⟩

/-- A prime that is permitted. -/
def Pr (p : Nat) : Prop := 2 ≤ p ∧ p ≤ 997 ∧ ∀ d, 2 ≤ d → d < p → p % d ≠ 0

instance (p : Nat) : Decidable (Pr p) :=
  decidable_of_iff (2 ≤ p ∧ p ≤ 997 ∧ ∀ d, d < p → 2 ≤ d → p % d ≠ 0) (by unfold Pr; exact ⟨fun h => ⟨h.1, h.2.1, fun d a b => h.2.2 d b a⟩, fun h => ⟨h.1, h.2.1, fun d a b => h.2.2 d b a⟩⟩)

structure Rt (m : NM) : Prop where
  pr : Pr m.p
  r : m.r ≤ 400
  c : m.c ≤ 400
  len : m.e.length = m.r * m.c
  lt : ∀ x ∈ m.e, x < m.p

instance (m : NM) : Decidable (Rt m) :=
  decidable_of_iff (Pr m.p ∧ m.r ≤ 400 ∧ m.c ≤ 400 ∧ m.e.length = m.r * m.c ∧ ∀ x ∈ m.e, x < m.p) ⟨fun ⟨a, b, c, d, e⟩ => ⟨a, b, c, d, e⟩, fun ⟨a, b, c, d, e⟩ => ⟨a, b, c, d, e⟩⟩

/-- The right matrix that it is, if it is one. -/
def toN (a : FM) : Option NM := if NM.fm ⟨a.P.toNat, a.R.toNat, a.C.toNat, a.E.map Int.toNat⟩ = a ∧ Rt ⟨a.P.toNat, a.R.toNat, a.C.toNat, a.E.map Int.toNat⟩ then some ⟨a.P.toNat, a.R.toNat, a.C.toNat, a.E.map Int.toNat⟩ else none

theorem toN_some {a : FM} {m : NM} (h : toN a = some m) : a = m.fm ∧ Rt m := by
  unfold toN at h
  split at h
  · rename_i h1
    cases h
    exact ⟨h1.1.symm, h1.2⟩
  · cases h

theorem toN_fm {m : NM} (h : Rt m) : toN m.fm = some m := by
  have e : (⟨m.fm.P.toNat, m.fm.R.toNat, m.fm.C.toNat, m.fm.E.map Int.toNat⟩ : NM) = m := by
    obtain ⟨p, r, c, l⟩ := m
    simp [NM.fm, ints, Function.comp_def]
  unfold toN
  rw [e, if_pos ⟨rfl, h⟩]

theorem toN_none {a : FM} (h : toN a = none) (m : NM) (hm : Rt m) : a ≠ m.fm := by
  intro e
  subst e
  rw [toN_fm hm] at h
  cases h

/-- Fits: so many rows and columns of one field are permitted. -/
def Fits (p r c : Int) : Prop := ∃ p' r' c' : Nat, p = p' ∧ r = r' ∧ c = c' ∧ Pr p' ∧ r' ≤ 400 ∧ c' ≤ 400

theorem Rt.fits {m : NM} (h : Rt m) : Fits m.fm.P m.fm.R m.fm.C := ⟨m.p, m.r, m.c, rfl, rfl, rfl, h.pr, h.r, h.c⟩

theorem Rt.lt' {m : NM} (h : Rt m) (i : Nat) : m.e.getD i 0 < m.p := by
  rcases Nat.lt_or_ge i m.e.length with hi | hi
  · exact h.lt _ (mem_getD hi)
  · simp only [List.getD, List.getElem?_eq_none hi, Option.getD_none]; have := h.pr.1; omega

/-! ## Values -/

def fmV (a : FM) (E : Value) : Value := .agg #[iv a.P, iv a.R, iv a.C, E]

/-- At w, the value v is the matrix a. -/
def IsF (w : World) (v : Value) (a : FM) : Prop := ∃ E, v = fmV a E ∧ WI w E a.E.length a.E
/-- The value v is the matrix a, in blocks N of its own. -/
def OwnF (N : SHeap) (v : Value) (a : FM) : Prop := ∃ E, v = fmV a E ∧ OwnI N E a.E.length a.E

theorem IsF.mono {w w' : World} {v : Value} {a : FM} (h : IsF w v a) (hk : Kp [] w w') : IsF w' v a := by
  obtain ⟨E, h1, h2⟩ := h
  exact ⟨E, h1, h2.mono hk⟩
theorem OwnF.new {N : SHeap} {v : Value} {a : FM} {w w' : World} (h : OwnF N v a) (hn : New N w w') : IsF w' v a := by
  obtain ⟨E, h1, h2⟩ := h
  exact ⟨E, h1, h2.new hn⟩
theorem OwnF.zero : OwnF [] (.agg #[iv 0, iv 0, iv 0, .slice none 0 0]) zeroF := ⟨_, rfl, OwnI.nil⟩

/-- A result that is a matrix. -/
def GivesF (a : FM) (w : World) (v : Value) (w' : World) : Prop := ∃ N, New N w w' ∧ OwnF N v a
/-- A result that is a matrix, and a Bool. -/
def GivesFB (a : FM) (b : Bool) (w : World) (v : Value) (w' : World) : Prop := ∃ N u, v = .tuple #[u, .bool b] ∧ New N w w' ∧ OwnF N u a

/-- The same for matrices of naturals. -/
def IsM (w : World) (v : Value) (m : NM) : Prop := ∃ E, v = .agg #[nv m.p, nv m.r, nv m.c, E] ∧ WN w E m.e.length m.e
def OwnM (N : SHeap) (v : Value) (m : NM) : Prop := ∃ E, v = .agg #[nv m.p, nv m.r, nv m.c, E] ∧ OwnN N E m.e.length m.e

theorem IsM.mono {w w' : World} {v : Value} {m : NM} (h : IsM w v m) (hk : Kp [] w w') : IsM w' v m := by
  obtain ⟨E, h1, h2⟩ := h
  exact ⟨E, h1, h2.mono hk⟩
theorem IsF.nat {w : World} {v : Value} {m : NM} (h : IsF w v m.fm) : IsM w v m := by
  obtain ⟨E, rfl, h⟩ := h
  refine ⟨E, rfl, ?_⟩
  have h : WI w E (ints m.e).length (ints m.e) := h
  rw [ints_len] at h
  exact h.nat
theorem IsM.int {w : World} {v : Value} {m : NM} (h : IsM w v m) : IsF w v m.fm := by
  obtain ⟨E, rfl, h⟩ := h
  refine ⟨E, rfl, ?_⟩
  show WI w E (ints m.e).length (ints m.e)
  rw [ints_len]
  exact h.int
theorem OwnM.int {N : SHeap} {v : Value} {m : NM} (h : OwnM N v m) : OwnF N v m.fm := by
  obtain ⟨E, rfl, h⟩ := h
  refine ⟨E, rfl, ?_⟩
  show OwnI N E (ints m.e).length (ints m.e)
  rw [ints_len]
  exact h.int
theorem OwnM.mk' {N : SHeap} {p r c n : Nat} {E : Value} {e : List Nat} (h : OwnN N E n e) : OwnM N (.agg #[nv p, nv r, nv c, E]) ⟨p, r, c, e⟩ := by
  refine ⟨E, rfl, ?_⟩
  rw [h.len]
  exact h

end Go.Proofs.Ytdoogoglfbohaaa
