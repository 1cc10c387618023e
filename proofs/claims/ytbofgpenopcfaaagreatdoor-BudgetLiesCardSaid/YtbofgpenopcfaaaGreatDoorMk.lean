import Derived.Test.YtbofgpenopcfaaaGreatDoorMh
import Derived.Test.YtbofgpenopcfaaaGreatDoorMf
import Derived.Test.YtbofgpenopcfaaaGreatDoorMg
import Derived.Test.YtbofgpenopcfaaaGreatDoorMi
import Derived.Test.YtbofgpenopcfaaaGreatDoorMj
import Derived.Test.YtbofgpenopcfaaaGreatDoorMe
import Derived.Test.YtbofgpenopcfaaaGreatDoorMd
import Derived.Test.YtbofgpenopcfaaaGreatDoorMb
namespace Go.Proofs.YtbofgpenopcfaaaGreatDoor
open Go Go.RowKit
set_option linter.unusedSimpArgs false
set_option linter.unusedVariables false
set_option linter.unusedSectionVars false

set_option maxHeartbeats 2000000 in
theorem Qby (w : World) (v u : Value) (n k : Nat) (xs ys : List WR) (hv : WX w v n xs) (hu : WX w u k ys) (hn : n < 1000000000) (hk : k < 1000000000) : Calls Tryz.prog 19 #[v, u] w (Ret fun v w' => Kp [] w w' ∧ IsB (xs = ys) v) := by
 have hl := hv.len
 have hl' := hu.len
 refine Q8 [⟨6, 1, [], []⟩] [] spq [] Tryz.func19 rfl mixed (by kernel_rfl) Tryz.ntmps19 Tryz.results19 rfl ⟨by simp, by simp⟩ spq ?_
 simp only [toS, textOps, toSOp, kindAt, kindOf, odAt, sopsAt, ordOf, zipF]
 have hR := WX.rd (c := ⟨Tryz.prog, 26, w, [], by simp⟩) hv rfl []
 have hR' := WX.rd (c := ⟨Tryz.prog, 26, w, [], by simp⟩) hu rfl []
 repeat' first | apply jS | apply jO | apply jN | apply jT | refine Q1 ?_ | refine Q0 ?_ | refine X6 (h := ?_) | (refine Yf (h1 := ?_) (h2 := ?_) <;> intro hc <;> try (exfalso; omega)) | apply jV | apply jK | apply jR | refine Q5 rfl ?_ | refine Q4 rfl ?_ | apply jB
 ·exact Qd rfl (fun a w' st => ⟨st.kp, Yr (fun h => hc (by rw [← hl, ← hl', h]))⟩)
 ·have hnk : n = k := by omega
  subst hnk
  refine Qj (ι := Nat) ⟨fun i => [(5, nv i), (0, v), (1, u)], fun _ => [], fun i => i ≤ n ∧ ∀ j, j < i → xs.getD j w0x = ys.getD j w0x, fun i => n - i⟩ 0 ⟨by omega, fun j h => by omega⟩ cqq (HSub.nil _) (fun i hi => ?_)
  obtain ⟨hin, hpr⟩ := hi
  dsimp only
  by_cases hlt : i < n
  ·repeat' first | apply jS | apply jO | apply jD | apply jN | apply jT | refine Q1 ?_ | refine Wk (h := ?_) | refine Qa4 (h := ?_) | refine X6 (h := ?_) | (refine Qi (h1 := ?_) (h2 := ?_) <;> intro hc <;> try (exfalso; omega)) | apply jK | refine Q5 rfl ?_ | apply jB
   refine Qgc rfl rfl rfl rfl ?_
   by_cases he : xs.getD i w0x = ys.getD i w0x
   ·rw [he]
    simp only [BEq.rfl, decide_true, Bool.and_self, Bool.not_true]
    repeat' first | apply jO | apply jN | apply jT | refine Q1 ?_ | refine Q0 ?_ | refine Qe ?_ | apply jK | refine Q4 rfl ?_ | apply jW
    refine Qa (i + 1) ⟨by omega, fun j h => ?_⟩ dgq cqq (HSub.nil _)
    rcases Nat.lt_or_ge j i with h' | h'
    ·exact hpr j h'
    ·have : j = i := by omega
     subst this; exact he
   ·have hb : (!((xs.getD i w0x).1 == (ys.getD i w0x).1 && decide ((xs.getD i w0x).2 = (ys.getD i w0x).2))) = true := by
     simp only [Bool.not_eq_true', Bool.and_eq_false_iff]
     by_cases h1 : (xs.getD i w0x).1 = (ys.getD i w0x).1
     ·refine .inr ?_
      simp only [decide_eq_false_iff_not]
      exact fun h2 => he (Prod.ext h1 h2)
     ·exact .inl (by simpa using h1)
    rw [hb]
    repeat' first | apply jS | apply jO | apply jN | apply jT | refine Q0 ?_ | apply jV | apply jR | refine Q5 rfl ?_ | refine Qt ?_
    exact Qd rfl (fun a w' st => ⟨st.kp, Yr (fun h => he (by rw [h]))⟩)
  ·repeat' first | apply jS | apply jO | apply jN | apply jT | refine Q1 ?_ | refine Q0 ?_ | refine X6 (h := ?_) | (refine Qi (h1 := ?_) (h2 := ?_) <;> intro hc <;> try (exfalso; omega)) | apply jU | apply jE | apply jR | refine Q4 rfl ?_ | refine Qc ?_
   refine Qd rfl (fun a w' st => ⟨st.kp, IsB.t (Q3z (d := w0x) oq (fun j hj => hpr j oq))⟩)

theorem Qbd {xs : List WR} {k : Nat} (hk : k < xs.length) (h : badW (xs.getD k w0x) = true) : ¬ Canon xs := fun hc => Q24.1 hc ⟨_, Ze hk, h⟩

set_option maxHeartbeats 2000000 in
theorem Q2f (w : World) (E : Value) (n : Nat) (xs : List WR) (hE : WX w E n xs) (hn : n < 1000000000) :
  Calls Tryz.prog 93 #[E] w (Ret fun v w' => Kp [] w w' ∧ IsB (Canon xs) v) := by
 have hl := hE.len
 refine Q8 [] [] spq [] Tryz.func93 rfl mixed (by kernel_rfl) Tryz.ntmps93 Tryz.results93 rfl ⟨by simp, by simp⟩ spq ?_
 simp only [toS, textOps, toSOp, kindAt, kindOf, odAt, sopsAt, ordOf, zipF]
 have hR := WX.rd (c := ⟨Tryz.prog, 40, w, [], by simp⟩) hE rfl []
 repeat' first | apply jS | apply jO | apply jN | apply jT | refine Q0 ?_ | apply jB
 refine Qj (ι := Nat) ⟨fun k => [(3, nv k), (0, E)], fun _ => [], fun k => k ≤ n ∧ ∀ j, j < k → badW (xs.getD j w0x) = false, fun k => n - k⟩ 0 ⟨by omega, fun j h => by omega⟩ cqq (HSub.nil _) (fun k hk => ?_)
 obtain ⟨hkn, hpr⟩ := hk
 dsimp only
 by_cases hlt : k < n
 ·repeat' first | apply jS | apply jO | apply jN | apply jT | refine Q1 ?_ | refine Wk (h := ?_) | refine Q4q (h := ?_) | refine Xs (h := ?_) | refine X6 (h := ?_) | refine Qa8 (h := ?_) | (refine Qi (h1 := ?_) (h2 := ?_) <;> intro hc <;> try (exfalso; omega)) | apply jK | refine Q5 rfl ?_ | apply jB
  have hxk : ∀ x, xs.getD k w0x = x → badW x = true → ¬ Canon xs := fun x hx hb => Qbd (k := k) oq (by rw [hx]; exact hb)
  have hnx : ∀ x, xs.getD k w0x = x → badW x = false → ∀ j, j < k + 1 → badW (xs.getD j w0x) = false := fun x hx hb j hj => by
   rcases Nat.lt_or_ge j k with h | h
   ·exact hpr j h
   ·obtain rfl : j = k := by omega
    rw [hx]; exact hb
  rcases hx : xs.getD k w0x with ⟨p, l⟩
  cases l with
  | nil =>
   simp only [decide_true]
   repeat' first | refine Q1 ?_ | refine Wk (h := ?_) | refine Qjg (h := ?_) | refine Xs (h := ?_) | refine Ql ?_ | fail
   rw [hx]
   cases p
   ·repeat' first | refine Q1 ?_ | refine Wk (h := ?_) | refine Q4q (h := ?_) | refine Xs (h := ?_) | refine Yg (h := ?_) | fail
    rw [hx, show decide ((false, ([] : List UInt8)).snd ≠ []) = false from rfl]
    repeat' first | apply jO | apply jN | apply jT | refine Q1 ?_ | refine Q0 ?_ | refine Qe ?_ | refine Qn ?_ | apply jK | refine Q4 rfl ?_ | refine Qy (h := ?_) | apply jW
    exact Qa (k + 1) ⟨by omega, hnx _ hx rfl⟩ dgq cqq (HSub.nil _)
   ·repeat' first | apply jS | apply jO | apply jN | apply jT | refine Q0 ?_ | refine Ql ?_ | apply jV | refine Q5 rfl ?_ | refine Qt ?_ | refine Qy (h := ?_) | apply jR
    exact Qd rfl (fun a w' st => ⟨st.kp, Yr (hxk _ hx rfl)⟩)
  | cons x r =>
   rw [show decide ((p, x :: r).snd = ([] : List UInt8)) = false from rfl]
   repeat' first | refine Q1 ?_ | refine Wk (h := ?_) | refine Q4q (h := ?_) | refine Xs (h := ?_) | refine Qn ?_ | refine Yg (h := ?_) | refine Qy (h := ?_) | fail
   rw [hx, show decide ((p, x :: r).snd ≠ ([] : List UInt8)) = true from rfl]
   repeat' first | refine Q1 ?_ | refine Wk (h := ?_) | refine Q4q (h := ?_) | refine Xs (h := ?_) | fail
   rw [hx]
   repeat' first | apply jS | apply jO | apply jN | apply jT | refine Q1 ?_ | refine Q0 ?_ | refine Qe ?_ | refine Ql ?_ | refine Qn ?_ | refine Q1p (h := ?_) | (refine Z0 (h1 := ?_) (h2 := ?_) <;> intro hc <;> try (exfalso; omega)) | apply jV | apply jK | apply jR | refine Q5 rfl ?_ | refine Q4 rfl ?_ | apply jW | refine Qt ?_
   ·exact Qd rfl (fun _ w' st => ⟨st.kp, Yr (hxk _ hx (by have : x = 0 := UInt8.toNat.inj (by simpa using hc); subst this; rfl))⟩)
   ·exact Qa (k + 1) ⟨by omega, hnx _ hx (by have : x ≠ 0 := fun e => hc (by subst e; rfl); simp [badW, this])⟩ dgq cqq (HSub.nil _)
 ·repeat' first | apply jS | apply jO | apply jN | apply jT | refine Q1 ?_ | refine Q0 ?_ | refine X6 (h := ?_) | (refine Qi (h1 := ?_) (h2 := ?_) <;> intro hc <;> try (exfalso; omega)) | apply jU | apply jE | apply jR | refine Q4 rfl ?_ | refine Qc ?_
  refine Qd rfl (fun a w' st => ⟨st.kp, IsB.t (Q24.2 ?_)⟩)
  rintro ⟨x, hx, hb⟩
  obtain ⟨j, hj, rfl⟩ := List.mem_iff_getElem.1 hx
  have := hpr j oq
  rw [List.getD, List.getElem?_eq_getElem hj, Option.getD_some, hb] at this
  cases this

set_option maxHeartbeats 1000000 in
theorem YO (w : World) (v : Value) (a : XM) (ha : IsX w v a) (hl : a.E.length < 1000000000) : Calls Tryz.prog 39 #[v] w (Ret fun v w' => Kp [] w w' ∧ IsB (RX a) v) := by
 obtain ⟨E, rfl, hE⟩ := ha
 by_cases hf : 0 ≤ a.R ∧ a.R ≤ 200 ∧ 0 ≤ a.C ∧ a.C ≤ 200
 ·obtain ⟨R, C, xs⟩ := a
  obtain ⟨h1, h2, h3, h4⟩ := hf
  dsimp only at *
  obtain ⟨r, rfl⟩ := Int.eq_ofNat_of_zero_le h1
  obtain ⟨c, rfl⟩ := Int.eq_ofNat_of_zero_le h3
  have hr : r ≤ 200 := by omega
  have hc : c ≤ 200 := by omega
  have hrc := rcZ hr hc
  have hiff := Qfm (E := xs) hr hc
  refine Q8 [] [] spq [] Tryz.func39 rfl mixed (by kernel_rfl) Tryz.ntmps39 Tryz.results39 rfl ⟨by simp, by simp⟩ spq ?_
  simp only [toS, textOps, toSOp, kindAt, kindOf, odAt, sopsAt, ordOf, zipF]
  have hR := WX.rd (c := ⟨Tryz.prog, 25, w, [], by simp⟩) hE rfl []
  repeat' first | apply jS | apply jO | apply jN | refine Q2 ?_ | refine Q0 ?_ | refine Q7 ?_ | refine QB (h := fun _ => ?_) | apply jT
  refine Qb trivial rfl rfl rfl (fun w _ _ => Q26 r c w) fun w v w' _ _ _ hv => ?_
  obtain ⟨b', rfl, hb⟩ := hv
  obtain rfl := hb.2 ⟨h1, h2, h3, h4⟩
  repeat' first | apply jS | apply jO | apply jN | apply jT | refine Q1 ?_ | refine Q2 ?_ | refine Q0 ?_ | refine Q7 ?_ | refine X6 (h := ?_) | refine Z2 (h := ?_) | refine Qn ?_ | refine QT (h := ?_) | (refine Yf (h1 := ?_) (h2 := ?_) <;> intro hc <;> try (exfalso; omega)) | apply jV | apply jK | apply jR | refine Q5 rfl ?_ | refine Q4 rfl ?_
  ·exact Qd rfl (fun a w' st => ⟨st.kp, Yr (fun h => by have := (hiff.1 h).1; omega)⟩)
  ·refine Qb trivial rfl rfl rfl (fun w' hk hs => Q2f w' E _ _ (hE.mono hk) hl) fun w v w' _ _ _ hv => ?_
   obtain ⟨b', rfl, hb⟩ := hv
   repeat' first | apply jN | apply jT | refine Q0 ?_ | apply jR
   exact Qd rfl (fun a w' st => ⟨st.kp, b', rfl, hb.trans ⟨fun h => hiff.2 ⟨by omega, h⟩, fun h => (hiff.1 h).2⟩⟩)
 ·refine Q8 [] [] spq [] Tryz.func39 rfl mixed (by kernel_rfl) Tryz.ntmps39 Tryz.results39 rfl ⟨by simp, by simp⟩ spq ?_
  simp only [toS, textOps, toSOp, kindAt, kindOf, odAt, sopsAt, ordOf, zipF]
  repeat' first | apply jS | apply jO | apply jN | refine Q2 ?_ | refine Q0 ?_ | refine Q7 ?_ | refine QB (h := fun _ => ?_) | apply jT
  refine Qb trivial rfl rfl rfl (fun w _ _ => Q26 a.R a.C w) fun w v w' _ _ _ hv => ?_
  obtain ⟨b', rfl, hb⟩ := hv
  cases b' with
  | true => exact absurd (hb.1 rfl) hf
  | false =>
   repeat' first | apply jS | apply jO | apply jN | apply jT | refine Q1 ?_ | refine Q0 ?_ | refine Ql ?_ | refine QT (h := ?_) | apply jV | refine Q5 rfl ?_ | refine Qy (h := ?_) | apply jR
   exact Qd rfl (fun a w' st => ⟨st.kp, Yr (fun h => hf h.fits)⟩)

end Go.Proofs.YtbofgpenopcfaaaGreatDoor

namespace Go.Proofs.YtbofgpenopcfaaaGreatDoor
open Go
set_option linter.unusedSimpArgs false
set_option linter.unusedVariables false
set_option linter.unusedSectionVars false

def SolL (n : Nat) (A M : Mi) : Prop := ∀ i, i < n → ∀ j, j < n → M i j = smI n fun t => M i (n + t) * A t j
theorem SolL.addr {n : Nat} {A M : Mi} {r s : Nat} {t : Int} (h : SolL n A M) (hr : r < n) (hs : s < n) : SolL n A (setRow M r fun j => M r j + t * M s j) := fun i hi j hj => by
 by_cases he : i = r
 ·subst he
  rw [setRow_self, Z4 (g := fun u => M i (n + u) * A u j + t * (M s (n + u) * A u j)) (fun u _ => by rw [setRow_self]; grind), Q1g, Q0r, ← h i hi j hj, ← h s hs j hj]
 ·rw [QA he, Z4 (g := fun u => M i (n + u) * A u j) (fun u _ => by rw [QA he]), ← h i hi j hj]
theorem SolL.swp {n : Nat} {A M : Mi} {r s : Nat} (h : SolL n A M) (hr : r < n) (hs : s < n) : SolL n A (swp M r s) := fun i hi j hj => by
 by_cases h1 : i = r
 ·subst h1
  rw [Z4 (g := fun u => M s (n + u) * A u j) (fun u _ => by rw [Proofs.YtbofgpenopcfaaaGreatDoor.swp, if_pos rfl]), ← h s hs j hj, Proofs.YtbofgpenopcfaaaGreatDoor.swp, if_pos rfl]
 ·by_cases h2 : i = s
  ·subst h2
   rw [Z4 (g := fun u => M r (n + u) * A u j) (fun u _ => by rw [Proofs.YtbofgpenopcfaaaGreatDoor.swp, if_neg h1, if_pos rfl]), ← h r hr j hj, Proofs.YtbofgpenopcfaaaGreatDoor.swp, if_neg h1, if_pos rfl]
  ·rw [Z4 (g := fun u => M i (n + u) * A u j) (fun u _ => by rw [Proofs.YtbofgpenopcfaaaGreatDoor.swp, if_neg h1, if_neg h2]), ← h i hi j hj, Proofs.YtbofgpenopcfaaaGreatDoor.swp, if_neg h1, if_neg h2]
theorem SolL.red {n : Nat} {A M M' : Mi} (hr : Red n M M') (h : SolL n A M) : SolL n A M' := by
 induction hr with
 | refl => exact h
 | add r s t hr hs hn _ ih => exact ih (h.addr hr hs)
 | swap r s hr hs hn _ ih => exact ih (h.swp hr hs)
theorem Red.detA {n : Nat} {M M' : Mi} (hr : Red n M M') : (det n M').natAbs = (det n M).natAbs := by
 induction hr with
 | refl => rfl
 | add r s t hr hs hn _ ih => rw [ih, Wz t hr hs hn]
 | swap r s hr hs hn _ ih => rw [ih, Xu hr hs hn, Int.natAbs_neg]
theorem Qhr {n k : Nat} {M : Mi} (hk : k < n) (hu : ∀ j, j < k → ∀ i, i < n → M i j = if i = j then 1 else 0) (hz : ∀ i, k < i → i < n → M i k = 0) : ∃ x, det n M = M k k * x := by
 refine ⟨det n (setRow (tr M) k (unit k)), ?_⟩
 rw [← Qfb (A := M)]
 conv => lhs; rw [← Zj (tr M) k]
 rw [Q59 hk, YC (k := k) hk (fun i hi hne => ?_)]
 ·rfl
 ·rcases Nat.lt_or_ge i k with h | h
  ·rw [QX (B := setRow (setRow (tr M) i (unit i)) k (unit i)) (fun a ha b hb => ?_), X1 (r := i) (s := k) hi hk oq (fun j => by rw [setRow_self, QA hne, setRow_self]), Int.mul_zero]
   by_cases h1 : a = k
   ·subst h1; rw [setRow_self, setRow_self]
   ·rw [QA h1, QA h1]
    by_cases h2 : a = i
    ·subst h2
     rw [setRow_self]
     show M b a = unit a b
     rw [hu a h b hb]
     unfold unit
     by_cases h3 : b = a
     ·rw [if_pos h3, if_pos h3.symm]
     ·rw [if_neg h3, if_neg (Ne.symm h3)]
    ·rw [QA h2]
  ·show M i k * _ = 0
   rw [hz i oq hi, Int.zero_mul]

structure Stg (n : Nat) (A : Mi) (k : Nat) (M : Mi) : Prop where
 sol : SolL n A M
 dt : (det n M).natAbs = 1
 un : ∀ j, j < k → ∀ i, i < n → M i j = if i = j then 1 else 0
structure Mid (n : Nat) (A : Mi) (k : Nat) (M : Mi) (i : Nat) : Prop where
 stg : Stg n A k M
 low : ∀ a, k < a → a < n → M a k = 0
 top : ∀ a, a < i → a < k → M a k = 0
 piv : M k k = 1
theorem Qkh {n : Nat} {A M : Mi} (h : Stg n A n M) {i j : Nat} (hi : i < n) (hj : j < n) : (smI n fun t => M i (n + t) * A t j) = if i = j then 1 else 0 := by rw [← h.sol i hi j hj, h.un j hj i hi]
theorem Stg.red {n k : Nat} {A M M' : Mi} (h : Stg n A k M) (hk : k < n) (hr : Red n M M') (ht : ∀ a, a < k → ∀ b, M' a b = M a b) (hz : ∀ b, (∀ a, k ≤ a → a < n → M a b = 0) → ∀ a, k ≤ a → a < n → M' a b = 0) (hl : ∀ a, k < a → a < n → M' a k = 0) :
  Stg n A k M' ∧ (M' k k).natAbs = 1 := by
 have hs : Stg n A k M' := ⟨h.sol.red hr, by rw [hr.detA]; exact h.dt, fun j hj i hi => by
  rcases Nat.lt_or_ge i k with hik | hik
  ·rw [ht i hik, h.un j hj i hi]
  ·rw [if_neg oq]
   exact hz j (fun a h1 h2 => by rw [h.un j hj a h2, if_neg oq]) i hik hi⟩
 obtain ⟨x, hx⟩ := Qhr hk hs.un hl
 have h1 := hs.dt
 rw [hx, Int.natAbs_mul] at h1
 exact ⟨hs, Nat.dvd_one.1 ⟨_, h1.symm⟩⟩
theorem Qki {n k : Nat} {A M : Mi} (h : Mid n A k M k) : Stg n A (k + 1) M := ⟨h.stg.sol, h.stg.dt, fun j hj i hi => by
 by_cases he : j = k
 ·subst he
  split
  ·rename_i h1; subst h1; exact h.piv
  ·rcases Nat.lt_or_ge i j with h2 | h2
   ·exact h.top i h2 h2
   ·exact h.low i oq hi
 ·exact h.stg.un j oq i hi⟩

end Go.Proofs.YtbofgpenopcfaaaGreatDoor

namespace Go.Proofs.YtbofgpenopcfaaaGreatDoor
open Go Go.RowKit
set_option linter.unusedSimpArgs false
set_option linter.unusedVariables false
set_option linter.unusedSectionVars false

structure InvP (n : Nat) (A : Mi) (e u : Nat → Nat) (k : Nat) (M : Mi) : Prop where
 stg : Stg n A k M
 lo : ∀ a b, k ≤ a → a < n → (M a b).natAbs ≤ e k
 up : ∀ a b, a < k → (M a b).natAbs ≤ u k
structure MidP (n : Nat) (A : Mi) (e u : Nat → Nat) (k i : Nat) (M : Mi) : Prop where
 mid : Mid n A k M i
 lo : ∀ a b, k ≤ a → a < n → (M a b).natAbs ≤ e (k + 1)
 up : ∀ a b, i ≤ a → a < k → (M a b).natAbs ≤ u k
 up1 : ∀ a b, a < i → a < k → (M a b).natAbs ≤ u k * (1 + e (k + 1))
section
variable {c : Cx} {Q : Exit → Act → World → Prop} {m : Mode} {F : SFrame} {H : SHeap} {r : List SOp} {g : Option (Option Tmp × Bool)} {ns : Bool} {d : Tmp} {ty t t' : TypeId} {x y : Operand}
end



theorem Qen {m : ZM} (h : RtZ m) : m.xm.E.length < 1000000000 := by have := h.le; simp [ZM.xm]; omega

set_option maxHeartbeats 8000000 in
theorem Qe1 (K L : Nat) (w : World) (v u : Value) (m n : ZM) (hm : RtZ m) (hn : RtZ n) (hr : m.c = n.r) (hK : K + L ≤ 90000000) (hx : BdZ K m) (hy : BdZ L n) (hv : IsM w v m) (hu : IsM w u n) :
  Calls Tryz.prog 147 #[v, u] w (Ret fun v w' => Kp [] w w' ∧ GivesMB (mulZ m n) true w v w') := by
 have hvX := hv.x
 have huX := hu.x
 obtain ⟨E, rfl, hE⟩ := hv
 obtain ⟨E', rfl, hE'⟩ := hu
 have hle := hm.le
 have hle' := hn.le
 have hbr := hm.r
 have hbc := hm.c
 have hbc' := hn.c
 have hrc := rcZ hbr hbc'
 rw [hm.len] at hE
 rw [hn.len] at hE'
 refine Q8 [⟨19, 2, [], []⟩] [] spq [] Tryz.func147 rfl mixed (by kernel_rfl) Tryz.ntmps147 Tryz.results147 rfl ⟨by simp, by simp⟩ spq ?_
 simp only [toS, textOps, toSOp, kindAt, kindOf, odAt, sopsAt, ordOf, zipF]
 have hR := WZ.rd (c := ⟨Tryz.prog, 104, w, [], by simp⟩) hE rfl []
 have hR' := WZ.rd (c := ⟨Tryz.prog, 104, w, [], by simp⟩) hE' rfl []
 repeat' first | apply jS | apply jO | apply jN | refine Q0 ?_ | refine Qg ?_ | refine Qf fun _ => ?_ | refine QB (h := fun _ => ?_) | apply jT
 rename_i b2 b3 b4
 refine Qb trivial rfl rfl rfl (fun w hk _ => YO w _ m.xm (hvX.mono hk) (Qen hm)) fun w v w' _ _ _ hc0 => ?_
 obtain ⟨b', rfl, hb⟩ := hc0
 obtain rfl := hb.2 hm.rx
 repeat' first | apply jS | apply jO | apply jN | refine Q0 ?_ | refine Qg ?_ | apply jT
 refine Qb trivial rfl rfl rfl (fun w hk _ => YO w _ n.xm (huX.mono hk) (Qen hn)) fun w v w' _ _ _ hc0 => ?_
 obtain ⟨b', rfl, hb'⟩ := hc0
 obtain rfl := hb'.2 hn.rx
 repeat' first | apply jS | apply jO | apply jN | apply jT | refine Q1 ?_ | refine Q2 ?_ | refine Q0 ?_ | refine Q7 ?_ | refine Qn ?_ | refine QT (h := ?_) | (refine Yf (h1 := ?_) (h2 := ?_) <;> intro hc <;> try (exfalso; omega)) | apply jK | refine Q4 rfl ?_
 all_goals first
  | (exfalso; omega)
  | skip
 refine Qk (A := [_, _, _]) (B := []) rfl pqq rfl rfl rfl (fun w _ _ => Q25 m.r n.c hbr hbc' w) fun w v w' _ _ _ hR => ?_
 obtain ⟨N, Eo, hN, rfl, hO⟩ := hR
 obtain ⟨Ao, co, rfl⟩ := hO.form
 refine ⟨N, hN, ?_⟩
 repeat' first | apply jS | apply jO | apply jN | apply jT | refine Q0 ?_ | refine Q3 ?_ | refine Qf fun _ => ?_ | refine Q3 ?_ | apply jB
 rename_i b8
 refine Qj (ι := Nat × SHeap) ⟨fun z => [(9, nv z.1), (2, .pointer (some ⟨b2, 0, none⟩)), (3, .pointer (some ⟨b3, 0, none⟩)), (4, .pointer (some ⟨b4, 0, none⟩)), (8, .pointer (some ⟨b8, 0, none⟩))],
  fun z => [(b8, .cells #[nv m.r, nv n.c, .slice Ao (m.r * n.c) co] 28), (b4, .cells #[iv 0, iv 0, .slice none 0 0] 28), (b3, .cells #[nv n.r, nv n.c, E'] 28), (b2, .cells #[nv m.r, nv m.c, E] 28)] ++ (z.2 ++ []),
  fun z => z.1 ≤ m.r ∧ OwnZ z.2 (.slice Ao (m.r * n.c) co) (m.r * n.c) (muE m n (List.range z.1)), fun z => m.r - z.1⟩ (0, N) ⟨by omega, by rw [show List.range 0 = [] from rfl, Q7h]; exact hO⟩ cqq Qr (fun z hz => ?_)
 clear hO
 obtain ⟨i, N⟩ := z
 obtain ⟨hi, hO⟩ := hz
 dsimp only at hi hO ⊢
 by_cases hii : i < m.r
 ·have q1 : i * m.c ≤ 40000 := Nat.mul_le_mul (show i ≤ 200 by omega) hbc
  have q2 : i * n.c ≤ 40000 := Nat.mul_le_mul (show i ≤ 200 by omega) hbc'
  repeat' first | apply jS | apply jO | apply jN | apply jT | refine Q1 ?_ | refine Q2 ?_ | refine Q0 ?_ | refine Q7 ?_ | (refine Qi (h1 := ?_) (h2 := ?_) <;> intro hc <;> try (exfalso; omega)) | apply jK | refine Q5 rfl ?_ | apply jB
  refine Qj (ι := Nat × SHeap) ⟨fun z => [(10, nv z.1), (9, nv i), (2, .pointer (some ⟨b2, 0, none⟩)), (3, .pointer (some ⟨b3, 0, none⟩)), (4, .pointer (some ⟨b4, 0, none⟩)), (8, .pointer (some ⟨b8, 0, none⟩))],
   fun z => [(b8, .cells #[nv m.r, nv n.c, .slice Ao (m.r * n.c) co] 28), (b4, .cells #[iv 0, iv 0, .slice none 0 0] 28), (b3, .cells #[nv n.r, nv n.c, E'] 28), (b2, .cells #[nv m.r, nv m.c, E] 28)] ++ (z.2 ++ []),
   fun z => z.1 ≤ m.c ∧ OwnZ z.2 (.slice Ao (m.r * n.c) co) (m.r * n.c) (muS m n (List.range i) i (List.range z.1) 0 0), fun z => m.c - z.1⟩ (0, N) ⟨by omega, by rw [show List.range 0 = [] from rfl, Q52]; exact hO⟩ cqq (HSub.refl _) (fun z hz => ?_)
  clear hO
  obtain ⟨k, N⟩ := z
  obtain ⟨hk, hO⟩ := hz
  dsimp only at hk hO ⊢
  by_cases hkk : k < m.c
  ·have hik := X8 hii hkk
   have q3 : k * n.c ≤ 40000 := Nat.mul_le_mul (show k ≤ 200 by omega) hbc'
   repeat' first | apply jS | apply jO | apply jN | apply jT | refine Q1 ?_ | refine Q2 ?_ | refine Q0 ?_ | refine Q7 ?_ | refine QV (h := ?_) | refine Yq (h := ?_) | refine QZ (h := ?_) | refine Z2 (h := ?_) | refine Q3 ?_ | (refine Qi (h1 := ?_) (h2 := ?_) <;> intro hc <;> try (exfalso; omega)) | refine Qf fun _ => ?_ | refine Q3 ?_ | apply jK | refine Q5 rfl ?_ | apply jB
   rename_i b11
   refine Qj (ι := Nat × SHeap) ⟨fun z => [(12, nv z.1), (11, .pointer (some ⟨b11, 0, none⟩)), (10, nv k), (9, nv i), (2, .pointer (some ⟨b2, 0, none⟩)), (3, .pointer (some ⟨b3, 0, none⟩)), (4, .pointer (some ⟨b4, 0, none⟩)), (8, .pointer (some ⟨b8, 0, none⟩))],
    fun z => [(b11, .cells (wc (m.at i k)) 75), (b8, .cells #[nv m.r, nv n.c, .slice Ao (m.r * n.c) co] 28), (b4, .cells #[iv 0, iv 0, .slice none 0 0] 28), (b3, .cells #[nv n.r, nv n.c, E'] 28), (b2, .cells #[nv m.r, nv m.c, E] 28)] ++ (z.2 ++ []),
    fun z => z.1 ≤ n.c ∧ (m.at i k = 0 → z.1 = 0) ∧ OwnZ z.2 (.slice Ao (m.r * n.c) co) (m.r * n.c) (muS m n (List.range i) i (List.range k) k z.1), fun z => n.c - z.1⟩ (0, N) ⟨by omega, fun _ => rfl, by rw [Qh1 m n (List.range i) i (List.range k) k 0]; exact hO⟩ cqq (HSub.refl _) (fun z hz => ?_)
   clear hO
   obtain ⟨j, N⟩ := z
   obtain ⟨hj, hjz, hO⟩ := hz
   dsimp only at hj hjz hO ⊢
   by_cases hjj : j < n.c
   ·have hkj := X8 (show k < n.r by omega) hjj
    have hij := X8 hii hjj
    repeat' first | apply jS | apply jO | apply jN | refine Q1 ?_ | refine Q2 ?_ | refine Q7 ?_ | refine Ql ?_ | refine Yg (h := ?_) | (refine Qi (h1 := ?_) (h2 := ?_) <;> intro hc <;> try (exfalso; omega)) | apply jT
    by_cases hz : m.at i k = 0
    ·rw [show decide (magU (m.at i k).natAbs ≠ []) = false from decide_eq_false (fun h => h (magU_nil.2 oq))]
     repeat' first | apply jO | apply jN | apply jT | refine Q1 ?_ | refine Q0 ?_ | refine Qe ?_ | apply jU | apply jE | refine Q4 rfl ?_ | apply jW | refine Qc ?_
     have hj0 : j = 0 := hjz hz
     subst hj0
     rw [Qh1 m n (List.range i) i (List.range k) k 0, Q7g hz, ← List.range_succ] at hO
     exact Qa (k + 1, N) ⟨by dsimp only; omega, hO⟩ dgq cqq (HSub.skip (HSub.refl _))
    ·rw [show decide (magU (m.at i k).natAbs ≠ []) = true from decide_eq_true (fun h => hz (by have := magU_nil.1 h; omega))]
     repeat' first | apply jS | apply jO | apply jN | apply jT | refine Q1 ?_ | refine Q2 ?_ | refine Q7 ?_ | refine QV (h := ?_) | refine Yq (h := ?_) | refine QZ (h := ?_) | refine Z2 (h := ?_) | refine Q3 ?_ | refine Yg (h := ?_) | refine Qf fun _ => ?_ | refine Q3 ?_ | apply jK | refine Q5 rfl ?_ | apply jB
     rename_i b13
     by_cases hz2 : n.at k j = 0
     ·rw [show decide (magU (n.e.getD (k * n.c + j) 0).natAbs ≠ []) = false from decide_eq_false (fun h => h (magU_nil.2 (by have : n.e.getD (k * n.c + j) 0 = 0 := hz2; omega)))]
      repeat' first | apply jO | apply jN | apply jT | refine Q1 ?_ | refine Q0 ?_ | refine Qe ?_ | apply jK | refine Q4 rfl ?_ | apply jW
      rw [Q7e (by rw [hz2, Int.mul_zero])] at hO
      exact Qa (j + 1, N) ⟨by dsimp only; omega, fun h => absurd h hz, hO⟩ dgq cqq (HSub.skip (HSub.refl _))
     ·rw [show decide (magU (n.e.getD (k * n.c + j) 0).natAbs ≠ []) = true from decide_eq_true (fun h => hz2 (by have := magU_nil.1 h; show n.e.getD (k * n.c + j) 0 = 0; omega))]
      repeat' first | apply jS | apply jO | apply jD | apply jN | apply jT | refine Q1 ?_ | refine Q2 ?_ | refine Q0 ?_ | refine Q7 ?_ | refine Qg ?_ | refine QV (h := ?_) | refine Yq (h := ?_) | refine QZ (h := ?_) | refine Z2 (h := ?_) | refine Q5 rfl ?_
      refine Qb pqq rfl rfl rfl (fun w _ _ => Qbx w _ _ (m.at i k) (n.at k j) (K + L) (Qq (QI (hx.at i k) oq)) (Qq (QI (hy.at k j) oq)) oq) fun w v w' _ _ _ hR => ?_
      subst hR
      skip
      have es : (muS m n (List.range i) i (List.range k) k j).getD (i * n.c + j) 0 = muF m n (List.range i) i (List.range k) k j i j := Q03 hii hjj
      refine Qb pqq rfl rfl rfl (fun w _ _ => Q5k w _ _ ((muS m n (List.range i) i (List.range k) k j).getD (i * n.c + j) 0) (m.at i k * n.at k j) (K + L + 2) (Qq (by rw [es]; exact Qf6 hbc hx hy (by simp; omega) (by simp; omega))) (Qq (QI (XF (hx.at i k) (hy.at k j)) oq)) oq) fun w v w' _ _ _ hR => ?_
      subst hR
      repeat' first | refine QV (h := ?_) | fail
      refine XO (A := [_, _, _, _, _, _]) hO rfl rfl pqq rfl rfl hij (fun N' hO' => ?_)
      rw [show (muS m n (List.range i) i (List.range k) k j).getD (i * n.c + j) 0 = enz n.c (muS m n (List.range i) i (List.range k) k j) i j from rfl, Qap hii hjj] at hO'
      repeat' first | apply jO | apply jN | apply jT | refine Q1 ?_ | refine Q0 ?_ | refine Qe ?_ | apply jW
      exact Qa (j + 1, N') ⟨by dsimp only; omega, fun h => absurd h hz, hO'⟩ dgq cqq (HSub.skip (HSub.refl _))
   ·repeat' first | apply jS | apply jO | apply jN | apply jT | refine Q1 ?_ | refine Q2 ?_ | refine Q0 ?_ | refine Q7 ?_ | refine Qe ?_ | refine Qn ?_ | (refine Qi (h1 := ?_) (h2 := ?_) <;> intro hc <;> try (exfalso; omega)) | apply jU | apply jE | refine Q4 rfl ?_ | refine Qc ?_ | refine Qy (h := ?_) | apply jW
    obtain rfl : j = n.c := by omega
    rw [Q7f, ← List.range_succ] at hO
    exact Qa (k + 1, N) ⟨by dsimp only; omega, hO⟩ dgq cqq (HSub.skip (HSub.refl _))
  ·repeat' first | apply jS | apply jO | apply jN | apply jT | refine Q1 ?_ | refine Q2 ?_ | refine Q0 ?_ | refine Q7 ?_ | refine Qe ?_ | (refine Qi (h1 := ?_) (h2 := ?_) <;> intro hc <;> try (exfalso; omega)) | apply jU | apply jE | refine Q4 rfl ?_ | apply jW | refine Qc ?_
   obtain rfl : k = m.c := by omega
   rw [Qaq, ← List.range_succ] at hO
   exact Qa (i + 1, N) ⟨by dsimp only; omega, hO⟩ dgq cqq (HSub.refl _)
 ·repeat' first | apply jS | apply jO | apply jN | apply jT | refine Q1 ?_ | refine Q2 ?_ | refine Q0 ?_ | refine Q7 ?_ | refine Qg ?_ | refine Q3 ?_ | (refine Qi (h1 := ?_) (h2 := ?_) <;> intro hc <;> try (exfalso; omega)) | refine Q3 ?_ | apply jU | apply jE | apply jR | refine Q4 rfl ?_ | refine Qc ?_
  obtain rfl : i = m.r := by omega
  rw [Qar] at hO
  exact ZD 1 rfl rfl rfl rfl (fun a w' st => ⟨st.kp, N, _, rfl, st.newOf rfl Q9, OwnM.mk' hO⟩)


set_option maxHeartbeats 2000000 in
theorem WA (n : Nat) (hn : n ≤ 200) (w : World) : Calls Tryz.prog 61 #[nv n] w (Ret fun v w' => Kp [] w w' ∧ GivesM (oneZ n) w v w') := by
 have hnn := rcZ hn hn
 refine Q8 [⟨5, 2, [], []⟩] [] spq [] Tryz.func61 rfl mixed (by kernel_rfl) Tryz.ntmps61 Tryz.results61 rfl ⟨by simp, by simp⟩ spq ?_
 simp only [toS, textOps, toSOp, kindAt, kindOf, odAt, sopsAt, ordOf, zipF]
 repeat' first | apply jS | apply jO | apply jN | refine Q1 ?_ | refine Qf fun _ => ?_ | apply jT
 rename_i b2
 refine Qk (A := [_]) (B := []) rfl trivial rfl rfl rfl (fun w _ _ => Q25 n n hn hn w) fun w v w' _ _ _ hR => ?_
 obtain ⟨N, Eo, hN, rfl, hO⟩ := hR
 obtain ⟨Ao, co, rfl⟩ := hO.form
 refine ⟨N, hN, ?_⟩
 repeat' first | apply jS | apply jO | apply jN | apply jT | refine Q0 ?_ | refine Q3 ?_ | refine Qf fun _ => ?_ | refine Q3 ?_ | apply jB
 rename_i b3
 refine Qj (ι := Nat × SHeap) ⟨fun z => [(4, nv z.1), (0, nv n), (3, .pointer (some ⟨b3, 0, none⟩)), (2, .pointer (some ⟨b2, 0, none⟩))],
  fun z => [(b3, .cells #[nv n, nv n, .slice Ao (n * n) co] 28), (b2, .cells #[iv 0, iv 0, .slice none 0 0] 28)] ++ (z.2 ++ []),
  fun z => z.1 ≤ n ∧ OwnZ z.2 (.slice Ao (n * n) co) (n * n) (oneS n z.1), fun z => n - z.1⟩ (0, N) ⟨by omega, by rw [Q4x]; exact hO⟩ cqq Qr (fun k hk => ?_)
 obtain ⟨k, N⟩ := k
 obtain ⟨hkn, hO⟩ := hk
 dsimp only at hkn hO ⊢
 have hkk : k * n ≤ 40000 := Nat.mul_le_mul (show k ≤ 200 by omega) hn
 by_cases hlt : k < n
 ·have hi := X8 hlt hlt
  repeat' first | apply jS | apply jO | apply jD | apply jN | apply jT | refine Q1 ?_ | refine Q2 ?_ | refine Q7 ?_ | refine QZ (h := ?_) | refine Z2 (h := ?_) | (refine Qi (h1 := ?_) (h2 := ?_) <;> intro hc <;> try (exfalso; omega)) | apply jK | refine Q5 rfl ?_ | apply jB
  refine Qb pqq rfl rfl rfl (fun w _ _ => YF w 1 oq oq) fun w v w' _ _ _ hR => ?_
  subst hR
  repeat' first | refine QV (h := ?_) | fail
  refine XO (A := [_, _]) hO rfl rfl ⟨rfl, rfl⟩ rfl rfl hi (fun N' hO' => ?_)
  rw [Q79 hlt] at hO'
  repeat' first | apply jO | apply jN | apply jT | refine Q1 ?_ | refine Q0 ?_ | refine Qe ?_ | apply jW
  exact Qa (k + 1, N') ⟨by dsimp only; omega, hO'⟩ dgq cqq Qr
 ·repeat' first | apply jS | apply jO | apply jN | apply jT | refine Q1 ?_ | refine Q2 ?_ | refine Q7 ?_ | refine Qg ?_ | refine Q3 ?_ | (refine Qi (h1 := ?_) (h2 := ?_) <;> intro hc <;> try (exfalso; omega)) | refine Q3 ?_ | apply jU | apply jE | apply jR | refine Q4 rfl ?_ | refine Qc ?_
  obtain rfl : k = n := by omega
  rw [Q7a] at hO
  exact QG 1 rfl rfl rfl (fun a w' st => ⟨st.kp, N, st.newOf rfl Q9, OwnM.mk' hO⟩)


set_option maxHeartbeats 4000000 in
theorem Q6a (w : World) (v u : Value) (a b : XM) (ha : IsX w v a) (hb : IsX w u b) (hl : a.E.length < 1000000000) (hl' : b.E.length < 1000000000) :
  Calls Tryz.prog 148 #[v, u] w (Ret fun v w' => Kp [] w w' ∧ IsB (RX a ∧ a = b) v) := by
 have ha0 := ha
 have hb0 := hb
 obtain ⟨E, rfl, hE⟩ := ha
 obtain ⟨E', rfl, hE'⟩ := hb
 refine Q8 [] [] spq [] Tryz.func148 rfl mixed (by kernel_rfl) Tryz.ntmps148 Tryz.results148 rfl ⟨by simp, by simp⟩ spq ?_
 simp only [toS, textOps, toSOp, kindAt, kindOf, odAt, sopsAt, ordOf, zipF]
 have hR := WX.rd (c := ⟨Tryz.prog, 50, w, [], by simp⟩) hE rfl []
 have hR' := WX.rd (c := ⟨Tryz.prog, 50, w, [], by simp⟩) hE' rfl []
 repeat' first | apply jS | apply jO | apply jN | refine Q0 ?_ | refine Qg ?_ | refine QB (h := fun _ => ?_) | apply jT
 rename_i b2 b3
 refine Qb pqq rfl eqq rfl (fun w hk _ => YO w _ a (ha0.mono hk) hl) fun w v w' _ _ _ hc0 => ?_
 obtain ⟨y1, rfl, hy1⟩ := hc0
 repeat' first | apply jS | apply jO | apply jN | refine Q0 ?_ | refine Qg ?_ | apply jT
 refine Qb pqq rfl eqq rfl (fun w hk _ => YO w _ b (hb0.mono hk) hl') fun w v w' _ _ _ hc0 => ?_
 obtain ⟨y2, rfl, hy2⟩ := hc0
 cases y1 <;> cases y2
 ·repeat' first | apply jS | apply jO | apply jN | apply jT | refine Q1 ?_ | refine Q0 ?_ | refine Ql ?_ | refine QT (h := ?_) | apply jV | refine Q5 rfl ?_ | refine Qy (h := ?_) | apply jR
  exact Qd rfl (fun a w' st => ⟨st.kp, Yr (fun h => by cases hy1.2 h.1)⟩)
 ·repeat' first | apply jS | apply jO | apply jN | apply jT | refine Q1 ?_ | refine Q0 ?_ | refine Ql ?_ | refine QT (h := ?_) | apply jV | refine Q5 rfl ?_ | refine Qy (h := ?_) | apply jR
  exact Qd rfl (fun a w' st => ⟨st.kp, Yr (fun h => by cases hy1.2 h.1)⟩)
 ·repeat' first | apply jS | apply jO | apply jN | apply jT | refine Q1 ?_ | refine Q0 ?_ | refine Ql ?_ | refine Qn ?_ | refine QT (h := ?_) | apply jV | refine Q5 rfl ?_ | refine Qy (h := ?_) | apply jR
  exact Qd rfl (fun a w' st => ⟨st.kp, Yr (fun h => by cases hy2.2 (h.2 ▸ h.1))⟩)
 ·have g1 := (hy1.1 rfl)
  have g2 := (hy2.1 rfl)
  repeat' first | apply jS | apply jO | apply jN | apply jT | refine Q1 ?_ | refine Q2 ?_ | refine Q0 ?_ | refine Q7 ?_ | refine Ql ?_ | refine Qn ?_ | refine QT (h := ?_) | (refine Yf (h1 := ?_) (h2 := ?_) <;> intro hc <;> try (exfalso; omega)) | apply jV | apply jK | apply jR | refine Q5 rfl ?_ | refine Q4 rfl ?_ | refine Qy (h := ?_) | apply jB
  all_goals first
   | exact Qd rfl (fun a w' st => ⟨st.kp, Yr fun h => by have h2 := h.2; subst h2; omega⟩)
   | skip
  have hRC : a.R = b.R ∧ a.C = b.C := ⟨by omega, by omega⟩
  have hn : a.E.length = b.E.length := by
   obtain ⟨m, hm, rfl⟩ := g1
   obtain ⟨n, hn, rfl⟩ := g2
   have e1 : m.r = n.r := by have : (m.r : Int) = n.r := hRC.1; omega
   have e2 : m.c = n.c := by have : (m.c : Int) = n.c := hRC.2; omega
   show (m.e.map wz).length = (n.e.map wz).length
   rw [List.length_map, List.length_map, hm.len, hn.len, e1, e2]
  refine Qj (ι := Nat) ⟨fun i => [(7, nv i), (2, .pointer (some ⟨b2, 0, none⟩)), (3, .pointer (some ⟨b3, 0, none⟩))], fun _ => [(b3, .cells #[iv b.R, iv b.C, E'] 28), (b2, .cells #[iv a.R, iv a.C, E] 28)],
   fun i => i ≤ a.E.length ∧ ∀ j, j < i → a.E.getD j w0x = b.E.getD j w0x, fun i => a.E.length - i⟩ 0 ⟨by omega, fun j h => by omega⟩ cqq (HSub.refl _) (fun i hi => ?_)
  obtain ⟨hin, hpr⟩ := hi
  dsimp only at hin hpr ⊢
  by_cases hlt : i < a.E.length
  ·have hlt2 : i < b.E.length := by omega
   repeat' first | apply jS | apply jO | apply jD | apply jN | apply jT | refine Q1 ?_ | refine Q2 ?_ | refine Q7 ?_ | refine Wk (h := ?_) | refine Qa4 (h := ?_) | refine X6 (h := ?_) | (refine Qi (h1 := ?_) (h2 := ?_) <;> intro hc <;> try (exfalso; omega)) | apply jK | refine Q5 rfl ?_ | apply jB
   refine Qgc rfl rfl rfl rfl ?_
   by_cases he : a.E.getD i w0x = b.E.getD i w0x
   ·rw [he]
    simp only [BEq.rfl, decide_true, Bool.and_self, Bool.not_true]
    repeat' first | apply jO | apply jN | apply jT | refine Q1 ?_ | refine Q0 ?_ | refine Qe ?_ | apply jK | refine Q4 rfl ?_ | apply jW
    refine Qa (i + 1) ⟨by omega, fun j h => ?_⟩ dgq cqq (HSub.refl _)
    rcases Nat.lt_or_ge j i with h' | h'
    ·exact hpr j h'
    ·have : j = i := by omega
     subst this; exact he
   ·have hb : (!((a.E.getD i w0x).1 == (b.E.getD i w0x).1 && decide ((a.E.getD i w0x).2 = (b.E.getD i w0x).2))) = true := by
     simp only [Bool.not_eq_true', Bool.and_eq_false_iff]
     by_cases h1 : (a.E.getD i w0x).1 = (b.E.getD i w0x).1
     ·refine .inr ?_
      simp only [decide_eq_false_iff_not]
      exact fun h2 => he (Prod.ext h1 h2)
     ·exact .inl (by simpa using h1)
    rw [hb]
    repeat' first | apply jS | apply jO | apply jN | apply jT | refine Q0 ?_ | apply jV | apply jR | refine Q5 rfl ?_ | refine Qt ?_
    exact Qd rfl (fun a w' st => ⟨st.kp, Yr (fun h => he (by rw [h.2]))⟩)
  ·repeat' first | apply jS | apply jO | apply jN | apply jT | refine Q1 ?_ | refine Q2 ?_ | refine Q0 ?_ | refine Q7 ?_ | refine X6 (h := ?_) | (refine Qi (h1 := ?_) (h2 := ?_) <;> intro hc <;> try (exfalso; omega)) | apply jU | apply jE | apply jR | refine Q4 rfl ?_ | refine Qc ?_
   exact Qd rfl (fun a' w' st => ⟨st.kp, IsB.t ⟨g1, XM.ext' oq oq (Q3z (d := w0x) hn (fun j hj => hpr j oq))⟩⟩)

set_option maxHeartbeats 4000000 in
theorem Qbp (K L : Nat) (w : World) (v u : Value) (a b : ZM) (ha : RtZ a) (hb : RtZ b) (hK : K + L ≤ 90000000) (hx : BdZ K a) (hy : BdZ L b) (hv : IsM w v a) (hu : IsM w u b) (hr : a.c = b.r) :
  Calls Tryz.prog 88 #[v, u] w (Ret fun v w' => Kp [] w w' ∧ IsB (mulZ a b = oneZ a.r) v) := by
 have hmR : RtZ (mulZ a b) := X5 ha.r hb.c
 have hoR : RtZ (oneZ a.r) := X5 ha.r ha.r
 have hv0 := hv
 have hu0 := hu
 obtain ⟨E, rfl, hE⟩ := hv
 obtain ⟨E', rfl, hE'⟩ := hu
 refine Q8 [⟨2, 1, [], []⟩] [] spq [] Tryz.func88 rfl mixed (by kernel_rfl) Tryz.ntmps88 Tryz.results88 rfl ⟨by simp, by simp⟩ spq ?_
 simp only [toS, textOps, toSOp, kindAt, kindOf, odAt, sopsAt, ordOf, zipF]
 repeat' first | apply jS | apply jO | apply jN | refine Q0 ?_ | refine Qg ?_ | refine QB (h := fun _ => ?_) | apply jT
 rename_i b2 b3
 refine Qk (A := [_, _]) (B := []) rfl pqq rfl eqq rfl (fun w hk _ => Qe1 K L w _ _ a b ha hb hr hK hx hy (hv0.mono hk) (hu0.mono hk)) fun w v w' _ _ _ hR => ?_
 obtain ⟨N, u1, rfl, hN, E1, rfl, hO⟩ := hR
 obtain ⟨A1, c1, rfl⟩ := hO.form
 refine ⟨N, hN, ?_⟩
 repeat' first | apply jS | apply jD | apply jN | refine Q1 ?_ | refine Q2 ?_ | refine Q0 ?_ | refine Q7 ?_ | refine Qg ?_ | refine Qo (h := ?_) | refine Q3 ?_ | refine Qf fun _ => ?_ | refine Q3 ?_ | apply jT
 rename_i b4
 refine Qk (A := [_, _, _]) (B := N ++ []) rfl pqq rfl eqq rfl (fun w hk _ => WA a.r ha.r w) fun w v w' _ _ _ hR => ?_
 obtain ⟨N2, hN2, E2, rfl, hO2⟩ := hR
 obtain ⟨A2, c2, rfl⟩ := hO2.form
 refine ⟨N2, hN2, ?_⟩
 skip
 refine Qb pqq rfl eqq rfl (fun w hk hs => Q6a w _ _ (mulZ a b).xm (oneZ a.r).xm (IsM.x ⟨_, rfl, hO.rd.at hk hs Q9⟩) (IsM.x ⟨_, rfl, hO2.rd.at hk hs Q9⟩) (by simp only [ZM.xm, List.length_map]; have := hmR.le; omega) (by simp only [ZM.xm, List.length_map]; have := hoR.le; omega)) fun w v w' _ _ _ hR => ?_
 obtain ⟨y, rfl, hy⟩ := hR
 repeat' first | apply jN | apply jT | refine Q0 ?_ | refine Ql ?_ | apply jR
 exact Qd rfl (fun a' w' st => ⟨st.kp, y, rfl, hy.trans ⟨fun h => Qeo h.2, fun h => ⟨hmR.rx, by rw [h]⟩⟩⟩)


theorem Q3u {n i j : Nat} (hi : i < n) (hj : j < n) : gE (oneL n) i j = idI i j := by
 unfold gE oneL idI
 simp [List.getD_eq_getElem?_getD, List.getElem?_map, List.getElem?_range, hi, hj]
theorem perm5 (N1 N2 Nd N3 N4 : SHeap) : List.Perm (N4 ++ (N3 ++ (N2 ++ (N1 ++ Nd)))) ((N1 ++ (N2 ++ (Nd ++ (N3 ++ (N4 ++ []))))) ++ []) := by
 have h : List.Perm (N4 ++ (N3 ++ (N2 ++ (N1 ++ Nd)))) (((N1 ++ (N2 ++ Nd)) ++ N3) ++ N4) :=
  List.perm_append_comm.trans ((List.perm_append_comm.trans ((List.perm_append_comm_assoc N2 N1 Nd).append_right N3)).append_right N4)
 simpa only [List.append_assoc, List.append_nil] using h
theorem Q3f {n : Nat} : tbz n n (gE (oneL n)) = (oneZ n).e := by
 refine Qm fun i j hi hj => ?_
 exact Q3u hi hj
theorem Qdh (b : Nat) : OwnZ [(b, .cells ⟨[]⟩ 75)] (.slice (some ⟨b, 0, none⟩) 0 0) 0 [] := by
 have h := OwnRow.mk' (e := 75) (sz := 2) (n := 0) (b := b) (cs := ⟨[]⟩) spq (by simp only [maxLen]; omega)
 exact h

set_option maxHeartbeats 4000000 in
theorem Qia (w : World) (v : Value) (a : ZM) (g : List (List Int)) (ha : RtZ a) (hv : IsM w v a) (hg : a.e = tbz a.r a.c (gE g)) :
  Calls Tryz.prog 26 #[v] w (Ret fun v w' => Kp [] w w' ∧ ∃ b J, v = .pointer (some ⟨b, 0, none⟩) ∧ New (jbH b J a.r a.c 0 0) w w' ∧ IsJ J a.r a.c (startS a.r a.c g)) := by
 have hv0 := hv
 have hle := ha.le
 obtain ⟨E, rfl, hE⟩ := hv
 refine Q8 [⟨4, 1, [0, 1, 2, 3, 5, 6, 4, 7, 8, 9, 10], []⟩, ⟨5, 1, [0, 1, 3, 4, 6, 7, 8, 10, 11, 2, 5, 9, 12, 13, 14, 15], []⟩] [] spq [] Tryz.func26 rfl mixed (by kernel_rfl) Tryz.ntmps26 Tryz.results26 rfl ⟨by simp, by simp⟩ spq ?_
 simp only [toS, textOps, toSOp, kindAt, kindOf, odAt, sopsAt, ordOf, zipF]
 have hR := WZ.rd (c := ⟨Tryz.prog, 33, w, [], by simp⟩) hE rfl []
 repeat' first | apply jS | apply jO | apply jN | refine Q0 ?_ | refine Qg ?_ | refine QB (h := fun _ => ?_) | apply jT
 rename_i b1
 refine Qb pqq rfl eqq rfl (fun w hk _ => YO w _ a.xm (hv0.mono hk).x (by simp only [ZM.xm, List.length_map]; omega)) fun w v w' _ _ _ hc0 => ?_
 obtain ⟨y, rfl, hy⟩ := hc0
 obtain rfl : y = true := hy.2 ha.rx
 repeat' first | apply jS | apply jO | apply jD | apply jN | apply jT | refine Q1 ?_ | refine Q2 ?_ | refine Q0 ?_ | refine Q7 ?_ | refine QT (h := ?_) | apply jK | refine Q4 rfl ?_
 refine YW rfl rfl rfl (fun b2 => ?_)
 have h1 := Qdh b2
 skip
 refine Q8h (A := []) (B := [_]) h1 hR (HSub.nil _) rfl (by exact HSub.refl _) rfl eqq rfl rfl oq (fun v' Nd hOd => ?_)
 rw [Nat.zero_add, List.nil_append] at hOd
 obtain ⟨Ad, cd, rfl⟩ := hOd.form
 repeat' first | apply jS | apply jN | refine Q3 ?_ | refine Qf fun _ => ?_ | refine ZX (h := ?_) | refine Q3 ?_ | apply jT
 rename_i b4
 refine JC.part (F' := [(4, .pointer (some ⟨b4, 0, none⟩)), (1, .pointer (some ⟨b1, 0, none⟩)), (2, .pointer none)]) (H' := (b4, .cells #[nv a.r, nv a.c, .slice Ad a.e.length cd] 28) :: (b1, .cells #[nv a.r, nv a.c, E] 28) :: Nd) cqq (HSub.at 0 rfl ?_) ?_
 ·show HSub ((b1, .cells #[nv a.r, nv a.c, E] 28) :: Nd) (Nd ++ [(b1, .cells #[nv a.r, nv a.c, E] 28)])
  exact ⟨[], by rw [List.append_nil]; exact List.perm_append_comm⟩
 repeat' first | refine Q2 ?_ | refine Q7 ?_ | refine Qg ?_ | apply jD
 refine Qk (A := [_, _]) (B := Nd) rfl pqq rfl eqq rfl (fun w _ _ => WA a.r ha.r w) fun w v w' _ _ _ hR => ?_
 obtain ⟨N1, hNN1, EN1, rfl, hON1⟩ := hR
 obtain ⟨AN1, cN1, rfl⟩ := hON1.form
 refine ⟨N1, hNN1, ?_⟩
 clear hNN1
 skip
 refine Qk (A := [_, _]) (B := N1 ++ Nd) rfl pqq rfl eqq rfl (fun w _ _ => WA a.r ha.r w) fun w v w' _ _ _ hR => ?_
 obtain ⟨N2, hNN2, EN2, rfl, hON2⟩ := hR
 obtain ⟨AN2, cN2, rfl⟩ := hON2.form
 refine ⟨N2, hNN2, ?_⟩
 clear hNN2
 skip
 refine Qk (A := [_, _]) (B := N2 ++ (N1 ++ Nd)) rfl pqq rfl eqq rfl (fun w _ _ => WA a.c ha.c w) fun w v w' _ _ _ hR => ?_
 obtain ⟨N3, hNN3, EN3, rfl, hON3⟩ := hR
 obtain ⟨AN3, cN3, rfl⟩ := hON3.form
 refine ⟨N3, hNN3, ?_⟩
 clear hNN3
 skip
 refine Qk (A := [_, _]) (B := N3 ++ (N2 ++ (N1 ++ Nd))) rfl pqq rfl eqq rfl (fun w _ _ => WA a.c ha.c w) fun w v w' _ _ _ hR => ?_
 obtain ⟨N4, hNN4, EN4, rfl, hON4⟩ := hR
 obtain ⟨AN4, cN4, rfl⟩ := hON4.form
 refine ⟨N4, hNN4, ?_⟩
 clear hNN4
 obtain ⟨J, hJ⟩ : ∃ J : JV, J = ⟨⟨AN1, cN1, N1⟩, ⟨AN2, cN2, N2⟩, ⟨Ad, cd, Nd⟩, ⟨AN3, cN3, N3⟩, ⟨AN4, cN4, N4⟩⟩ := ⟨_, rfl⟩
 have e1 : (oneZ a.r).e.length = a.r * a.r := Q3g _ _ _
 have e2 : (oneZ a.c).e.length = a.c * a.c := Q3g _ _ _
 have e3 : a.e.length = a.r * a.c := ha.len
 rw [e1] at hON1 hON2 ⊢
 rw [e2] at hON3 hON4 ⊢
 rw [e3] at hOd ⊢
 refine Zv (cs := jbC ⟨⟨AN1, cN1, N1⟩, ⟨AN2, cN2, N2⟩, ⟨Ad, cd, Nd⟩, ⟨AN3, cN3, N3⟩, ⟨AN4, cN4, N4⟩⟩ a.r a.c 0 0) rfl rfl rfl (by kernel_rfl) ?_
 refine QB rfl rfl rfl rfl (fun b9 => ?_)
 repeat' first | apply jN | apply jT | refine Q0 ?_ | apply jR
 refine Qd rfl (fun a' w' st => ⟨st.kp, b9, ⟨⟨AN1, cN1, N1⟩, ⟨AN2, cN2, N2⟩, ⟨Ad, cd, Nd⟩, ⟨AN3, cN3, N3⟩, ⟨AN4, cN4, N4⟩⟩, rfl, st.newOf rfl (HSub.at 0 rfl ?_), ⟨?_, ?_, ?_, ?_, ?_⟩⟩)
 ·exact Qh (M := [_, _]) ⟨[], perm5 N1 N2 Nd N3 N4⟩
 ·rw [← Q3f] at hON1; exact hON1
 ·rw [← Q3f] at hON2; exact hON2
 ·rw [hg] at hOd; exact hOd
 ·rw [← Q3f] at hON3; exact hON3
 ·rw [← Q3f] at hON4; exact hON4


def decF : Nat → Nat → List Nat
 | 0, _ => []
 | f + 1, x => if x = 0 then [] else decF f (x / 10) ++ [48 + x % 10]
def dec (x : Nat) : List Nat := decF x x
theorem Qbb : ∀ f g x, x ≤ f → x ≤ g → decF f x = decF g x
 | 0, 0, _, _, _ => rfl
 | 0, g + 1, x, h, _ => by rw [decF, decF, if_pos oq]
 | f + 1, 0, x, _, h => by rw [decF, decF, if_pos oq]
 | f + 1, g + 1, x, h1, h2 => by
  rw [decF, decF]
  by_cases h : x = 0
  ·rw [if_pos h, if_pos h]
  ·rw [if_neg h, if_neg h, Qbb f g (x / 10) oq oq]
theorem X2 {x : Nat} (h : 0 < x) : dec x = dec (x / 10) ++ [48 + x % 10] := by
 unfold dec
 obtain ⟨y, rfl⟩ : ∃ y, x = y + 1 := ⟨x - 1, by omega⟩
 rw [decF, if_neg oq, Qbb y ((y + 1) / 10) ((y + 1) / 10) oq (Nat.le_refl _)]
theorem Q7q : dec 0 = [] := rfl
def txt (a : Int) : List Nat := if a = 0 then [48] else (if a < 0 then [45] else []) ++ dec a.natAbs
def tx (a : Int) : List UInt8 := (txt a).map UInt8.ofNat

theorem Qba : ∀ f x, ∀ c ∈ decF f x, 48 ≤ c ∧ c ≤ 57
 | 0, _, _, h => absurd h List.not_mem_nil
 | f + 1, x, c, h => by
  rw [decF] at h
  by_cases h0 : x = 0
  ·rw [if_pos h0] at h; exact absurd h List.not_mem_nil
  ·rw [if_neg h0] at h
   rcases List.mem_append.1 h with h1 | h1
   ·exact Qba f _ c h1
   ·rw [List.mem_singleton.1 h1]; omega
theorem Qip (a : Int) : ∀ c ∈ txt a, c < 256 := fun c h => by
 unfold txt at h
 by_cases h0 : a = 0
 ·rw [if_pos h0] at h; rw [List.mem_singleton.1 h]; decide
 ·rw [if_neg h0] at h
  rcases List.mem_append.1 h with h1 | h1
  ·by_cases hn : a < 0
   ·rw [if_pos hn] at h1; rw [List.mem_singleton.1 h1]; decide
   ·rw [if_neg hn] at h1; exact absurd h1 List.not_mem_nil
  ·have := Qba _ _ c h1; omega
theorem Qka (a : Int) : bts (tx a) = txt a := Qc2 (Qip a)
theorem Qcj {l : List UInt8} {a : Int} (h : bts l = txt a) : l = tx a := Qc3 (h.trans (Qka a).symm)

theorem Q4o {c : Cx} {Q : Exit → Act → World → Prop} {m : Mode} {F : SFrame} {H : SHeap} {r : List SOp} {g : Option (Option Tmp × Bool)} {ns : Bool} {d : Tmp} {ty t e : TypeId} {x lo hi mx : Operand} {N : SHeap} {b o n l cap : Nat} {xs : List Nat} [TSl c.P t e] [TSz c.P e 1] (hd : dstOk c.n (some d) = true) (hg : guardF F g = some true)
  (hx : ev F x = some (.slice (some ⟨b, o, none⟩) n cap)) (hv : RdY c N (.slice (some ⟨b, o, none⟩) n cap) n xs) (hlo : ev F lo = some (.int .i64 l)) (hhi : ev F hi = some (.int .i64 n)) (hmx : ev F mx = some (.int .i64 n)) (hln : l < n) (hnc : n ≤ cap)
  (h : ∀ v', RdY c N v' (n - l) (xs.drop l) → JO c Q m r ((d, v') :: F) H) : JO c Q m (⟨some d, .slice t x (some lo) (some hi) (some mx), ty, g, .mov, ns⟩ :: r) F H := by
 refine Z9 (v := .slice (some ⟨b, o + l, none⟩) (n - l) (n - l)) hd hg (fun a w fr => ?_) (h _ ?_)
 ·have e1 : (0 : Int) ≤ l ∧ (l : Int) ≤ n := by omega
  have e2 : (0 : Int) ≤ n ∧ (n : Int) ≤ n := by omega
  have e3 : (0 : Int) ≤ n ∧ (n : Int) ≤ cap := by omega
  have e4 : ¬ n = l := by omega
  simp only [execOp, fr.ev hx, Option.map_some, fr.ev hlo, fr.ev hhi, fr.ev hmx, Instr.sliceAt, Sem.run_bind, run_underlying (TSl.und (P := c.P) (t := t)), Result.andThen_ok, Instr.slice, Instr.sliceBounds, Instr.sliceBound, asIntOf, Sem.run_pure, e1, e2, e3, and_self, if_true, Int.toNat_natCast, TSz.size (e := e) (n := 1), if_false, e4]
  simp [Zf]
 ·obtain ⟨hlen, A', cap', h2, h3, h4⟩ := hv
  simp only [Value.slice.injEq, true_and] at h2
  obtain ⟨rfl, rfl⟩ := h2
  refine ⟨by rw [List.map_drop, List.length_drop, hlen]; omega, _, _, rfl, Nat.le_refl _, fun h0 => ⟨⟨_, _, rfl⟩, fun w hw j u hu => ?_⟩⟩
  rw [List.map_drop, List.getElem?_drop] at hu
  have := (h4 oq).2 w hw (l + j) u hu
  simpa [vAt, Addr.add, Nat.add_assoc] using this


theorem Wx {l : List Nat} {i u : Nat} (h : i < l.length) : (l.set i u).drop i = u :: l.drop (i + 1) := by
 rw [List.drop_eq_getElem_cons (show i < (l.set i u).length by simpa using h), List.getElem_set_self, Yz]
theorem Q3d {p : Bool} {V : Nat} (h : V ≠ 0) : txt (sgn p V) = (if p = true then [45] else []) ++ dec V := by
 unfold txt
 rw [if_neg (fun e => h ((XK _ _).1 e)), Yj]
 cases p
 ·rw [if_neg (show ¬ sgn false V < 0 by simp [sgn])]; rfl
 ·rw [if_pos (show sgn true V < 0 by simp [sgn]; omega)]; rfl
theorem Qfu (L : Nat) : W32 ^ L ≤ 10 ^ (10 * L) := by
 rw [Nat.pow_mul]
 exact Nat.pow_le_pow_left dq L

set_option maxHeartbeats 8000000 in
theorem Qk2 (w : World) (p : Bool) (l : List UInt8) (hl : l.length ≤ 100000000) :
  Calls Tryz.prog 77 #[wv p l] w (Ret fun v w' => Kp [] w w' ∧ v = sv (tx (sgn p (bval (bts l))))) := by
 refine Q8 [⟨14, 0, [], [(7, .seq)]⟩] [] spq [] Tryz.func77 rfl mixed (by kernel_rfl) Tryz.ntmps77 Tryz.results77 rfl ⟨by simp, by simp⟩ spq ?_
 simp only [toS, textOps, toSOp, kindAt, kindOf, odAt, sopsAt, ordOf, zipF]
 repeat' first | apply jS | apply jO | apply jN | refine Q0 ?_ | refine Qg ?_ | refine QB (h := fun _ => ?_) | apply jT
 rename_i b1
 refine Qk (A := [_]) rfl trivial rfl rfl rfl (fun w hk hs => Q2g w p l oq) fun w v w' _ _ _ hR => ?_
 obtain ⟨N1, zs0, hN1, hO1, hz1, hval1⟩ := hR
 refine ⟨N1, hN1, ?_⟩
 have hzl1 := ZW hz1 hval1 (Nat.le_refl _)
 have he := hz1.eq_nil dq
 rw [hval1] at he
 by_cases h0 : zs0.length = 0
 ·have h1 := he.1 (List.eq_nil_of_length_eq_zero h0)
  rw [h1, Ye]
  repeat' first | apply jS | apply jO | apply jN | apply jT | refine Q1 ?_ | refine Q0 ?_ | refine QD (h := ?_) | (refine Z0 (h1 := ?_) (h2 := ?_) <;> intro hc <;> try (exfalso; omega)) | apply jV | apply jR | refine Q5 rfl ?_
  exact Qd rfl (fun a w' st => ⟨st.kp, rfl⟩)
 have hV0 : bval (bts l) ≠ 0 := fun h => h0 (by rw [he.2 h]; rfl)
 repeat' first | apply jS | apply jO | apply jN | apply jT | refine Q1 ?_ | refine Q0 ?_ | refine Z2 (i := 10) (h := ?_) | refine Q60 (h := ?_) | refine QD (h := ?_) | (refine Z0 (h1 := ?_) (h2 := ?_) <;> intro hc <;> try (exfalso; omega)) | apply jK | refine Q4 rfl ?_
 refine Yx (n := 1 + 10 * zs0.length) rfl rfl rfl rfl rfl oq oq (fun b5 => ?_)
 have hOb0 := Q8k b5 (1 + 10 * zs0.length) (by simp only [maxLen]; omega)
 have hMb : 1 + 10 * zs0.length ≤ 1000000001 := by omega
 have hV10 : val W32 zs0 < 10 ^ (1 + 10 * zs0.length - 1) := by
  rw [Nat.add_sub_cancel_left]
  exact Nat.lt_of_lt_of_le (ZN hz1.lt) (Qfu _)
 generalize 1 + 10 * zs0.length = M at hOb0 hMb hV10 ⊢
 have hM1 : 1 ≤ M := by
  refine Decidable.byContradiction fun h => ?_
  obtain rfl : M = 0 := by omega
  simp at hV10
  omega
 rw [← hval1] at hV0 ⊢
 generalize hV : val W32 zs0 = V at hV0 hV10 ⊢
 have hds : dec V ++ (tab M fun _ => 0).drop M = dec V := by rw [List.drop_eq_nil_of_le spq, List.append_nil]
 repeat' first | apply jS | apply jO | apply jN | apply jT | refine Q1 ?_ | refine Q0 ?_ | refine Zx (h := ?_) | apply jB
 refine Qj (ι := Nat × Value × SHeap × List Nat × SHeap × List Nat) ⟨fun z => [(5, nv z.1), (4, .slice (some ⟨b5, 0, none⟩) M M), (3, z.2.1), (1, .pointer (some ⟨b1, 0, none⟩))], fun z => (b1, .cells #[.bool p, sv l] 75) :: (z.2.2.2.2.1 ++ (z.2.2.1 ++ [])),
  fun z => z.1 ≤ M ∧ 1 ≤ z.1 ∧ OwnU z.2.2.1 z.2.1 z.2.2.2.1.length z.2.2.2.1 ∧ Dig W32 z.2.2.2.1 ∧ z.2.2.2.1.length ≤ 100000000 ∧ OwnY z.2.2.2.2.1 (.slice (some ⟨b5, 0, none⟩) M M) M z.2.2.2.2.2 ∧ (∀ x ∈ z.2.2.2.2.2, x < 256) ∧ val W32 z.2.2.2.1 < 10 ^ (z.1 - 1) ∧ dec (val W32 z.2.2.2.1) ++ z.2.2.2.2.2.drop z.1 = dec V, fun z => val W32 z.2.2.2.1⟩
  (M, _, N1, zs0, _, _) ⟨Nat.le_refl _, hM1, hO1, hz1, by dsimp only; omega, hOb0, fun x hx => by obtain ⟨a, _, rfl⟩ := List.mem_map.1 hx; decide, by dsimp only; rw [hV]; exact hV10, by dsimp only; rw [hV]; exact hds⟩ cqq (by exact HSub.at 1 rfl (HSub.at 0 rfl (HSub.refl _))) (fun z hz => ?_)
 clear hOb0 hO1 hz1 hds hV10
 obtain ⟨at', vz, Nz, zs, Nb, bs⟩ := z
 obtain ⟨hat, hat1, hOz, hz, hzl, hOb, hbs, hpw, hdec⟩ := hz
 dsimp only at hat hat1 hOz hz hzl hOb hbs hpw hdec ⊢
 have hlb := hOb.len
 have hez := hz.eq_nil dq
 by_cases hgo : 0 < zs.length
 ·have hvp : 0 < val W32 zs := Nat.pos_of_ne_zero fun h => by rw [hez.2 h] at hgo; exact absurd hgo spq
  have hat2 : 2 ≤ at' := by
   refine Decidable.byContradiction fun h => ?_
   obtain rfl : at' = 1 := by omega
   simp at hpw
   omega
  have hst := X2 hvp
  repeat' first | apply jS | apply jO | apply jN | apply jT | refine Q1 ?_ | refine Q0 ?_ | refine QD (h := ?_) | (refine QM (h1 := ?_) (h2 := ?_) <;> intro hc <;> try (exfalso; omega)) | apply jK | refine Q5 rfl ?_ | apply jB
  refine Qk (A := [_]) rfl trivial rfl rfl rfl (fun w hk hs => Qbj w _ _ 10 zs (hOz.rd.at hk hs Q9) hz.lt dq dq oq) fun w v w' _ _ _ hR => ?_
  obtain ⟨v1, N3, zs3, rfl, hN3, hO3, hz3, hval3⟩ := hR
  refine ⟨N3, hN3, ?_⟩
  have hr10 : val W32 zs % 10 < 10 := Nat.mod_lt _ dq
  generalize hr : val W32 zs % 10 = rr at hr10 hst ⊢
  repeat' first | apply jS | apply jO | apply jN | refine Q1 ?_ | refine Q0 ?_ | refine ZF (h := ?_) | refine Qo (h := ?_) | apply jT
  refine Q0e (i := 48) (j := rr) rfl rfl rfl rfl oq ?_
  repeat' first | refine Wj (h := ?_) | refine Q4r (h := ?_) | fail
  have hu : (48 + rr) % 256 = 48 + rr := Nat.mod_eq_of_lt oq
  rw [hu]
  refine Qj7 (A := _ :: N3) hOb rfl rfl trivial rfl rfl oq (fun Nb' hOb' => ?_)
  repeat' first | apply jN | apply jW
  refine Qa (at' - 1, v1, N3, zs3, Nb', bs.set (at' - 1) (48 + rr)) ⟨by dsimp only; omega, by dsimp only; omega, hO3, hz3, ?_, hOb', ZK hbs oq, ?_, ?_⟩ (by dsimp only; rw [hval3]; omega) cqq ?_
  ·dsimp only
   have h1 := hz3.len_le dq (k := zs.length) (by
    rw [hval3]
    exact Nat.lt_of_le_of_lt (Nat.div_le_self _ _) (ZN hz.lt))
   omega
  ·dsimp only
   rw [hval3, show at' - 1 - 1 = at' - 2 by omega]
   rw [show at' - 1 = at' - 2 + 1 by omega, Nat.pow_succ] at hpw
   omega
  ·dsimp only
   rw [hval3, Wx oq, show at' - 1 + 1 = at' by omega, ← hdec, hst, List.append_assoc]
   rfl
  ·exact HSub.at 0 rfl (by
    show HSub (Nb' ++ (N3 ++ [])) (N3 ++ (Nb' ++ _))
    exact ⟨Nz ++ [], by
     simp only [List.append_nil]
     rw [← List.append_assoc N3]
     exact List.Perm.append_right Nz List.perm_append_comm⟩)
 ·have hv0 : val W32 zs = 0 := hez.1 (List.eq_nil_of_length_eq_zero oq)
  rw [hv0, Q7q, List.nil_append] at hdec
  have hne : dec V ≠ [] := by rw [X2 (Nat.pos_of_ne_zero hV0)]; simp
  have hatM : at' < M := by
   refine Decidable.byContradiction fun h => hne ?_
   rw [← hdec]
   exact List.drop_eq_nil_of_le oq
  cases p with
  | true =>
   repeat' first | apply jS | apply jO | apply jN | apply jT | refine Q1 ?_ | refine Q2 ?_ | refine Q0 ?_ | refine Q7 ?_ | refine ZF (h := ?_) | refine Q4r (h := ?_) | refine QD (h := ?_) | (refine QM (h1 := ?_) (h2 := ?_) <;> intro hc <;> try (exfalso; omega)) | apply jU | apply jE | refine Q5 rfl ?_ | refine Q4 rfl ?_ | refine Qc ?_
   refine Qj7 (A := [_]) hOb rfl rfl trivial rfl rfl oq (fun Nb' hOb' => ?_)
   repeat' first | apply jS | apply jO | apply jN | refine Q1 ?_ | refine Zx (h := ?_) | apply jT
   refine Q4o (l := at' - 1) rfl rfl rfl hOb'.rd rfl rfl rfl oq (Nat.le_refl _) (fun v9 hR9 => ?_)
   refine WP (fun u hu => ZK hbs dq u (List.mem_of_mem_drop hu)) hR9 Q9 trivial rfl rfl rfl (fun l9 hl9 => ?_)
   repeat' first | apply jN | apply jT | refine Q0 ?_ | apply jR
   have hfin : l9 = tx (sgn true V) := Qcj (by rw [hl9, Wx oq, show at' - 1 + 1 = at' by omega, hdec, Q3d hV0]; rfl)
   exact Qd rfl (fun a w' st => ⟨st.kp, by rw [hfin]⟩)
  | false =>
   repeat' first | apply jS | apply jO | apply jN | apply jT | refine Q1 ?_ | refine Q2 ?_ | refine Q7 ?_ | refine Zx (h := ?_) | refine QD (h := ?_) | (refine QM (h1 := ?_) (h2 := ?_) <;> intro hc <;> try (exfalso; omega)) | apply jU | apply jK | apply jE | refine Q4 rfl ?_ | refine Qc ?_
   refine Q4o (l := at') rfl rfl rfl hOb.rd rfl rfl rfl oq (Nat.le_refl _) (fun v9 hR9 => ?_)
   refine WP (fun u hu => hbs u (List.mem_of_mem_drop hu)) hR9 Q9 trivial rfl rfl rfl (fun l9 hl9 => ?_)
   repeat' first | apply jN | apply jT | refine Q0 ?_ | apply jR
   have hfin : l9 = tx (sgn false V) := Qcj (by rw [hl9, hdec, Q3d hV0]; rfl)
   exact Qd rfl (fun a w' st => ⟨st.kp, by rw [hfin]⟩)


theorem Q09 (a b : List UInt8) : bts (a ++ b) = bts a ++ bts b := List.map_append ..
theorem Qhn : Dig B16 [10] := ⟨fun x hx => by rw [List.mem_singleton.1 hx]; decide, rfl⟩
theorem Qfo : val B16 [10] = 10 := rfl
theorem Qch {rs : List Nat} (h : val B16 rs < 10) (h0 : 0 < rs.length) : rs.getD 0 0 = val B16 rs := by
 have e := QP (b := B16) (l := rs) (k := 0) h0
 rw [List.drop_zero] at e
 change val B16 rs = rs.getD 0 0 + 65536 * _ at e
 omega

set_option maxHeartbeats 8000000 in
theorem Qi5 (w : World) (p : Bool) (l : List UInt8) (hl : l.length ≤ 100000000) :
  Calls Tryz.prog 79 #[wv p l] w (Ret fun v w' => Kp [] w w' ∧ v = sv (tx (sgn p (bval (bts l))))) := by
 refine Q8 [⟨10, 0, [], [(4, .seq)]⟩] [] spq [] Tryz.func79 rfl mixed (by kernel_rfl) Tryz.ntmps79 Tryz.results79 rfl ⟨by simp, by simp⟩ spq ?_
 simp only [toS, textOps, toSOp, kindAt, kindOf, odAt, sopsAt, ordOf, zipF]
 repeat' first | apply jS | apply jO | apply jN | refine Q0 ?_ | refine Qg ?_ | refine QB (h := fun _ => ?_) | apply jT
 rename_i b1
 refine Qk (A := [_]) rfl trivial rfl rfl rfl (fun w hk hs => Y2 w p l oq) fun w v w' _ _ _ hR => ?_
 obtain ⟨N1, zs0, hN1, hO1, hz1, hval1⟩ := hR
 refine ⟨N1, hN1, ?_⟩
 have hzl1 := Zq hz1 hval1 (Nat.le_refl _)
 have he := hz1.eq_nil dq
 rw [hval1] at he
 by_cases h0 : zs0.length = 0
 ·have h1 := he.1 (List.eq_nil_of_length_eq_zero h0)
  rw [h1, Ye]
  repeat' first | apply jS | apply jO | apply jN | apply jT | refine Q1 ?_ | refine Q0 ?_ | refine QR (h := ?_) | (refine Z0 (h1 := ?_) (h2 := ?_) <;> intro hc <;> try (exfalso; omega)) | apply jV | apply jR | refine Q5 rfl ?_
  exact Qd rfl (fun a w' st => ⟨st.kp, rfl⟩)
 have hV0 : bval (bts l) ≠ 0 := fun h => h0 (by rw [he.2 h]; rfl)
 rw [← hval1] at hV0 ⊢
 generalize hV : val B16 zs0 = V at hV0 ⊢
 repeat' first | apply jS | apply jO | apply jN | apply jT | refine Q1 ?_ | refine Q0 ?_ | refine QR (h := ?_) | (refine Z0 (h1 := ?_) (h2 := ?_) <;> intro hc <;> try (exfalso; omega)) | apply jK | refine Q4 rfl ?_ | apply jB
 refine Qj (ι := Value × SHeap × List Nat × List UInt8 × Nat) ⟨fun z => [(4, sv z.2.2.2.1), (3, z.1), (1, .pointer (some ⟨b1, 0, none⟩))], fun z => (b1, .cells #[.bool p, sv l] 75) :: (z.2.1 ++ []),
  fun z => OwnN z.2.1 z.1 z.2.2.1.length z.2.2.1 ∧ Dig B16 z.2.2.1 ∧ z.2.2.1.length ≤ 100000000 ∧ val B16 z.2.2.1 < 10 ^ z.2.2.2.2 ∧ dec (val B16 z.2.2.1) ++ bts z.2.2.2.1 = dec V ∧ z.2.2.2.1.length + z.2.2.2.2 ≤ 500000000, fun z => val B16 z.2.2.1⟩
  (_, N1, zs0, [], 5 * zs0.length) ⟨hO1, hz1, by dsimp only; omega, Nat.lt_of_lt_of_le (ZN hz1.lt) (by rw [Nat.pow_mul]; exact Nat.pow_le_pow_left dq _), by dsimp only; rw [hV]; exact List.append_nil _, by dsimp only; simp; omega⟩ cqq Qv (fun z hz => ?_)
 clear hO1 hz1
 obtain ⟨vz, Nz, zs, s, dd⟩ := z
 obtain ⟨hOz, hz, hzl, hle, hdec, hsl⟩ := hz
 dsimp only at hOz hz hzl hle hdec hsl ⊢
 have hez := hz.eq_nil dq
 by_cases hgo : 0 < zs.length
 ·have hvp : 0 < val B16 zs := Nat.pos_of_ne_zero fun h => by rw [hez.2 h] at hgo; exact absurd hgo spq
  have hst := X2 hvp
  have hdd : 1 ≤ dd := by
   refine Decidable.byContradiction fun h => ?_
   obtain rfl : dd = 0 := by omega
   simp at hle
   omega
  repeat' first | apply jS | apply jO | apply jN | apply jT | refine Q1 ?_ | refine QR (h := ?_) | (refine QM (h1 := ?_) (h2 := ?_) <;> intro hc <;> try (exfalso; omega)) | refine Qw (h := fun _ => ?_) | apply jK | refine Q5 rfl ?_ | apply jB
  rename_i b10
  have hL : OwnN [(b10, .cells ⟨[nv 10]⟩ 3)] (.slice (some ⟨b10, 0, none⟩) 1 1) 1 [10] := Zw b10 1 [10] _ rfl rfl dq
  refine Qk (A := [_, _]) rfl trivial rfl rfl rfl (fun w hk hs => Qbm w _ _ _ _ zs [10] (hOz.rd.at hk hs Q9) (hL.rd.at hk hs Q9) hz.lt Qhn dq oq dq) fun w v w' _ _ _ hR => ?_
  obtain ⟨N3, N4, v3, v4, zs3, zs4, rfl, hN34, hO3, hO4, hz3, hz4, hval3, hlt4⟩ := hR
  refine ⟨_, hN34, ?_⟩
  rw [List.append_assoc N3 N4]
  rw [Qfo] at hval3 hlt4
  have hq3 : val B16 zs3 = val B16 zs / 10 := by omega
  have hr4 : val B16 zs4 = val B16 zs % 10 := by omega
  rw [← hr4, ← hq3] at hst
  have h34 := hz3.len_le dq (k := zs.length) (by
   rw [hq3]
   exact Nat.lt_of_le_of_lt (Nat.div_le_self _ _) (ZN hz.lt))
  by_cases h4 : 0 < zs4.length
  ·have hd4 := Qch hlt4 h4
   have hdl : zs4.getD 0 0 < 10 := by rw [hd4]; exact hlt4
   repeat' first | apply jS | apply jO | apply jN | apply jT | refine Q1 ?_ | refine Q0 ?_ | refine Zl (h := ?_) | refine YJ (h := ?_) | refine QR (h := ?_) | refine Qo (h := ?_) | (refine QM (h1 := ?_) (h2 := ?_) <;> intro hc <;> try (exfalso; omega)) | refine Q5 rfl ?_
   refine QZ (i := 48) (j := zs4.getD 0 0) rfl rfl rfl rfl oq ?_
   repeat' first | refine Wj (h := ?_) | refine Qw (h := fun _ => ?_) | fail
   rename_i c2
   have h256 : (48 + (zs4.getD 0 0)) % 256 = 48 + val B16 zs4 := by omega
   refine WP (xs := [(48 + (zs4.getD 0 0)) % 256]) (fun u hu => by rw [List.mem_singleton.1 hu]; omega) (Yy c2 1 [(48 + (zs4.getD 0 0)) % 256] _ rfl rfl dq).rd Q9 trivial rfl rfl rfl (fun l1 hl1 => ?_)
   have hll : l1.length = 1 := by rw [← XY, hl1]; rfl
   repeat' first | apply jO | apply jN | apply jT | refine Q1 ?_ | refine Q0 ?_ | refine Q4u (h := ?_) | apply jW
   refine Qa (v3, N3, zs3, l1 ++ s, dd - 1) ⟨hO3, hz3, by dsimp only; omega, ?_, ?_, by dsimp only; simp only [List.length_append]; omega⟩ dgq cqq Qv
   ·dsimp only
    rw [show dd = dd - 1 + 1 by omega, Nat.pow_succ] at hle
    omega
   ·dsimp only
    rw [Q09, hl1, h256, ← hdec, hst, List.append_assoc]
  ·have hv4 : val B16 zs4 = 0 := by rw [List.eq_nil_of_length_eq_zero (show zs4.length = 0 by omega)]; rfl
   repeat' first | apply jS | apply jO | apply jN | apply jT | refine Q1 ?_ | refine Q0 ?_ | refine QR (h := ?_) | refine Q60 (h := ?_) | refine Qo (h := ?_) | refine Wj (h := ?_) | (refine QM (h1 := ?_) (h2 := ?_) <;> intro hc <;> try (exfalso; omega)) | refine Qw (h := fun _ => ?_) | apply jK | refine Q4 rfl ?_
   rename_i c2
   have h256 : (48 + 0) % 256 = 48 + val B16 zs4 := by omega
   refine WP (xs := [(48 + 0) % 256]) (fun u hu => by rw [List.mem_singleton.1 hu]; omega) (Yy c2 1 [(48 + 0) % 256] _ rfl rfl dq).rd Q9 trivial rfl rfl rfl (fun l1 hl1 => ?_)
   have hll : l1.length = 1 := by rw [← XY, hl1]; rfl
   repeat' first | apply jO | apply jN | apply jT | refine Q1 ?_ | refine Q0 ?_ | refine Q4u (h := ?_) | apply jW
   refine Qa (v3, N3, zs3, l1 ++ s, dd - 1) ⟨hO3, hz3, by dsimp only; omega, ?_, ?_, by dsimp only; simp only [List.length_append]; omega⟩ dgq cqq Qv
   ·dsimp only
    rw [show dd = dd - 1 + 1 by omega, Nat.pow_succ] at hle
    omega
   ·dsimp only
    rw [Q09, hl1, h256, ← hdec, hst, List.append_assoc]
 ·have hv0 : val B16 zs = 0 := hez.1 (List.eq_nil_of_length_eq_zero oq)
  rw [hv0, Q7q, List.nil_append] at hdec
  cases p with
  | true =>
   repeat' first | apply jS | apply jO | apply jN | apply jT | refine Q1 ?_ | refine Q2 ?_ | refine Q7 ?_ | refine QR (h := ?_) | (refine QM (h1 := ?_) (h2 := ?_) <;> intro hc <;> try (exfalso; omega)) | apply jU | apply jE | refine Q5 rfl ?_ | refine Q4 rfl ?_ | refine Qc ?_
   refine Q4u (l := [45]) rfl rfl rfl rfl (by simp; omega) ?_
   repeat' first | apply jN | apply jT | refine Q0 ?_ | apply jV | apply jR
   have hfin : [45] ++ s = tx (sgn true V) := Qcj (by rw [Q09, hdec, Q3d hV0]; rfl)
   exact Qd rfl (fun a w' st => ⟨st.kp, by rw [hfin]⟩)
  | false =>
   repeat' first | apply jS | apply jO | apply jN | apply jT | refine Q1 ?_ | refine Q2 ?_ | refine Q0 ?_ | refine Q7 ?_ | refine QR (h := ?_) | (refine QM (h1 := ?_) (h2 := ?_) <;> intro hc <;> try (exfalso; omega)) | apply jU | apply jK | apply jE | apply jR | refine Q4 rfl ?_ | refine Qc ?_
   have hfin : s = tx (sgn false V) := Qcj (by rw [hdec, Q3d hV0]; rfl)
   exact Qd rfl (fun a w' st => ⟨st.kp, by rw [hfin]⟩)


def encZ (m n t s : Int) (S : Sm) : List Int := [m, n, t, s] ++ (S.u.flatten ++ (S.ui.flatten ++ (S.d.flatten ++ (S.v.flatten ++ S.vi.flatten))))
def catT : List Int → List UInt8
 | [] => []
 | x :: l => 32 :: (tx x ++ catT l)
def encT : List Int → List UInt8
 | [] => []
 | x :: l => tx x ++ catT l
theorem Q23 : ∀ (l l' : List Int), catT (l ++ l') = catT l ++ catT l'
 | [], _ => rfl
 | x :: l, l' => by
  show 32 :: (tx x ++ catT (l ++ l')) = 32 :: (tx x ++ catT l) ++ catT l'
  rw [Q23 l l', List.cons_append, List.append_assoc]
theorem Qb3 {l : List Int} {x : Int} (h : 0 < l.length) : encT (l ++ [x]) = encT l ++ (32 :: tx x) := by
 cases l with
 | nil => exact absurd h spq
 | cons y l =>
  show tx y ++ catT (l ++ [x]) = tx y ++ catT l ++ _
  rw [Q23, List.append_assoc]
  show tx y ++ (catT l ++ (32 :: (tx x ++ []))) = _
  rw [List.append_nil]
theorem Q7p : ∀ k V, V < 10 ^ k → (dec V).length ≤ k
 | 0, V, h => by
  obtain rfl : V = 0 := by simpa using h
  exact Nat.le_refl _
 | k + 1, V, h => by
  by_cases h0 : V = 0
  ·subst h0; exact Nat.zero_le _
  ·rw [X2 (Nat.pos_of_ne_zero h0), List.length_append, List.length_singleton]
   have := Q7p k (V / 10) (by rw [Nat.pow_succ] at h; omega)
   omega
theorem Q6n {a : Int} {K : Nat} (h : a.natAbs < 256 ^ K) : (tx a).length ≤ 3 * K + 1 := by
 have h1 : a.natAbs < 10 ^ (3 * K) := Nat.lt_of_lt_of_le h (by rw [Nat.pow_mul]; exact Nat.pow_le_pow_left dq K)
 have h2 := Q7p _ _ h1
 unfold tx txt
 rw [List.length_map]
 by_cases h0 : a = 0
 ·rw [if_pos h0]; simp
 ·rw [if_neg h0, List.length_append]
  by_cases hn : a < 0
  ·rw [if_pos hn, List.length_singleton]; omega
  ·rw [if_neg hn, List.length_nil]; omega
theorem Q7r {K : Nat} : ∀ l : List Int, (∀ x ∈ l, x.natAbs < 256 ^ K) → (catT l).length ≤ l.length * (3 * K + 2)
 | [], _ => by simp [catT]
 | x :: l, h => by
  have h1 := Q6n (h x spq)
  have h2 := Q7r l fun y hy => h y (by simp [hy])
  show (32 :: (tx x ++ catT l)).length ≤ _
  rw [List.length_cons, List.length_append, List.length_cons, Nat.succ_mul]
  omega
theorem Q43 {K : Nat} (l : List Int) (h : ∀ x ∈ l, x.natAbs < 256 ^ K) : (encT l).length ≤ l.length * (3 * K + 2) := by
 cases l with
 | nil => exact Nat.zero_le _
 | cons x l =>
  have h1 := Q6n (h x spq)
  have h2 := Q7r l fun y hy => h y (by simp [hy])
  show (tx x ++ catT l).length ≤ _
  rw [List.length_append, List.length_cons, Nat.succ_mul]
  omega
theorem Yu {r c : Nat} {g : List (List Int)} (h : Rec r c g) : tbz r c (gE g) = g.flatten := by
 have hl := QK h
 have key : ∀ (g : List (List Int)) (r : Nat), Rec r c g → ∀ i j, i < r → j < c → enz c g.flatten i j = gE g i j := by
  intro g
  induction g with
  | nil => intro r h i j hi _; have := h.len; simp at this; omega
  | cons x g ih =>
   intro r h i j hi hj
   have hx : x.length = c := h.row x spq
   have hr := h.len
   rw [List.length_cons] at hr
   have h' : Rec (r - 1) c g := ⟨by omega, fun y hy => h.row y (by simp [hy])⟩
   unfold enz gE
   rw [List.flatten_cons]
   cases i with
   | zero =>
    rw [Nat.zero_mul, Nat.zero_add, List.getD_cons_zero]
    simp only [List.getD]
    rw [List.getElem?_append_left oq]
   | succ i =>
    have := ih (r - 1) h' i j oq hj
    unfold enz gE at this
    rw [List.getD_cons_succ, ← this]
    simp only [List.getD]
    rw [List.getElem?_append_right (by rw [Nat.succ_mul]; omega), show (i + 1) * c + j - x.length = i * c + j by rw [Nat.succ_mul]; omega]
 rw [← Qeq hl]
 exact Qm fun i j hi hj => (key g r h i j hi hj).symm
theorem Q11 {m n : Nat} {S : Sm} (h : Dm m n S) (t s : Int) : (encZ m n t s S).length = 4 + (m * m + (m * m + (m * n + (n * n + n * n)))) := by
 unfold encZ
 simp only [List.length_append, QK h.u, QK h.ui, QK h.d, QK h.v, QK h.vi]
 rfl
theorem WW {K : Nat} {g : List (List Int)} (h : okG K g = true) {x : Int} (hx : x ∈ g.flatten) : x.natAbs < 256 ^ K := by
 obtain ⟨l, hl, hx⟩ := List.mem_flatten.1 hx
 exact of_decide_eq_true (List.all_eq_true.1 (List.all_eq_true.1 h _ hl) _ hx)
theorem Q42 {K : Nat} {m n t s : Int} {S : Sm} (hK : 8 ≤ K) (hm : m.natAbs < 256 ^ 8) (hn : n.natAbs < 256 ^ 8) (ht : t.natAbs < 256 ^ 8) (hs : s.natAbs < 256 ^ 8) (h : Ok K S) : ∀ x ∈ encZ m n t s S, x.natAbs < 256 ^ K := by
 have up : ∀ {x : Int}, x.natAbs < 256 ^ 8 → x.natAbs < 256 ^ K := fun h => QI h hK
 intro x hx
 unfold encZ at hx
 rcases List.mem_append.1 hx with h1 | h1
 ·simp only [List.mem_cons, List.not_mem_nil, or_false] at h1
  rcases h1 with rfl | rfl | rfl | rfl
  ·exact up hm
  ·exact up hn
  ·exact up ht
  ·exact up hs
 ·rcases List.mem_append.1 h1 with h1 | h1
  ·exact WW h.u h1
  ·rcases List.mem_append.1 h1 with h1 | h1
   ·exact WW h.ui h1
   ·rcases List.mem_append.1 h1 with h1 | h1
    ·exact WW h.d h1
    ·rcases List.mem_append.1 h1 with h1 | h1
     ·exact WW h.v h1
     ·exact WW h.vi h1


theorem Q7y (w : World) (v : Value) (a : Int) (k : Nat) (hv : IsZ v a k) (hk : k ≤ 100000000) :
  Calls Tryz.prog 79 #[v] w (Ret fun v w' => Kp [] w w' ∧ v = sv (tx a)) := by
 obtain ⟨p, l, rfl, hl1, rfl⟩ := hv
 exact Qi5 w p l oq
def hdC (a b c d : Int) : Array Value := #[.bool (decide (a < 0)), sv (magU a.natAbs), .bool (decide (b < 0)), sv (magU b.natAbs), .bool (decide (c < 0)), sv (magU c.natAbs), .bool (decide (d < 0)), sv (magU d.natAbs)]
theorem Qhf (x a b c d : Int) (p : Nat) : OwnZ [(p, .cells (hdC a b c d) 75)] (.slice (some ⟨p, 0, none⟩) 4 4) 4 [a, b, c, d] := by
 have h := OwnRow.mk' (e := 75) (sz := 2) (n := 4) (b := p) (cs := hdC a b c d) (by rfl) (by simp only [maxLen]; omega)
 exact h
def matC (J : JV) (m n : Nat) : Array Value := #[nv m, nv m, .slice J.u.A (m * m) J.u.c, nv m, nv m, .slice J.ui.A (m * m) J.ui.c, nv m, nv n, .slice J.d.A (m * n) J.d.c, nv n, nv n, .slice J.v.A (n * n) J.v.c, nv n, nv n, .slice J.vi.A (n * n) J.vi.c]
def encP (S : Sm) : List (List Int) := [S.u.flatten, S.ui.flatten, S.d.flatten, S.v.flatten, S.vi.flatten]
def encL (m n k : Nat) : Nat := 4 + ([m * m, m * m, m * n, n * n, n * n].take k).sum
def encA (m n t s : Int) (S : Sm) (k : Nat) : List Int := [m, n, t, s] ++ ((encP S).take k).flatten
theorem Q12 (m n t s : Int) (S : Sm) : encA m n t s S 5 = encZ m n t s S := by
 unfold encA encZ encP
 simp
theorem Wu (m n t s : Int) (S : Sm) (k : Nat) (hk : k < 5) : encA m n t s S k ++ (encP S).getD k [] = encA m n t s S (k + 1) := by
 have hl : k < (encP S).length := hk
 unfold encA
 rw [Q57 hl, List.append_assoc]
theorem Q67 {l : List Int} {k : Nat} (hk : k < l.length) : l.take (k + 1) = l.take k ++ [l.getD k 0] := by
 rw [List.take_add_one, List.getD, List.getElem?_eq_getElem hk]
 rfl

set_option maxHeartbeats 8000000 in
theorem Q36 (K : Nat) (w : World) (b : Nat) (J : JV) (m n : Nat) (t s : Int) (S : Sm) (hJ : IsJ J m n S) (hD : Dm m n S) (hs : Hsat (jbH b J m n t s) w) (hm : m ≤ 200) (hn : n ≤ 200) (ht : t.natAbs < 1099511627776) (hs0 : s.natAbs < 1099511627776)
  (hK : 8 ≤ K) (hK2 : K ≤ 90000000) (hb : Ok K S) :
  Calls Tryz.prog 32 #[.pointer (some ⟨b, 0, none⟩)] w (Ret fun v w' => Kp [] w w' ∧ v = sv (encT (encZ m n t s S))) := by
 have hM := QC hs
 have e8 : (256 : Nat) ^ 8 = 18446744073709551616 := by decide
 have hel := Q11 hD t s
 have hbd := Q42 (m := m) (n := n) (t := t) (s := s) (K := K) hK (by rw [e8]; omega) (by rw [e8]; omega) (by rw [e8]; omega) (by rw [e8]; omega) hb
 have hmm : m * m ≤ 40000 := Nat.mul_le_mul hm hm
 have hmn : m * n ≤ 40000 := Nat.mul_le_mul hm hn
 have hnn : n * n ≤ 40000 := Nat.mul_le_mul hn hn
 have hlu : encL m n 0 + m * m = encL m n 1 := by unfold encL; simp; try omega
 have hlui : encL m n 1 + m * m = encL m n 2 := by unfold encL; simp; try omega
 have hld : encL m n 2 + m * n = encL m n 3 := by unfold encL; simp; try omega
 have hlv : encL m n 3 + n * n = encL m n 4 := by unfold encL; simp; try omega
 have hlvi : encL m n 4 + n * n = encL m n 5 := by unfold encL; simp; try omega
 have hl0 : encL m n 0 = 4 := rfl
 have hJu := hJ.u
 have hJui := hJ.ui
 have hJd := hJ.d
 have hJv := hJ.v
 have hJvi := hJ.vi
 rw [Yu hD.u] at hJu
 rw [Yu hD.ui] at hJui
 rw [Yu hD.d] at hJd
 rw [Yu hD.v] at hJv
 rw [Yu hD.vi] at hJvi
 have hres : ∀ w', Kp (keys (jbH b J m n t s)) w w' → (∀ p ∈ jbH b J m n t s, w'.heap[p.1]? = some p.2) → Kp [] w w' := fun w' h1 h2 => Z1 hs h1 h2
 refine Q8 [⟨1, 1, [0, 1, 2, 3, 4, 6, 7, 8, 9, 10, 12, 13, 14, 15, 17, 18, 19, 20, 5, 11, 16, 21, 22, 23], []⟩, ⟨2, 2, [], []⟩] (keys (jbH b J m n t s)) hM (jbH b J m n t s) Tryz.func32 rfl mixed (by kernel_rfl) Tryz.ntmps32 Tryz.results32 rfl hs (fun p hp => List.mem_map.2 ⟨p, hp, rfl⟩) ?_
 simp only [toS, textOps, toSOp, kindAt, kindOf, odAt, sopsAt, ordOf, zipF]
 unfold jbH jbC
 repeat' first | apply jS | apply jO | apply jD | apply jN | refine Q1 ?_ | refine Q2 ?_ | refine Q0 ?_ | refine Q7 ?_ | refine Q6 ?_ | apply jT
 refine Qb pqq rfl eqq rfl (fun w _ _ => YF w (m : Int) oq oq) fun w v w' _ _ _ hR => ?_
 subst hR
 skip
 refine Qb pqq rfl eqq rfl (fun w _ _ => YF w (n : Int) oq oq) fun w v w' _ _ _ hR => ?_
 subst hR
 skip
 refine Qb pqq rfl eqq rfl (fun w _ _ => YF w t oq oq) fun w v w' _ _ _ hR => ?_
 subst hR
 skip
 refine Qb pqq rfl eqq rfl (fun w _ _ => YF w s oq oq) fun w v w' _ _ _ hR => ?_
 subst hR
 skip
 refine Zm (l := [(0, Wv (m : Int)), (1, Wv (n : Int)), (2, Wv t), (3, Wv s)]) (cs := hdC m n t s) rfl rfl rfl rfl dq dq (by kernel_rfl) (fun b30 => ?_)
 have hO := Qhf 0 (m : Int) n t s b30
 repeat' first | apply jS | apply jD | apply jN | refine Q1 ?_ | refine Q2 ?_ | refine Q0 ?_ | refine Q6 ?_ | apply jT
 refine Qz 1 rfl rfl rfl rfl rfl rfl rfl rfl ?_
 repeat' first | refine Q1 ?_ | refine Q2 ?_ | refine Q6 ?_ | fail
 refine Qz 1 rfl rfl rfl rfl rfl rfl rfl rfl ?_
 repeat' first | refine Q1 ?_ | refine Q2 ?_ | refine Q6 ?_ | fail
 refine Qz 1 rfl rfl rfl rfl rfl rfl rfl rfl ?_
 repeat' first | refine Q1 ?_ | refine Q2 ?_ | refine Q6 ?_ | fail
 refine Qz 1 rfl rfl rfl rfl rfl rfl rfl rfl ?_
 repeat' first | refine Q1 ?_ | refine Q2 ?_ | refine Q6 ?_ | fail
 refine Qz 1 rfl rfl rfl rfl rfl rfl rfl rfl ?_
 skip
 refine Zm (l := [(0, .agg #[nv m, nv m, .slice J.u.A (m * m) J.u.c]), (1, .agg #[nv m, nv m, .slice J.ui.A (m * m) J.ui.c]), (2, .agg #[nv m, nv n, .slice J.d.A (m * n) J.d.c]), (3, .agg #[nv n, nv n, .slice J.v.A (n * n) J.v.c]), (4, .agg #[nv n, nv n, .slice J.vi.A (n * n) J.vi.c])]) (cs := matC J m n) rfl rfl rfl rfl dq dq (by kernel_rfl) (fun b51 => ?_)
 repeat' first | apply jS | apply jO | apply jN | apply jT | refine Q0 ?_ | apply jB
 refine Qj (ι := Nat × SHeap × Value) ⟨fun z => [(5, nv z.1), (4, .slice (some ⟨b51, 0, none⟩) 5 5), (3, z.2.2), (0, .pointer (some ⟨b, 0, none⟩))], fun z => (b51, .cells (matC J m n) 28) :: (z.2.1 ++ jbH b J m n t s),
  fun z => z.1 ≤ 5 ∧ OwnZ z.2.1 z.2.2 (encL m n z.1) (encA m n t s S z.1), fun z => 5 - z.1⟩ (0, [(b30, .cells (hdC m n t s) 75)], .slice (some ⟨b30, 0, none⟩) 4 4) ⟨by omega, hO⟩ cqq (HSub.refl _) (fun z hz => ?_)
 clear hO
 obtain ⟨k, N, v3⟩ := z
 obtain ⟨hk, hO⟩ := hz
 dsimp only at hk hO ⊢
 by_cases hlt : k < 5
 ·have hst := Wu m n t s S k hlt
  have h5 : k = 0 ∨ k = 1 ∨ k = 2 ∨ k = 3 ∨ k = 4 := by omega
  rcases h5 with rfl | rfl | rfl | rfl | rfl
  ·repeat' first | apply jS | apply jO | apply jN | apply jT | refine Q1 ?_ | refine Zx (h := ?_) | (refine Qi (h1 := ?_) (h2 := ?_) <;> intro hc <;> try (exfalso; omega)) | apply jK | refine Q5 rfl ?_ | apply jB
   refine Zk (o := 0) (j := 0) rfl rfl rfl (fun _ => rfl) rfl oq ?_
   repeat' first | refine Q2 ?_ | refine Q7 ?_ | fail
   refine Zn (A := [(b51, .cells (matC J m n) 28)]) (B := jbH b J m n t s) hO hJu.rd (HSub.skip (Qh (HSub.skip HSub.in0))) rfl pqq rfl rfl rfl rfl oq (fun v' N' hO' => ?_)
   rw [show encA m n t s S 0 ++ S.u.flatten = encA m n t s S 1 from hst, hlu] at hO'
   repeat' first | apply jO | apply jN | apply jT | refine Q1 ?_ | refine Q0 ?_ | refine Qe ?_ | apply jW
   exact Qa (1, N', v') ⟨by dsimp only; omega, hO'⟩ dgq cqq (HSub.refl _)
  ·repeat' first | apply jS | apply jO | apply jN | apply jT | refine Q1 ?_ | refine Zx (h := ?_) | (refine Qi (h1 := ?_) (h2 := ?_) <;> intro hc <;> try (exfalso; omega)) | apply jK | refine Q5 rfl ?_ | apply jB
   refine Zk (o := 0) (j := 1) rfl rfl rfl (fun _ => rfl) rfl oq ?_
   repeat' first | refine Q2 ?_ | refine Q7 ?_ | fail
   refine Zn (A := [(b51, .cells (matC J m n) 28)]) (B := jbH b J m n t s) hO hJui.rd (HSub.skip (Qh (HSub.skip (Qh HSub.in0)))) rfl pqq rfl rfl rfl rfl oq (fun v' N' hO' => ?_)
   rw [show encA m n t s S 1 ++ S.ui.flatten = encA m n t s S 2 from hst, hlui] at hO'
   repeat' first | apply jO | apply jN | apply jT | refine Q1 ?_ | refine Q0 ?_ | refine Qe ?_ | apply jW
   exact Qa (2, N', v') ⟨by dsimp only; omega, hO'⟩ dgq cqq (HSub.refl _)
  ·repeat' first | apply jS | apply jO | apply jN | apply jT | refine Q1 ?_ | refine Zx (h := ?_) | (refine Qi (h1 := ?_) (h2 := ?_) <;> intro hc <;> try (exfalso; omega)) | apply jK | refine Q5 rfl ?_ | apply jB
   refine Zk (o := 0) (j := 2) rfl rfl rfl (fun _ => rfl) rfl oq ?_
   repeat' first | refine Q2 ?_ | refine Q7 ?_ | fail
   refine Zn (A := [(b51, .cells (matC J m n) 28)]) (B := jbH b J m n t s) hO hJd.rd (HSub.skip (Qh (HSub.skip (Qh (Qh HSub.in0))))) rfl pqq rfl rfl rfl rfl oq (fun v' N' hO' => ?_)
   rw [show encA m n t s S 2 ++ S.d.flatten = encA m n t s S 3 from hst, hld] at hO'
   repeat' first | apply jO | apply jN | apply jT | refine Q1 ?_ | refine Q0 ?_ | refine Qe ?_ | apply jW
   exact Qa (3, N', v') ⟨by dsimp only; omega, hO'⟩ dgq cqq (HSub.refl _)
  ·repeat' first | apply jS | apply jO | apply jN | apply jT | refine Q1 ?_ | refine Zx (h := ?_) | (refine Qi (h1 := ?_) (h2 := ?_) <;> intro hc <;> try (exfalso; omega)) | apply jK | refine Q5 rfl ?_ | apply jB
   refine Zk (o := 0) (j := 3) rfl rfl rfl (fun _ => rfl) rfl oq ?_
   repeat' first | refine Q2 ?_ | refine Q7 ?_ | fail
   refine Zn (A := [(b51, .cells (matC J m n) 28)]) (B := jbH b J m n t s) hO hJv.rd (HSub.skip (Qh (HSub.skip (Qh (Qh (Qh HSub.in0)))))) rfl pqq rfl rfl rfl rfl oq (fun v' N' hO' => ?_)
   rw [show encA m n t s S 3 ++ S.v.flatten = encA m n t s S 4 from hst, hlv] at hO'
   repeat' first | apply jO | apply jN | apply jT | refine Q1 ?_ | refine Q0 ?_ | refine Qe ?_ | apply jW
   exact Qa (4, N', v') ⟨by dsimp only; omega, hO'⟩ dgq cqq (HSub.refl _)
  ·repeat' first | apply jS | apply jO | apply jN | apply jT | refine Q1 ?_ | refine Zx (h := ?_) | (refine Qi (h1 := ?_) (h2 := ?_) <;> intro hc <;> try (exfalso; omega)) | apply jK | refine Q5 rfl ?_ | apply jB
   refine Zk (o := 0) (j := 4) rfl rfl rfl (fun _ => rfl) rfl oq ?_
   repeat' first | refine Q2 ?_ | refine Q7 ?_ | fail
   refine Zn (A := [(b51, .cells (matC J m n) 28)]) (B := jbH b J m n t s) hO hJvi.rd (HSub.skip (Qh (HSub.skip (Qh (Qh (Qh (Qh HSub.in0))))))) rfl pqq rfl rfl rfl rfl oq (fun v' N' hO' => ?_)
   rw [show encA m n t s S 4 ++ S.vi.flatten = encA m n t s S 5 from hst, hlvi] at hO'
   repeat' first | apply jO | apply jN | apply jT | refine Q1 ?_ | refine Q0 ?_ | refine Qe ?_ | apply jW
   exact Qa (5, N', v') ⟨by dsimp only; omega, hO'⟩ dgq cqq (HSub.refl _)
 ·obtain rfl : k = 5 := by omega
  rw [Q12] at hO
  have hL5 : encL m n 5 = (encZ m n t s S).length := by rw [hel]; unfold encL; simp; try omega
  have hp0 : 0 < encL m n 5 := by unfold encL; omega
  have hLb : encL m n 5 ≤ 200004 := by rw [hL5, hel]; omega
  have hget : ∀ i, i < encL m n 5 → IsZ (Wv ((encZ m n t s S).getD i 0)) ((encZ m n t s S).getD i 0) K := fun i hi => Qq (hbd _ (Ze oq))
  have hO0 := hO
  have hlen1 : ∀ i, (encT ((encZ m n t s S).take i)).length ≤ 200004 * (3 * K + 2) := fun i =>
   Nat.le_trans (Q43 (K := K) _ fun x hx => hbd x (List.mem_of_mem_take hx)) (Nat.mul_le_mul_right _ (by rw [List.length_take]; omega))
  have htl : ∀ i, i < encL m n 5 → (tx ((encZ m n t s S).getD i 0)).length ≤ 3 * K + 1 := fun i hi => Q6n (hbd _ (Ze oq))
  have hcap : 200004 * (3 * K + 2) ≤ 200004 * 270000002 := Nat.mul_le_mul_left _ oq
  generalize hLL : encZ m n t s S = L at hO hget hL5 hlen1 htl ⊢
  generalize encL m n 5 = q at hO hget hL5 hp0 hLb htl
  repeat' first | apply jS | apply jO | apply jN | apply jT | refine Q1 ?_ | refine QV (h := ?_) | refine Yq (h := ?_) | refine Zx (h := ?_) | (refine Qi (h1 := ?_) (h2 := ?_) <;> intro hc <;> try (exfalso; omega)) | apply jU | apply jE | refine Q4 rfl ?_ | refine Qc ?_
  refine Qb pqq rfl eqq rfl (fun w _ _ => Q7y w _ (L.getD 0 0) K (hget 0 hp0) oq) fun w v w' _ _ _ hR => ?_
  subst hR
  have h1 : tx (L.getD 0 0) = encT (L.take 1) := by
   cases L with
   | nil => exact absurd hL5 (by simp; omega)
   | cons x l => show tx x = tx x ++ []; rw [List.append_nil]
  rw [h1]
  repeat' first | apply jS | apply jO | apply jN | apply jT | refine Q0 ?_ | apply jB
  refine Qj (ι := Nat) ⟨fun z => [(7, nv z), (6, sv (encT (L.take z))), (3, v3), (0, .pointer (some ⟨b, 0, none⟩))], fun z => N ++ jbH b J m n t s, fun z => 1 ≤ z ∧ z ≤ q, fun z => q - z⟩ 1 ⟨Nat.le_refl _, hp0⟩ cqq (HSub.skip (HSub.refl _)) (fun z hz => ?_)
  obtain ⟨hz1, hzq⟩ := hz
  dsimp only
  by_cases hlt : z < q
  ·have hl1 := hlen1 z
   have ht1 := htl z hlt
   repeat' first | apply jS | apply jO | apply jN | apply jT | refine Q1 ?_ | refine ZH (h := ?_) | (refine Qi (h1 := ?_) (h2 := ?_) <;> intro hc <;> try (exfalso; omega)) | apply jK | refine Q5 rfl ?_ | apply jB
   refine Q4u (l := encT (L.take z)) (l' := [32]) rfl rfl rfl rfl (by simp only [List.length_singleton]; omega) ?_
   repeat' first | refine Q1 ?_ | refine QV (h := ?_) | refine Yq (h := ?_) | fail
   refine Qb pqq rfl eqq rfl (fun w _ _ => Q7y w _ (L.getD z 0) K (hget z hlt) oq) fun w v w' _ _ _ hR => ?_
   subst hR
   skip
   refine Q4u (l := encT (L.take z) ++ [32]) (l' := tx (L.getD z 0)) rfl rfl rfl rfl (by simp only [List.length_append, List.length_singleton]; omega) ?_
   have h2 : encT (L.take z) ++ [32] ++ tx (L.getD z 0) = encT (L.take (z + 1)) := by
    rw [Q67 oq, Qb3 (by rw [List.length_take]; omega), List.append_assoc]
    rfl
   rw [h2]
   repeat' first | apply jO | apply jN | apply jT | refine Q1 ?_ | refine Q0 ?_ | refine Qe ?_ | apply jW
   exact Qa (z + 1) ⟨by first | omega | (dsimp only; omega), by first | omega | (dsimp only; omega)⟩ dgp cqq (HSub.refl _)
  ·obtain rfl : z = q := by omega
   rw [List.take_of_length_le oq]
   repeat' first | apply jS | apply jO | apply jN | apply jT | refine Q1 ?_ | refine Q0 ?_ | refine ZH (h := ?_) | (refine Qi (h1 := ?_) (h2 := ?_) <;> intro hc <;> try (exfalso; omega)) | apply jU | apply jE | apply jR | refine Q4 rfl ?_ | refine Qc ?_
   exact Qd rfl (fun a w' st => ⟨hres w' st.kp (fun p hp => st.hs.blk p (List.mem_append_right _ hp)), rfl⟩)


theorem Q89 {P : Program} {t e : TypeId} {n s : Nat} {zc cs : Array Value} {parts : Array (Nat × Value)} [hA : TAr P t n e] [hS : TSz P e s] [hZ : TZ0 P t zc] (hc : Instr.fill (fun i => some (i * s, s)) zc parts.toList = some cs) (w : World) :
  (Instr.build t parts).run P w = .ok (.agg cs) w := by
 obtain ⟨z, hz, rfl⟩ := hZ
 have h2 : (zeroValue t).run P w = .ok z w := by
  unfold zeroValue typeInfo
  cases hi : P.info? t with
  | none => rw [hi] at hz; cases hz
  | some i => rw [hi] at hz; simp only [Option.bind_some] at hz; simp [hi, hz]
 simp only [Instr.build, Sem.run_bind, h2, Result.andThen_ok, run_underlying hA.und, hS.size, hc, Sem.run_pure]

theorem Qd8 {c : Cx} {Q : Exit → Act → World → Prop} {m : Mode} {F : SFrame} {H : SHeap} {r : List SOp} {g : Option (Option Tmp × Bool)} {ns : Bool} {d : Tmp} {ty t e : TypeId} {n s : Nat} {zc cs : Array Value} {parts : Array (Nat × Operand)} {l : List (Nat × Value)} [TAr c.P t n e] [TSz c.P e s] [TZ0 c.P t zc] (hd : dstOk c.n (some d) = true) (hg : guardF F g = some true)
  (hp : evParts F parts.toList = some l) (hc : Instr.fill (fun i => some (i * s, s)) zc l = some cs) (h : JO c Q m r ((d, (.agg cs)) :: F) H) : JO c Q m (⟨some d, .build t parts, ty, g, .mov, ns⟩ :: r) F H :=
 Z9 hd hg (fun a w fr => by
  have h1 : (parts.map fun (i, x) => (i, a.eval x)).toList = l := by rw [Array.toList_map]; exact X0 fr hp
  simp only [execOp, Sem.run_bind, Q89 (P := c.P) (t := t) (cs := cs) (parts := parts.map fun (i, x) => (i, a.eval x)) (by rw [h1]; exact hc), Result.andThen_ok, Sem.run_pure]) h


def rowsOf (m : ZM) : List (List Int) := (List.range m.r).map (rowI m)
theorem Xr {n : Nat} (hn : n ≤ 200) : rowsOf (oneZ n) = oneL n := by
 unfold rowsOf oneL
 refine List.map_congr_left fun i hi => ?_
 have hi : i < n := List.mem_range.1 hi
 rw [Q6w (m := oneZ n) (X5 hn hn) hi]
 show tab n ((oneZ n).at i) = _
 unfold tab
 refine List.map_congr_left fun j hj => ?_
 have hj : j < n := List.mem_range.1 hj
 exact Qem hi hj
def smC (m n : Nat) (E1 E2 E3 E4 E5 : Value) : Array Value := #[nv m, nv m, E1, nv m, nv m, E2, nv m, nv n, E3, nv n, nv n, E4, nv n, nv n, E5]
def GivesS (m n : Nat) (S : Sm) (w : World) (v : Value) (w' : World) : Prop :=
 ∃ N1 N2 N3 N4 N5 E1 E2 E3 E4 E5, v = .agg (smC m n E1 E2 E3 E4 E5) ∧ Dm m n S ∧ New (N1 ++ (N2 ++ (N3 ++ (N4 ++ N5)))) w w' ∧ OwnZ N1 E1 (m * m) S.u.flatten ∧ OwnZ N2 E2 (m * m) S.ui.flatten ∧ OwnZ N3 E3 (m * n) S.d.flatten ∧ OwnZ N4 E4 (n * n) S.v.flatten ∧ OwnZ N5 E5 (n * n) S.vi.flatten

theorem IsT.g {c' : Cx} {H N : SHeap} {v : Value} {r c : Nat} {ts : List TR} {g : List (List Int)} {w : World} (h : IsT N v r c ts g) (hk : Kp c'.M c'.w0 w) (hs : Hsat H w) (h1 : HSub N H) (h2 : HSub (tH ts) H) : IsG w v r c g := by
 refine ⟨h.rc.len, ts.map (·.2.1), by rw [← h.len]; exact (OwnT.rd (c := c') h.T).at hk hs h1, fun i hi => ?_⟩
 have hi' : i < ts.length := by have := h.len; omega
 have e1 : (ts.map (·.2.1)).getD i (iv 0) = tv ts i := by rw [List.getD, Q99 hi']; rfl
 have e2 : g.getD i [] = tr' ts i := by
  rw [← h.eq]
  unfold tL tr'
  rw [List.getD, List.getElem?_map, List.getD, List.getElem?_eq_getElem hi']
  rfl
 rw [e1, e2]
 exact (OwnZ.rd (c := c') (h.T.row hi')).at hk hs ((Q2l (Q2k hi')).trans h2)
theorem Q4w {r c : Nat} {g : List (List Int)} {N : SHeap} {v : Value} (hg : Rec r c g) (h : OwnZ N v (gM r c g).e.length (gM r c g).e) : OwnZ N v (r * c) g.flatten := by
 have e : (gM r c g).e.length = r * c := QK hg
 rw [e] at h
 exact h

section
variable {c : Cx} {Q : Exit → Act → World → Prop} {m : Mode} {F : SFrame} {H : SHeap} {r : List SOp} {g : Option (Option Tmp × Bool)} {ns : Bool} {ty : TypeId}

theorem YV {A N B : SHeap} {f : FuncId} {args : Array Operand} {ats : Array TypeId} {vs : List Value} {R : World → Value → World → Prop} {dd : Option Tmp} [TF c.P f] (hH : H = A ++ (N ++ B)) (hm : m.mayStore ns r) (hd : dstOk c.n dd = true) (hg : guardF F g = some true) (ha : evArgs F args.toList = some vs)
  (hc : ∀ w, Kp c.M c.w0 w → Hsat H w → Calls c.P f vs.toArray w (Ret fun v w' => Kp (keys N) w w' ∧ R w v w'))
  (h : ∀ w v w', Kp c.M c.w0 w → Hsat H w → Kp (keys N) w w' → R w v w' → ∃ N', (keys N').Perm (keys N) ∧ (∀ p ∈ N', w'.heap[p.1]? = some p.2) ∧ JO c Q m.spent r (putF F dd v) (A ++ (N' ++ B))) :
  JO c Q m (⟨dd, .call ⟨.value (.func f), args, ats⟩, ty, g, .seq, ns⟩ :: r) F H := by
 subst hH
 refine ⟨⟨hd, .inr ⟨hg, fun a w st hs => ?_⟩⟩⟩
 unfold Oper.wp SOp.oper
 rw [Xt st.fr ha]
 refine Calls.mono (hc w st.kp st.hs) fun e w' he => ?_
 cases e with
 | panicked ch => exact he.elim
 | outgrown => exact he.elim
 | returned v =>
  obtain ⟨hk, hR⟩ := he
  obtain ⟨N', hkeys, hb, hj⟩ := h w v w' st.kp st.hs hk hR
  have hp : (A ++ (N ++ B)).Perm ((A ++ B) ++ N) := (QJ A N B).symm
  have hnd := (st.perm hp).hs.nd
  rw [List.map_append, List.nodup_append] at hnd
  obtain ⟨st', hstep, hkk⟩ := ZJ (N' := N') st hp (hkeys.nodup_iff.2 hnd.2.1) hb (fun k hk' => .inl (hkeys.mem_iff.1 hk')) (fun k h1 h2 => hk.block k h1 h2) hk.size hk.os hk.tape hk.output
  refine ⟨hstep, _, _, m.spent, (st'.perm (QJ A N' B)).put v hd, fun k hk' => hkk k ?_, QU hm, hj.h⟩
  obtain ⟨q, hq, rfl⟩ := List.mem_map.1 hk'
  exact List.mem_map.2 ⟨q, (QJ A N' B).mem_iff.2 hq, rfl⟩
end

end Go.Proofs.YtbofgpenopcfaaaGreatDoor

