import Derived.Test.YtbofgpenopcfaaaGreatDoorMh
import Derived.Test.YtbofgpenopcfaaaGreatDoorMf
import Derived.Test.YtbofgpenopcfaaaGreatDoorMg
import Derived.Test.YtbofgpenopcfaaaGreatDoorMi
import Derived.Test.YtbofgpenopcfaaaGreatDoorMj
import Derived.Test.YtbofgpenopcfaaaGreatDoorMe
import Derived.Test.YtbofgpenopcfaaaGreatDoorMd
import Derived.Test.YtbofgpenopcfaaaGreatDoorMb
namespace Go.Proofs.YtbofgpenopcfaaaGreatDoor
open Go Go.RowKit
set_option linter.unusedSimpArgs false
set_option linter.unusedVariables false
set_option linter.unusedSectionVars false

set_option maxHeartbeats 2000000 in
theorem Qcj (w : World) (v u : Value) (n k : Nat) (xs ys : List WR) (hv : WX w v n xs) (hu : WX w u k ys) (hn : n < 1000000000) (hk : k < 1000000000) : Calls Tryz.prog 19 #[v, u] w (Ret fun v w' => Kp [] w w' ∧ IsB (xs = ys) v) := by
 have hl := hv.len
 have hl' := hu.len
 refine Q8 [⟨6, 1, [], []⟩] [] spq [] Tryz.func19 rfl mixed (by kernel_rfl) Tryz.ntmps19 Tryz.results19 rfl ⟨by simp, by simp⟩ spq ?_
 simp only [toS, Qc, Qt, Qk, Qo, odAt, Qf, Qv, zipF]
 have hR := WX.rd (c := ⟨Tryz.prog, 26, w, [], by simp⟩) hv rfl []
 have hR' := WX.rd (c := ⟨Tryz.prog, 26, w, [], by simp⟩) hu rfl []
 repeat' first | apply jS | apply jO | apply jN | apply jT | refine Q1 ?_ | refine Q0 ?_ | refine XV (h := ?_) | (refine YE (h1 := ?_) (h2 := ?_) <;> intro hc <;> try (exfalso; omega)) | apply jV | apply jK | apply jR | refine Q5 rfl ?_ | refine Q4 rfl ?_ | apply jB
 ·exact Qi rfl (fun a w' st => ⟨st.kp, XA (fun h => hc (by rw [← hl, ← hl', h]))⟩)
 ·have hnk : n = k := by omega
  subst hnk
  refine Qp (ι := Nat) ⟨fun i => [(5, nv i), (0, v), (1, u)], fun _ => [], fun i => i ≤ n ∧ ∀ j, j < i → xs.getD j w0x = ys.getD j w0x, fun i => n - i⟩ 0 ⟨by omega, fun j h => by omega⟩ cqq (HSub.nil _) (fun i hi => ?_)
  obtain ⟨hin, hpr⟩ := hi
  dsimp only
  by_cases hlt : i < n
  ·repeat' first | apply jS | apply jO | apply jD | apply jN | apply jT | refine Q1 ?_ | refine Q10 (h := ?_) | refine Qdr (h := ?_) | refine XV (h := ?_) | (refine Qm (h1 := ?_) (h2 := ?_) <;> intro hc <;> try (exfalso; omega)) | apply jK | refine Q5 rfl ?_ | apply jB
   refine Qk2 rfl rfl rfl rfl ?_
   by_cases he : xs.getD i w0x = ys.getD i w0x
   ·rw [he]
    simp only [BEq.rfl, decide_true, Bool.and_self, Bool.not_true]
    repeat' first | apply jO | apply jN | apply jT | refine Q1 ?_ | refine Q0 ?_ | refine Qh ?_ | apply jK | refine Q4 rfl ?_ | apply jW
    refine Qa (i + 1) ⟨by omega, fun j h => ?_⟩ dgq cqq (HSub.nil _)
    rcases Nat.lt_or_ge j i with h' | h'
    ·exact hpr j h'
    ·have : j = i := by omega
     subst this; exact he
   ·have hb : (!((xs.getD i w0x).1 == (ys.getD i w0x).1 && decide ((xs.getD i w0x).2 = (ys.getD i w0x).2))) = true := by
     simp only [Bool.not_eq_true', Bool.and_eq_false_iff]
     by_cases h1 : (xs.getD i w0x).1 = (ys.getD i w0x).1
     ·refine .inr ?_
      simp only [decide_eq_false_iff_not]
      exact fun h2 => he (Prod.ext h1 h2)
     ·exact .inl (by simpa using h1)
    rw [hb]
    repeat' first | apply jS | apply jO | apply jN | apply jT | refine Q0 ?_ | apply jV | apply jR | refine Q5 rfl ?_ | refine QE ?_
    exact Qi rfl (fun a w' st => ⟨st.kp, XA (fun h => he (by rw [h]))⟩)
  ·repeat' first | apply jS | apply jO | apply jN | apply jT | refine Q1 ?_ | refine Q0 ?_ | refine XV (h := ?_) | (refine Qm (h1 := ?_) (h2 := ?_) <;> intro hc <;> try (exfalso; omega)) | apply jU | apply jE | apply jR | refine Q4 rfl ?_ | refine Qe ?_
   refine Qi rfl (fun a w' st => ⟨st.kp, IsB.t (Q83 (d := w0x) oq (fun j hj => hpr j oq))⟩)

theorem Qc0 {xs : List WR} {k : Nat} (hk : k < xs.length) (h : badW (xs.getD k w0x) = true) : ¬ Canon xs := fun hc => Q2p.1 hc ⟨_, Zu hk, h⟩

set_option maxHeartbeats 2000000 in
theorem Q2z (w : World) (E : Value) (n : Nat) (xs : List WR) (hE : WX w E n xs) (hn : n < 1000000000) :
  Calls Tryz.prog 93 #[E] w (Ret fun v w' => Kp [] w w' ∧ IsB (Canon xs) v) := by
 have hl := hE.len
 refine Q8 [] [] spq [] Tryz.func93 rfl mixed (by kernel_rfl) Tryz.ntmps93 Tryz.results93 rfl ⟨by simp, by simp⟩ spq ?_
 simp only [toS, Qc, Qt, Qk, Qo, odAt, Qf, Qv, zipF]
 have hR := WX.rd (c := ⟨Tryz.prog, 40, w, [], by simp⟩) hE rfl []
 repeat' first | apply jS | apply jO | apply jN | apply jT | refine Q0 ?_ | apply jB
 refine Qp (ι := Nat) ⟨fun k => [(3, nv k), (0, E)], fun _ => [], fun k => k ≤ n ∧ ∀ j, j < k → badW (xs.getD j w0x) = false, fun k => n - k⟩ 0 ⟨by omega, fun j h => by omega⟩ cqq (HSub.nil _) (fun k hk => ?_)
 obtain ⟨hkn, hpr⟩ := hk
 dsimp only
 by_cases hlt : k < n
 ·repeat' first | apply jS | apply jO | apply jN | apply jT | refine Q1 ?_ | refine Q10 (h := ?_) | refine Q5g (h := ?_) | refine XF (h := ?_) | refine XV (h := ?_) | refine Qav (h := ?_) | (refine Qm (h1 := ?_) (h2 := ?_) <;> intro hc <;> try (exfalso; omega)) | apply jK | refine Q5 rfl ?_ | apply jB
  have hxk : ∀ x, xs.getD k w0x = x → badW x = true → ¬ Canon xs := fun x hx hb => Qc0 (k := k) oq (by rw [hx]; exact hb)
  have hnx : ∀ x, xs.getD k w0x = x → badW x = false → ∀ j, j < k + 1 → badW (xs.getD j w0x) = false := fun x hx hb j hj => by
   rcases Nat.lt_or_ge j k with h | h
   ·exact hpr j h
   ·obtain rfl : j = k := by omega
    rw [hx]; exact hb
  rcases hx : xs.getD k w0x with ⟨p, l⟩
  cases l with
  | nil =>
   simp only [decide_true]
   repeat' first | refine Q1 ?_ | refine Q10 (h := ?_) | refine Qka (h := ?_) | refine XF (h := ?_) | refine Qw (h := ?_) | fail
   rw [hx]
   cases p
   ·repeat' first | refine Q1 ?_ | refine Q10 (h := ?_) | refine Q5g (h := ?_) | refine XF (h := ?_) | refine Xa (h := ?_) | fail
    rw [hx, show decide ((false, ([] : List UInt8)).snd ≠ []) = false from rfl]
    repeat' first | apply jO | apply jN | apply jT | refine Q1 ?_ | refine Q0 ?_ | refine Qh ?_ | refine Qz (h := ?_) | apply jK | refine Q4 rfl ?_ | refine QL (h := ?_) | apply jW
    exact Qa (k + 1) ⟨by omega, hnx _ hx rfl⟩ dgq cqq (HSub.nil _)
   ·repeat' first | apply jS | apply jO | apply jN | apply jT | refine Q0 ?_ | refine Qw (h := ?_) | apply jV | refine Q5 rfl ?_ | refine QE ?_ | refine QL (h := ?_) | apply jR
    exact Qi rfl (fun a w' st => ⟨st.kp, XA (hxk _ hx rfl)⟩)
  | cons x r =>
   rw [show decide ((p, x :: r).snd = ([] : List UInt8)) = false from rfl]
   repeat' first | refine Q1 ?_ | refine Q10 (h := ?_) | refine Q5g (h := ?_) | refine XF (h := ?_) | refine Qz (h := ?_) | refine Xa (h := ?_) | refine QL (h := ?_) | fail
   rw [hx, show decide ((p, x :: r).snd ≠ ([] : List UInt8)) = true from rfl]
   repeat' first | refine Q1 ?_ | refine Q10 (h := ?_) | refine Q5g (h := ?_) | refine XF (h := ?_) | fail
   rw [hx]
   repeat' first | apply jS | apply jO | apply jN | apply jT | refine Q1 ?_ | refine Q0 ?_ | refine Qh ?_ | refine Qw (h := ?_) | refine Qz (h := ?_) | refine Q29 (h := ?_) | (refine Zk (h1 := ?_) (h2 := ?_) <;> intro hc <;> try (exfalso; omega)) | apply jV | apply jK | apply jR | refine Q5 rfl ?_ | refine Q4 rfl ?_ | apply jW | refine QE ?_
   ·exact Qi rfl (fun _ w' st => ⟨st.kp, XA (hxk _ hx (by have : x = 0 := UInt8.toNat.inj (by simpa using hc); subst this; rfl))⟩)
   ·exact Qa (k + 1) ⟨by omega, hnx _ hx (by have : x ≠ 0 := fun e => hc (by subst e; rfl); simp [badW, this])⟩ dgq cqq (HSub.nil _)
 ·repeat' first | apply jS | apply jO | apply jN | apply jT | refine Q1 ?_ | refine Q0 ?_ | refine XV (h := ?_) | (refine Qm (h1 := ?_) (h2 := ?_) <;> intro hc <;> try (exfalso; omega)) | apply jU | apply jE | apply jR | refine Q4 rfl ?_ | refine Qe ?_
  refine Qi rfl (fun a w' st => ⟨st.kp, IsB.t (Q2p.2 ?_)⟩)
  rintro ⟨x, hx, hb⟩
  obtain ⟨j, hj, rfl⟩ := List.mem_iff_getElem.1 hx
  have := hpr j oq
  rw [List.getD, List.getElem?_eq_getElem hj, Option.getD_some, hb] at this
  cases this

set_option maxHeartbeats 1000000 in
theorem Q9e (w : World) (v : Value) (a : XM) (ha : IsX w v a) (hl : a.E.length < 1000000000) : Calls Tryz.prog 39 #[v] w (Ret fun v w' => Kp [] w w' ∧ IsB (RX a) v) := by
 obtain ⟨E, rfl, hE⟩ := ha
 by_cases hf : 0 ≤ a.R ∧ a.R ≤ 200 ∧ 0 ≤ a.C ∧ a.C ≤ 200
 ·obtain ⟨R, C, xs⟩ := a
  obtain ⟨h1, h2, h3, h4⟩ := hf
  dsimp only at *
  obtain ⟨r, rfl⟩ := Int.eq_ofNat_of_zero_le h1
  obtain ⟨c, rfl⟩ := Int.eq_ofNat_of_zero_le h3
  have hr : r ≤ 200 := by omega
  have hc : c ≤ 200 := by omega
  have hrc := rcZ hr hc
  have hiff := Qge (E := xs) hr hc
  refine Q8 [] [] spq [] Tryz.func39 rfl mixed (by kernel_rfl) Tryz.ntmps39 Tryz.results39 rfl ⟨by simp, by simp⟩ spq ?_
  simp only [toS, Qc, Qt, Qk, Qo, odAt, Qf, Qv, zipF]
  have hR := WX.rd (c := ⟨Tryz.prog, 25, w, [], by simp⟩) hE rfl []
  repeat' first | apply jS | apply jO | apply jN | refine Q2 ?_ | refine Q0 ?_ | refine Q7 ?_ | refine QJ (h := fun _ => ?_) | apply jT
  refine Qb trivial rfl rfl rfl (fun w _ _ => Q2q r c w) fun w v w' _ _ _ hv => ?_
  obtain ⟨b', rfl, hb⟩ := hv
  obtain rfl := hb.2 ⟨h1, h2, h3, h4⟩
  repeat' first | apply jS | apply jO | apply jN | apply jT | refine Q1 ?_ | refine Q2 ?_ | refine Q0 ?_ | refine Q7 ?_ | refine XV (h := ?_) | refine Zi (h := ?_) | refine Qz (h := ?_) | refine Zo (h := ?_) | (refine YE (h1 := ?_) (h2 := ?_) <;> intro hc <;> try (exfalso; omega)) | apply jV | apply jK | apply jR | refine Q5 rfl ?_ | refine Q4 rfl ?_
  ·exact Qi rfl (fun a w' st => ⟨st.kp, XA (fun h => by have := (hiff.1 h).1; omega)⟩)
  ·refine Qb trivial rfl rfl rfl (fun w' hk hs => Q2z w' E _ _ (hE.mono hk) hl) fun w v w' _ _ _ hv => ?_
   obtain ⟨b', rfl, hb⟩ := hv
   repeat' first | apply jN | apply jT | refine Q0 ?_ | apply jR
   exact Qi rfl (fun a w' st => ⟨st.kp, b', rfl, hb.trans ⟨fun h => hiff.2 ⟨by omega, h⟩, fun h => (hiff.1 h).2⟩⟩)
 ·refine Q8 [] [] spq [] Tryz.func39 rfl mixed (by kernel_rfl) Tryz.ntmps39 Tryz.results39 rfl ⟨by simp, by simp⟩ spq ?_
  simp only [toS, Qc, Qt, Qk, Qo, odAt, Qf, Qv, zipF]
  repeat' first | apply jS | apply jO | apply jN | refine Q2 ?_ | refine Q0 ?_ | refine Q7 ?_ | refine QJ (h := fun _ => ?_) | apply jT
  refine Qb trivial rfl rfl rfl (fun w _ _ => Q2q a.R a.C w) fun w v w' _ _ _ hv => ?_
  obtain ⟨b', rfl, hb⟩ := hv
  cases b' with
  | true => exact absurd (hb.1 rfl) hf
  | false =>
   repeat' first | apply jS | apply jO | apply jN | apply jT | refine Q1 ?_ | refine Q0 ?_ | refine Qw (h := ?_) | refine Zo (h := ?_) | apply jV | refine Q5 rfl ?_ | refine QL (h := ?_) | apply jR
   exact Qi rfl (fun a w' st => ⟨st.kp, XA (fun h => hf h.fits)⟩)

end Go.Proofs.YtbofgpenopcfaaaGreatDoor

namespace Go.Proofs.YtbofgpenopcfaaaGreatDoor
open Go
set_option linter.unusedSimpArgs false
set_option linter.unusedVariables false
set_option linter.unusedSectionVars false

def SolL (n : Nat) (A M : Mi) : Prop := ∀ i, i < n → ∀ j, j < n → M i j = smI n fun t => M i (n + t) * A t j
theorem SolL.addr {n : Nat} {A M : Mi} {r s : Nat} {t : Int} (h : SolL n A M) (hr : r < n) (hs : s < n) : SolL n A (QD M r fun j => M r j + t * M s j) := fun i hi j hj => by
 by_cases he : i = r
 ·subst he
  rw [setRow_self, Zd (g := fun u => M i (n + u) * A u j + t * (M s (n + u) * A u j)) (fun u _ => by rw [setRow_self]; grind), Q20, Q1e, ← h i hi j hj, ← h s hs j hj]
 ·rw [QI he, Zd (g := fun u => M i (n + u) * A u j) (fun u _ => by rw [QI he]), ← h i hi j hj]
theorem SolL.swp {n : Nat} {A M : Mi} {r s : Nat} (h : SolL n A M) (hr : r < n) (hs : s < n) : SolL n A (swp M r s) := fun i hi j hj => by
 by_cases h1 : i = r
 ·subst h1
  rw [Zd (g := fun u => M s (n + u) * A u j) (fun u _ => by rw [Proofs.YtbofgpenopcfaaaGreatDoor.swp, if_pos rfl]), ← h s hs j hj, Proofs.YtbofgpenopcfaaaGreatDoor.swp, if_pos rfl]
 ·by_cases h2 : i = s
  ·subst h2
   rw [Zd (g := fun u => M r (n + u) * A u j) (fun u _ => by rw [Proofs.YtbofgpenopcfaaaGreatDoor.swp, if_neg h1, if_pos rfl]), ← h r hr j hj, Proofs.YtbofgpenopcfaaaGreatDoor.swp, if_neg h1, if_pos rfl]
  ·rw [Zd (g := fun u => M i (n + u) * A u j) (fun u _ => by rw [Proofs.YtbofgpenopcfaaaGreatDoor.swp, if_neg h1, if_neg h2]), ← h i hi j hj, Proofs.YtbofgpenopcfaaaGreatDoor.swp, if_neg h1, if_neg h2]
theorem SolL.red {n : Nat} {A M M' : Mi} (hr : Red n M M') (h : SolL n A M) : SolL n A M' := by
 induction hr with
 | refl => exact h
 | add r s t hr hs hn _ ih => exact ih (h.addr hr hs)
 | swap r s hr hs hn _ ih => exact ih (h.swp hr hs)
theorem Red.detA {n : Nat} {M M' : Mi} (hr : Red n M M') : (det n M').natAbs = (det n M).natAbs := by
 induction hr with
 | refl => rfl
 | add r s t hr hs hn _ ih => rw [ih, Q01 t hr hs hn]
 | swap r s hr hs hn _ ih => rw [ih, XH hr hs hn, Int.natAbs_neg]
theorem Qih {n k : Nat} {M : Mi} (hk : k < n) (hu : ∀ j, j < k → ∀ i, i < n → M i j = if i = j then 1 else 0) (hz : ∀ i, k < i → i < n → M i k = 0) : ∃ x, det n M = M k k * x := by
 refine ⟨det n (QD (tr M) k (unit k)), ?_⟩
 rw [← Qfy (A := M)]
 conv => lhs; rw [← ZA (tr M) k]
 rw [Q5x hk, YQ (k := k) hk (fun i hi hne => ?_)]
 ·rfl
 ·rcases Nat.lt_or_ge i k with h | h
  ·rw [Z4 (B := QD (QD (tr M) i (unit i)) k (unit i)) (fun a ha b hb => ?_), Xg (r := i) (s := k) hi hk oq (fun j => by rw [setRow_self, QI hne, setRow_self]), Int.mul_zero]
   by_cases h1 : a = k
   ·subst h1; rw [setRow_self, setRow_self]
   ·rw [QI h1, QI h1]
    by_cases h2 : a = i
    ·subst h2
     rw [setRow_self]
     show M b a = unit a b
     rw [hu a h b hb]
     unfold unit
     by_cases h3 : b = a
     ·rw [if_pos h3, if_pos h3.symm]
     ·rw [if_neg h3, if_neg (Ne.symm h3)]
    ·rw [QI h2]
  ·show M i k * _ = 0
   rw [hz i oq hi, Int.zero_mul]

structure Stg (n : Nat) (A : Mi) (k : Nat) (M : Mi) : Prop where
 sol : SolL n A M
 dt : (det n M).natAbs = 1
 un : ∀ j, j < k → ∀ i, i < n → M i j = if i = j then 1 else 0
structure Mid (n : Nat) (A : Mi) (k : Nat) (M : Mi) (i : Nat) : Prop where
 stg : Stg n A k M
 low : ∀ a, k < a → a < n → M a k = 0
 top : ∀ a, a < i → a < k → M a k = 0
 piv : M k k = 1
theorem Qlf {n : Nat} {A M : Mi} (h : Stg n A n M) {i j : Nat} (hi : i < n) (hj : j < n) : (smI n fun t => M i (n + t) * A t j) = if i = j then 1 else 0 := by rw [← h.sol i hi j hj, h.un j hj i hi]
theorem Stg.red {n k : Nat} {A M M' : Mi} (h : Stg n A k M) (hk : k < n) (hr : Red n M M') (ht : ∀ a, a < k → ∀ b, M' a b = M a b) (hz : ∀ b, (∀ a, k ≤ a → a < n → M a b = 0) → ∀ a, k ≤ a → a < n → M' a b = 0) (hl : ∀ a, k < a → a < n → M' a k = 0) :
  Stg n A k M' ∧ (M' k k).natAbs = 1 := by
 have hs : Stg n A k M' := ⟨h.sol.red hr, by rw [hr.detA]; exact h.dt, fun j hj i hi => by
  rcases Nat.lt_or_ge i k with hik | hik
  ·rw [ht i hik, h.un j hj i hi]
  ·rw [if_neg oq]
   exact hz j (fun a h1 h2 => by rw [h.un j hj a h2, if_neg oq]) i hik hi⟩
 obtain ⟨x, hx⟩ := Qih hk hs.un hl
 have h1 := hs.dt
 rw [hx, Int.natAbs_mul] at h1
 exact ⟨hs, Nat.dvd_one.1 ⟨_, h1.symm⟩⟩
theorem Qlg {n k : Nat} {A M : Mi} (h : Mid n A k M k) : Stg n A (k + 1) M := ⟨h.stg.sol, h.stg.dt, fun j hj i hi => by
 by_cases he : j = k
 ·subst he
  split
  ·rename_i h1; subst h1; exact h.piv
  ·rcases Nat.lt_or_ge i j with h2 | h2
   ·exact h.top i h2 h2
   ·exact h.low i oq hi
 ·exact h.stg.un j oq i hi⟩

end Go.Proofs.YtbofgpenopcfaaaGreatDoor

namespace Go.Proofs.YtbofgpenopcfaaaGreatDoor
open Go Go.RowKit
set_option linter.unusedSimpArgs false
set_option linter.unusedVariables false
set_option linter.unusedSectionVars false

structure InvP (n : Nat) (A : Mi) (e u : Nat → Nat) (k : Nat) (M : Mi) : Prop where
 stg : Stg n A k M
 lo : ∀ a b, k ≤ a → a < n → (M a b).natAbs ≤ e k
 up : ∀ a b, a < k → (M a b).natAbs ≤ u k
structure MidP (n : Nat) (A : Mi) (e u : Nat → Nat) (k i : Nat) (M : Mi) : Prop where
 mid : Mid n A k M i
 lo : ∀ a b, k ≤ a → a < n → (M a b).natAbs ≤ e (k + 1)
 up : ∀ a b, i ≤ a → a < k → (M a b).natAbs ≤ u k
 up1 : ∀ a b, a < i → a < k → (M a b).natAbs ≤ u k * (1 + e (k + 1))
section
variable {c : Cx} {Q : Exit → Act → World → Prop} {m : Mode} {F : SFrame} {H : SHeap} {r : List SOp} {g : Option (Option Tmp × Bool)} {ns : Bool} {d : Tmp} {ty t t' : TypeId} {x y : Operand}
end




set_option maxHeartbeats 2000000 in
theorem Q1p (n : Nat) (hn : n ≤ 200) (w : World) : Calls Tryz.prog 61 #[nv n] w (Ret fun v w' => Kp [] w w' ∧ Q3s (oneZ n) w v w') := by
 have hnn := rcZ hn hn
 refine Q8 [⟨5, 2, [], []⟩] [] spq [] Tryz.func61 rfl mixed (by kernel_rfl) Tryz.ntmps61 Tryz.results61 rfl ⟨by simp, by simp⟩ spq ?_
 simp only [toS, Qc, Qt, Qk, Qo, odAt, Qf, Qv, zipF]
 repeat' first | apply jS | apply jO | apply jN | refine Q1 ?_ | refine Qg fun _ => ?_ | apply jT
 rename_i b2
 refine Qn (A := [_]) (B := []) rfl trivial rfl rfl rfl (fun w _ _ => Q5z n n hn hn w) fun w v w' _ _ _ hR => ?_
 obtain ⟨N, Eo, hN, rfl, hO⟩ := hR
 obtain ⟨Ao, co, rfl⟩ := hO.form
 refine ⟨N, hN, ?_⟩
 repeat' first | apply jS | apply jO | apply jN | apply jT | refine Q0 ?_ | refine Q3 ?_ | refine Qg fun _ => ?_ | refine Q3 ?_ | apply jB
 rename_i b3
 refine Qp (ι := Nat × SHeap) ⟨fun z => [(4, nv z.1), (0, nv n), (3, .pointer (some ⟨b3, 0, none⟩)), (2, .pointer (some ⟨b2, 0, none⟩))],
  fun z => [(b3, .cells #[nv n, nv n, .slice Ao (n * n) co] 28), (b2, .cells #[iv 0, iv 0, .slice none 0 0] 28)] ++ (z.2 ++ []),
  fun z => z.1 ≤ n ∧ OwnZ z.2 (.slice Ao (n * n) co) (n * n) (oneS n z.1), fun z => n - z.1⟩ (0, N) ⟨by omega, by rw [Q5n]; exact hO⟩ cqq QA (fun k hk => ?_)
 obtain ⟨k, N⟩ := k
 obtain ⟨hkn, hO⟩ := hk
 dsimp only at hkn hO ⊢
 have hkk : k * n ≤ 40000 := Nat.mul_le_mul (show k ≤ 200 by omega) hn
 by_cases hlt : k < n
 ·have hi := XY hlt hlt
  repeat' first | apply jS | apply jO | apply jD | apply jN | apply jT | refine Q1 ?_ | refine Q2 ?_ | refine Q7 ?_ | refine Ze (h := ?_) | refine Zi (h := ?_) | (refine Qm (h1 := ?_) (h2 := ?_) <;> intro hc <;> try (exfalso; omega)) | apply jK | refine Q5 rfl ?_ | apply jB
  refine Qb pqq rfl rfl rfl (fun w _ _ => Xk w 1 oq oq) fun w v w' _ _ _ hR => ?_
  subst hR
  repeat' first | refine Zj (h := ?_) | fail
  refine Q0j (A := [_, _]) hO rfl rfl ⟨rfl, rfl⟩ rfl rfl hi (fun N' hO' => ?_)
  rw [Q7u hlt] at hO'
  repeat' first | apply jO | apply jN | apply jT | refine Q1 ?_ | refine Q0 ?_ | refine Qh ?_ | apply jW
  exact Qa (k + 1, N') ⟨by dsimp only; omega, hO'⟩ dgq cqq QA
 ·repeat' first | apply jS | apply jO | apply jN | apply jT | refine Q1 ?_ | refine Q2 ?_ | refine Q7 ?_ | refine Ql ?_ | refine Q3 ?_ | (refine Qm (h1 := ?_) (h2 := ?_) <;> intro hc <;> try (exfalso; omega)) | refine Q3 ?_ | apply jU | apply jE | apply jR | refine Q4 rfl ?_ | refine Qe ?_
  obtain rfl : k = n := by omega
  rw [Q7v] at hO
  exact QP 1 rfl rfl rfl (fun a w' st => ⟨st.kp, N, st.newOf rfl Q9, OwnM.mk' hO⟩)



theorem Q4h {n i j : Nat} (hi : i < n) (hj : j < n) : gE (oneL n) i j = idI i j := by
 unfold gE oneL idI
 simp [List.getD_eq_getElem?_getD, List.getElem?_map, List.getElem?_range, hi, hj]
theorem perm5 (N1 N2 Nd N3 N4 : SHeap) : List.Perm (N4 ++ (N3 ++ (N2 ++ (N1 ++ Nd)))) ((N1 ++ (N2 ++ (Nd ++ (N3 ++ (N4 ++ []))))) ++ []) := by
 have h : List.Perm (N4 ++ (N3 ++ (N2 ++ (N1 ++ Nd)))) (((N1 ++ (N2 ++ Nd)) ++ N3) ++ N4) :=
  List.perm_append_comm.trans ((List.perm_append_comm.trans ((List.perm_append_comm_assoc N2 N1 Nd).append_right N3)).append_right N4)
 simpa only [List.append_assoc, List.append_nil] using h
theorem Q40 {n : Nat} : tbz n n (gE (oneL n)) = (oneZ n).e := by
 refine Qq fun i j hi hj => ?_
 exact Q4h hi hj
theorem Qe7 (b : Nat) : OwnZ [(b, .cells ⟨[]⟩ 75)] (.slice (some ⟨b, 0, none⟩) 0 0) 0 [] := by
 have h := OwnRow.mk' (e := 75) (sz := 2) (n := 0) (b := b) (cs := ⟨[]⟩) spq (by simp only [maxLen]; omega)
 exact h

set_option maxHeartbeats 4000000 in
theorem Qiz (w : World) (v : Value) (a : ZM) (g : List (List Int)) (ha : RtZ a) (hv : IsM w v a) (hg : a.e = tbz a.r a.c (gE g)) :
  Calls Tryz.prog 26 #[v] w (Ret fun v w' => Kp [] w w' ∧ ∃ b J, v = .pointer (some ⟨b, 0, none⟩) ∧ New (jbH b J a.r a.c 0 0) w w' ∧ IsJ J a.r a.c (XP a.r a.c g)) := by
 have hv0 := hv
 have hle := ha.le
 obtain ⟨E, rfl, hE⟩ := hv
 refine Q8 [⟨4, 1, [0, 1, 2, 3, 5, 6, 4, 7, 8, 9, 10], []⟩, ⟨5, 1, [0, 1, 3, 4, 6, 7, 8, 10, 11, 2, 5, 9, 12, 13, 14, 15], []⟩] [] spq [] Tryz.func26 rfl mixed (by kernel_rfl) Tryz.ntmps26 Tryz.results26 rfl ⟨by simp, by simp⟩ spq ?_
 simp only [toS, Qc, Qt, Qk, Qo, odAt, Qf, Qv, zipF]
 have hR := WZ.rd (c := ⟨Tryz.prog, 33, w, [], by simp⟩) hE rfl []
 repeat' first | apply jS | apply jO | apply jN | refine Q0 ?_ | refine Ql ?_ | refine QJ (h := fun _ => ?_) | apply jT
 rename_i b1
 refine Qb pqq rfl eqq rfl (fun w hk _ => Q9e w _ a.xm (hv0.mono hk).x (by simp only [ZM.xm, List.length_map]; omega)) fun w v w' _ _ _ hc0 => ?_
 obtain ⟨y, rfl, hy⟩ := hc0
 obtain rfl : y = true := hy.2 ha.rx
 repeat' first | apply jS | apply jO | apply jD | apply jN | apply jT | refine Q1 ?_ | refine Q2 ?_ | refine Q0 ?_ | refine Q7 ?_ | refine Zo (h := ?_) | apply jK | refine Q4 rfl ?_
 refine Xb rfl rfl rfl (fun b2 => ?_)
 have h1 := Qe7 b2
 skip
 refine Q91 (A := []) (B := [_]) h1 hR (HSub.nil _) rfl (by exact HSub.refl _) rfl eqq rfl rfl oq (fun v' Nd hOd => ?_)
 rw [Nat.zero_add, List.nil_append] at hOd
 obtain ⟨Ad, cd, rfl⟩ := hOd.form
 repeat' first | apply jS | apply jN | refine Q3 ?_ | refine Qg fun _ => ?_ | refine Ye (h := ?_) | refine Q3 ?_ | apply jT
 rename_i b4
 refine JC.part (F' := [(4, .pointer (some ⟨b4, 0, none⟩)), (1, .pointer (some ⟨b1, 0, none⟩)), (2, .pointer none)]) (H' := (b4, .cells #[nv a.r, nv a.c, .slice Ad a.e.length cd] 28) :: (b1, .cells #[nv a.r, nv a.c, E] 28) :: Nd) cqq (HSub.at 0 rfl ?_) ?_
 ·show HSub ((b1, .cells #[nv a.r, nv a.c, E] 28) :: Nd) (Nd ++ [(b1, .cells #[nv a.r, nv a.c, E] 28)])
  exact ⟨[], by rw [List.append_nil]; exact List.perm_append_comm⟩
 repeat' first | refine Q2 ?_ | refine Q7 ?_ | refine Ql ?_ | apply jD
 refine Qn (A := [_, _]) (B := Nd) rfl pqq rfl eqq rfl (fun w _ _ => Q1p a.r ha.r w) fun w v w' _ _ _ hR => ?_
 obtain ⟨N1, hNN1, EN1, rfl, hON1⟩ := hR
 obtain ⟨AN1, cN1, rfl⟩ := hON1.form
 refine ⟨N1, hNN1, ?_⟩
 clear hNN1
 skip
 refine Qn (A := [_, _]) (B := N1 ++ Nd) rfl pqq rfl eqq rfl (fun w _ _ => Q1p a.r ha.r w) fun w v w' _ _ _ hR => ?_
 obtain ⟨N2, hNN2, EN2, rfl, hON2⟩ := hR
 obtain ⟨AN2, cN2, rfl⟩ := hON2.form
 refine ⟨N2, hNN2, ?_⟩
 clear hNN2
 skip
 refine Qn (A := [_, _]) (B := N2 ++ (N1 ++ Nd)) rfl pqq rfl eqq rfl (fun w _ _ => Q1p a.c ha.c w) fun w v w' _ _ _ hR => ?_
 obtain ⟨N3, hNN3, EN3, rfl, hON3⟩ := hR
 obtain ⟨AN3, cN3, rfl⟩ := hON3.form
 refine ⟨N3, hNN3, ?_⟩
 clear hNN3
 skip
 refine Qn (A := [_, _]) (B := N3 ++ (N2 ++ (N1 ++ Nd))) rfl pqq rfl eqq rfl (fun w _ _ => Q1p a.c ha.c w) fun w v w' _ _ _ hR => ?_
 obtain ⟨N4, hNN4, EN4, rfl, hON4⟩ := hR
 obtain ⟨AN4, cN4, rfl⟩ := hON4.form
 refine ⟨N4, hNN4, ?_⟩
 clear hNN4
 obtain ⟨J, hJ⟩ : ∃ J : JV, J = ⟨⟨AN1, cN1, N1⟩, ⟨AN2, cN2, N2⟩, ⟨Ad, cd, Nd⟩, ⟨AN3, cN3, N3⟩, ⟨AN4, cN4, N4⟩⟩ := ⟨_, rfl⟩
 have e1 : (oneZ a.r).e.length = a.r * a.r := Q41 _ _ _
 have e2 : (oneZ a.c).e.length = a.c * a.c := Q41 _ _ _
 have e3 : a.e.length = a.r * a.c := ha.len
 rw [e1] at hON1 hON2 ⊢
 rw [e2] at hON3 hON4 ⊢
 rw [e3] at hOd ⊢
 refine ZN (cs := jbC ⟨⟨AN1, cN1, N1⟩, ⟨AN2, cN2, N2⟩, ⟨Ad, cd, Nd⟩, ⟨AN3, cN3, N3⟩, ⟨AN4, cN4, N4⟩⟩ a.r a.c 0 0) rfl rfl rfl (by kernel_rfl) ?_
 refine QJ rfl rfl rfl rfl (fun b9 => ?_)
 repeat' first | apply jN | apply jT | refine Q0 ?_ | apply jR
 refine Qi rfl (fun a' w' st => ⟨st.kp, b9, ⟨⟨AN1, cN1, N1⟩, ⟨AN2, cN2, N2⟩, ⟨Ad, cd, Nd⟩, ⟨AN3, cN3, N3⟩, ⟨AN4, cN4, N4⟩⟩, rfl, st.newOf rfl (HSub.at 0 rfl ?_), ⟨?_, ?_, ?_, ?_, ?_⟩⟩)
 ·exact Qj (M := [_, _]) ⟨[], perm5 N1 N2 Nd N3 N4⟩
 ·rw [← Q40] at hON1; exact hON1
 ·rw [← Q40] at hON2; exact hON2
 ·rw [hg] at hOd; exact hOd
 ·rw [← Q40] at hON3; exact hON3
 ·rw [← Q40] at hON4; exact hON4


def decF : Nat → Nat → List Nat
 | 0, _ => []
 | f + 1, x => if x = 0 then [] else decF f (x / 10) ++ [48 + x % 10]
def dec (x : Nat) : List Nat := decF x x
theorem Qby : ∀ f g x, x ≤ f → x ≤ g → decF f x = decF g x
 | 0, 0, _, _, _ => rfl
 | 0, g + 1, x, h, _ => by rw [decF, decF, if_pos oq]
 | f + 1, 0, x, _, h => by rw [decF, decF, if_pos oq]
 | f + 1, g + 1, x, h1, h2 => by
  rw [decF, decF]
  by_cases h : x = 0
  ·rw [if_pos h, if_pos h]
  ·rw [if_neg h, if_neg h, Qby f g (x / 10) oq oq]
theorem Xh {x : Nat} (h : 0 < x) : dec x = dec (x / 10) ++ [48 + x % 10] := by
 unfold dec
 obtain ⟨y, rfl⟩ : ∃ y, x = y + 1 := ⟨x - 1, by omega⟩
 rw [decF, if_neg oq, Qby y ((y + 1) / 10) ((y + 1) / 10) oq (Nat.le_refl _)]
theorem Q89 : dec 0 = [] := rfl
def txt (a : Int) : List Nat := if a = 0 then [48] else (if a < 0 then [45] else []) ++ dec a.natAbs
def tx (a : Int) : List UInt8 := (txt a).map UInt8.ofNat

theorem Qbx : ∀ f x, ∀ c ∈ decF f x, 48 ≤ c ∧ c ≤ 57
 | 0, _, _, h => absurd h List.not_mem_nil
 | f + 1, x, c, h => by
  rw [decF] at h
  by_cases h0 : x = 0
  ·rw [if_pos h0] at h; exact absurd h List.not_mem_nil
  ·rw [if_neg h0] at h
   rcases List.mem_append.1 h with h1 | h1
   ·exact Qbx f _ c h1
   ·rw [List.mem_singleton.1 h1]; omega
theorem Qjg (a : Int) : ∀ c ∈ txt a, c < 256 := fun c h => by
 unfold txt at h
 by_cases h0 : a = 0
 ·rw [if_pos h0] at h; rw [List.mem_singleton.1 h]; decide
 ·rw [if_neg h0] at h
  rcases List.mem_append.1 h with h1 | h1
  ·by_cases hn : a < 0
   ·rw [if_pos hn] at h1; rw [List.mem_singleton.1 h1]; decide
   ·rw [if_neg hn] at h1; exact absurd h1 List.not_mem_nil
  ·have := Qbx _ _ c h1; omega
theorem Ql5 (a : Int) : bts (tx a) = txt a := Qco (Qjg a)
theorem Qd5 {l : List UInt8} {a : Int} (h : bts l = txt a) : l = tx a := Qcp (h.trans (Ql5 a).symm)

theorem Q5f {c : Cx} {Q : Exit → Act → World → Prop} {m : Mode} {F : SFrame} {H : SHeap} {r : List SOp} {g : Option (Option Tmp × Bool)} {ns : Bool} {d : Tmp} {ty t e : TypeId} {x lo hi mx : Operand} {N : SHeap} {b o n l cap : Nat} {xs : List Nat} [TSl c.P t e] [TSz c.P e 1] (hd : Qr c.n (some d) = true) (hg : Qd F g = some true)
  (hx : ev F x = some (.slice (some ⟨b, o, none⟩) n cap)) (hv : RdY c N (.slice (some ⟨b, o, none⟩) n cap) n xs) (hlo : ev F lo = some (.int .i64 l)) (hhi : ev F hi = some (.int .i64 n)) (hmx : ev F mx = some (.int .i64 n)) (hln : l < n) (hnc : n ≤ cap)
  (h : ∀ v', RdY c N v' (n - l) (xs.drop l) → JO c Q m r ((d, v') :: F) H) : JO c Q m (⟨some d, .slice t x (some lo) (some hi) (some mx), ty, g, .mov, ns⟩ :: r) F H := by
 refine Zp (v := .slice (some ⟨b, o + l, none⟩) (n - l) (n - l)) hd hg (fun a w fr => ?_) (h _ ?_)
 ·have e1 : (0 : Int) ≤ l ∧ (l : Int) ≤ n := by omega
  have e2 : (0 : Int) ≤ n ∧ (n : Int) ≤ n := by omega
  have e3 : (0 : Int) ≤ n ∧ (n : Int) ≤ cap := by omega
  have e4 : ¬ n = l := by omega
  simp only [execOp, fr.ev hx, Option.map_some, fr.ev hlo, fr.ev hhi, fr.ev hmx, Instr.sliceAt, Sem.run_bind, run_underlying (TSl.und (P := c.P) (t := t)), Result.andThen_ok, Instr.slice, Instr.sliceBounds, Instr.sliceBound, asIntOf, Sem.run_pure, e1, e2, e3, and_self, if_true, Int.toNat_natCast, TSz.size (e := e) (n := 1), if_false, e4]
  simp [Zv]
 ·obtain ⟨hlen, A', cap', h2, h3, h4⟩ := hv
  simp only [Value.slice.injEq, true_and] at h2
  obtain ⟨rfl, rfl⟩ := h2
  refine ⟨by rw [List.map_drop, List.length_drop, hlen]; omega, _, _, rfl, Nat.le_refl _, fun h0 => ⟨⟨_, _, rfl⟩, fun w hw j u hu => ?_⟩⟩
  rw [List.map_drop, List.getElem?_drop] at hu
  have := (h4 oq).2 w hw (l + j) u hu
  simpa [vAt, Addr.add, Nat.add_assoc] using this


theorem WW {l : List Nat} {i u : Nat} (h : i < l.length) : (l.set i u).drop i = u :: l.drop (i + 1) := by
 rw [List.drop_eq_getElem_cons (show i < (l.set i u).length by simpa using h), List.getElem_set_self, YM]
theorem Q3y {p : Bool} {V : Nat} (h : V ≠ 0) : txt (sgn p V) = (if p = true then [45] else []) ++ dec V := by
 unfold txt
 rw [if_neg (fun e => h ((W9 _ _).1 e)), Yy]
 cases p
 ·rw [if_neg (show ¬ sgn false V < 0 by simp [sgn])]; rfl
 ·rw [if_pos (show sgn true V < 0 by simp [sgn]; omega)]; rfl
theorem Qgm (L : Nat) : W32 ^ L ≤ 10 ^ (10 * L) := by
 rw [Nat.pow_mul]
 exact Nat.pow_le_pow_left dq L

set_option maxHeartbeats 8000000 in
theorem Qkx (w : World) (p : Bool) (l : List UInt8) (hl : l.length ≤ 100000000) :
  Calls Tryz.prog 77 #[wv p l] w (Ret fun v w' => Kp [] w w' ∧ v = sv (tx (sgn p (bval (bts l))))) := by
 refine Q8 [⟨14, 0, [], [(7, .seq)]⟩] [] spq [] Tryz.func77 rfl mixed (by kernel_rfl) Tryz.ntmps77 Tryz.results77 rfl ⟨by simp, by simp⟩ spq ?_
 simp only [toS, Qc, Qt, Qk, Qo, odAt, Qf, Qv, zipF]
 repeat' first | apply jS | apply jO | apply jN | refine Q0 ?_ | refine Ql ?_ | refine QJ (h := fun _ => ?_) | apply jT
 rename_i b1
 refine Qn (A := [_]) rfl trivial rfl rfl rfl (fun w hk hs => Q30 w p l oq) fun w v w' _ _ _ hR => ?_
 obtain ⟨N1, zs0, hN1, hO1, hz1, hval1⟩ := hR
 refine ⟨N1, hN1, ?_⟩
 have hzl1 := Yd hz1 hval1 (Nat.le_refl _)
 have he := hz1.eq_nil dq
 rw [hval1] at he
 by_cases h0 : zs0.length = 0
 ·have h1 := he.1 (List.eq_nil_of_length_eq_zero h0)
  rw [h1, Yv]
  repeat' first | apply jS | apply jO | apply jN | apply jT | refine Q1 ?_ | refine Q0 ?_ | refine QN (h := ?_) | (refine Zk (h1 := ?_) (h2 := ?_) <;> intro hc <;> try (exfalso; omega)) | apply jV | apply jR | refine Q5 rfl ?_
  exact Qi rfl (fun a w' st => ⟨st.kp, rfl⟩)
 have hV0 : bval (bts l) ≠ 0 := fun h => h0 (by rw [he.2 h]; rfl)
 repeat' first | apply jS | apply jO | apply jN | apply jT | refine Q1 ?_ | refine Q0 ?_ | refine Zi (i := 10) (h := ?_) | refine Qb0 (h := ?_) | refine QN (h := ?_) | (refine Zk (h1 := ?_) (h2 := ?_) <;> intro hc <;> try (exfalso; omega)) | apply jK | refine Q4 rfl ?_
 refine YJ (n := 1 + 10 * zs0.length) rfl rfl rfl rfl rfl oq oq (fun b5 => ?_)
 have hOb0 := Q94 b5 (1 + 10 * zs0.length) (by simp only [maxLen]; omega)
 have hMb : 1 + 10 * zs0.length ≤ 1000000001 := by omega
 have hV10 : val W32 zs0 < 10 ^ (1 + 10 * zs0.length - 1) := by
  rw [Nat.add_sub_cancel_left]
  exact Nat.lt_of_lt_of_le (Y2 hz1.lt) (Qgm _)
 generalize 1 + 10 * zs0.length = M at hOb0 hMb hV10 ⊢
 have hM1 : 1 ≤ M := by
  refine Decidable.byContradiction fun h => ?_
  obtain rfl : M = 0 := by omega
  simp at hV10
  omega
 rw [← hval1] at hV0 ⊢
 generalize hV : val W32 zs0 = V at hV0 hV10 ⊢
 have hds : dec V ++ (tab M fun _ => 0).drop M = dec V := by rw [List.drop_eq_nil_of_le spq, List.append_nil]
 repeat' first | apply jS | apply jO | apply jN | apply jT | refine Q1 ?_ | refine Q0 ?_ | refine ZP (h := ?_) | apply jB
 refine Qp (ι := Nat × Value × SHeap × List Nat × SHeap × List Nat) ⟨fun z => [(5, nv z.1), (4, .slice (some ⟨b5, 0, none⟩) M M), (3, z.2.1), (1, .pointer (some ⟨b1, 0, none⟩))], fun z => (b1, .cells #[.bool p, sv l] 75) :: (z.2.2.2.2.1 ++ (z.2.2.1 ++ [])),
  fun z => z.1 ≤ M ∧ 1 ≤ z.1 ∧ OwnU z.2.2.1 z.2.1 z.2.2.2.1.length z.2.2.2.1 ∧ Dig W32 z.2.2.2.1 ∧ z.2.2.2.1.length ≤ 100000000 ∧ OwnY z.2.2.2.2.1 (.slice (some ⟨b5, 0, none⟩) M M) M z.2.2.2.2.2 ∧ (∀ x ∈ z.2.2.2.2.2, x < 256) ∧ val W32 z.2.2.2.1 < 10 ^ (z.1 - 1) ∧ dec (val W32 z.2.2.2.1) ++ z.2.2.2.2.2.drop z.1 = dec V, fun z => val W32 z.2.2.2.1⟩
  (M, _, N1, zs0, _, _) ⟨Nat.le_refl _, hM1, hO1, hz1, by dsimp only; omega, hOb0, fun x hx => by obtain ⟨a, _, rfl⟩ := List.mem_map.1 hx; decide, by dsimp only; rw [hV]; exact hV10, by dsimp only; rw [hV]; exact hds⟩ cqq (by exact HSub.at 1 rfl (HSub.at 0 rfl (HSub.refl _))) (fun z hz => ?_)
 clear hOb0 hO1 hz1 hds hV10
 obtain ⟨at', vz, Nz, zs, Nb, bs⟩ := z
 obtain ⟨hat, hat1, hOz, hz, hzl, hOb, hbs, hpw, hdec⟩ := hz
 dsimp only at hat hat1 hOz hz hzl hOb hbs hpw hdec ⊢
 have hlb := hOb.len
 have hez := hz.eq_nil dq
 by_cases hgo : 0 < zs.length
 ·have hvp : 0 < val W32 zs := Nat.pos_of_ne_zero fun h => by rw [hez.2 h] at hgo; exact absurd hgo spq
  have hat2 : 2 ≤ at' := by
   refine Decidable.byContradiction fun h => ?_
   obtain rfl : at' = 1 := by omega
   simp at hpw
   omega
  have hst := Xh hvp
  repeat' first | apply jS | apply jO | apply jN | apply jT | refine Q1 ?_ | refine Q0 ?_ | refine QN (h := ?_) | (refine QT (h1 := ?_) (h2 := ?_) <;> intro hc <;> try (exfalso; omega)) | apply jK | refine Q5 rfl ?_ | apply jB
  refine Qn (A := [_]) rfl trivial rfl rfl rfl (fun w hk hs => Qc6 w _ _ 10 zs (hOz.rd.at hk hs Q9) hz.lt dq dq oq) fun w v w' _ _ _ hR => ?_
  obtain ⟨v1, N3, zs3, rfl, hN3, hO3, hz3, hval3⟩ := hR
  refine ⟨N3, hN3, ?_⟩
  have hr10 : val W32 zs % 10 < 10 := Nat.mod_lt _ dq
  generalize hr : val W32 zs % 10 = rr at hr10 hst ⊢
  repeat' first | apply jS | apply jO | apply jN | refine Q1 ?_ | refine Q0 ?_ | refine ZU (h := ?_) | refine Qy (h := ?_) | apply jT
  refine Q12 (i := 48) (j := rr) rfl rfl rfl rfl oq ?_
  repeat' first | refine WC (h := ?_) | refine Q5h (h := ?_) | fail
  have hu : (48 + rr) % 256 = 48 + rr := Nat.mod_eq_of_lt oq
  rw [hu]
  refine Qjw (A := _ :: N3) hOb rfl rfl trivial rfl rfl oq (fun Nb' hOb' => ?_)
  repeat' first | apply jN | apply jW
  refine Qa (at' - 1, v1, N3, zs3, Nb', bs.set (at' - 1) (48 + rr)) ⟨by dsimp only; omega, by dsimp only; omega, hO3, hz3, ?_, hOb', ZY hbs oq, ?_, ?_⟩ (by dsimp only; rw [hval3]; omega) cqq ?_
  ·dsimp only
   have h1 := hz3.len_le dq (k := zs.length) (by
    rw [hval3]
    exact Nat.lt_of_le_of_lt (Nat.div_le_self _ _) (Y2 hz.lt))
   omega
  ·dsimp only
   rw [hval3, show at' - 1 - 1 = at' - 2 by omega]
   rw [show at' - 1 = at' - 2 + 1 by omega, Nat.pow_succ] at hpw
   omega
  ·dsimp only
   rw [hval3, WW oq, show at' - 1 + 1 = at' by omega, ← hdec, hst, List.append_assoc]
   rfl
  ·exact HSub.at 0 rfl (by
    show HSub (Nb' ++ (N3 ++ [])) (N3 ++ (Nb' ++ _))
    exact ⟨Nz ++ [], by
     simp only [List.append_nil]
     rw [← List.append_assoc N3]
     exact List.Perm.append_right Nz List.perm_append_comm⟩)
 ·have hv0 : val W32 zs = 0 := hez.1 (List.eq_nil_of_length_eq_zero oq)
  rw [hv0, Q89, List.nil_append] at hdec
  have hne : dec V ≠ [] := by rw [Xh (Nat.pos_of_ne_zero hV0)]; simp
  have hatM : at' < M := by
   refine Decidable.byContradiction fun h => hne ?_
   rw [← hdec]
   exact List.drop_eq_nil_of_le oq
  cases p with
  | true =>
   repeat' first | apply jS | apply jO | apply jN | apply jT | refine Q1 ?_ | refine Q2 ?_ | refine Q0 ?_ | refine Q7 ?_ | refine ZU (h := ?_) | refine Q5h (h := ?_) | refine QN (h := ?_) | (refine QT (h1 := ?_) (h2 := ?_) <;> intro hc <;> try (exfalso; omega)) | apply jU | apply jE | refine Q5 rfl ?_ | refine Q4 rfl ?_ | refine Qe ?_
   refine Qjw (A := [_]) hOb rfl rfl trivial rfl rfl oq (fun Nb' hOb' => ?_)
   repeat' first | apply jS | apply jO | apply jN | refine Q1 ?_ | refine ZP (h := ?_) | apply jT
   refine Q5f (l := at' - 1) rfl rfl rfl hOb'.rd rfl rfl rfl oq (Nat.le_refl _) (fun v9 hR9 => ?_)
   refine Q0i (fun u hu => ZY hbs dq u (List.mem_of_mem_drop hu)) hR9 Q9 trivial rfl rfl rfl (fun l9 hl9 => ?_)
   repeat' first | apply jN | apply jT | refine Q0 ?_ | apply jR
   have hfin : l9 = tx (sgn true V) := Qd5 (by rw [hl9, WW oq, show at' - 1 + 1 = at' by omega, hdec, Q3y hV0]; rfl)
   exact Qi rfl (fun a w' st => ⟨st.kp, by rw [hfin]⟩)
  | false =>
   repeat' first | apply jS | apply jO | apply jN | apply jT | refine Q1 ?_ | refine Q2 ?_ | refine Q7 ?_ | refine ZP (h := ?_) | refine QN (h := ?_) | (refine QT (h1 := ?_) (h2 := ?_) <;> intro hc <;> try (exfalso; omega)) | apply jU | apply jK | apply jE | refine Q4 rfl ?_ | refine Qe ?_
   refine Q5f (l := at') rfl rfl rfl hOb.rd rfl rfl rfl oq (Nat.le_refl _) (fun v9 hR9 => ?_)
   refine Q0i (fun u hu => hbs u (List.mem_of_mem_drop hu)) hR9 Q9 trivial rfl rfl rfl (fun l9 hl9 => ?_)
   repeat' first | apply jN | apply jT | refine Q0 ?_ | apply jR
   have hfin : l9 = tx (sgn false V) := Qd5 (by rw [hl9, hdec, Q3y hV0]; rfl)
   exact Qi rfl (fun a w' st => ⟨st.kp, by rw [hfin]⟩)


theorem Q0w (a b : List UInt8) : bts (a ++ b) = bts a ++ bts b := List.map_append ..
theorem Qid : Dig B16 [10] := ⟨fun x hx => by rw [List.mem_singleton.1 hx]; decide, rfl⟩
theorem Qgg : val B16 [10] = 10 := rfl
theorem Qd3 {rs : List Nat} (h : val B16 rs < 10) (h0 : 0 < rs.length) : rs.getD 0 0 = val B16 rs := by
 have e := QY (b := B16) (l := rs) (k := 0) h0
 rw [List.drop_zero] at e
 change val B16 rs = rs.getD 0 0 + 65536 * _ at e
 omega

set_option maxHeartbeats 8000000 in
theorem Qiu (w : World) (p : Bool) (l : List UInt8) (hl : l.length ≤ 100000000) :
  Calls Tryz.prog 79 #[wv p l] w (Ret fun v w' => Kp [] w w' ∧ v = sv (tx (sgn p (bval (bts l))))) := by
 refine Q8 [⟨10, 0, [], [(4, .seq)]⟩] [] spq [] Tryz.func79 rfl mixed (by kernel_rfl) Tryz.ntmps79 Tryz.results79 rfl ⟨by simp, by simp⟩ spq ?_
 simp only [toS, Qc, Qt, Qk, Qo, odAt, Qf, Qv, zipF]
 repeat' first | apply jS | apply jO | apply jN | refine Q0 ?_ | refine Ql ?_ | refine QJ (h := fun _ => ?_) | apply jT
 rename_i b1
 refine Qn (A := [_]) rfl trivial rfl rfl rfl (fun w hk hs => Yi w p l oq) fun w v w' _ _ _ hR => ?_
 obtain ⟨N1, zs0, hN1, hO1, hz1, hval1⟩ := hR
 refine ⟨N1, hN1, ?_⟩
 have hzl1 := ZG hz1 hval1 (Nat.le_refl _)
 have he := hz1.eq_nil dq
 rw [hval1] at he
 by_cases h0 : zs0.length = 0
 ·have h1 := he.1 (List.eq_nil_of_length_eq_zero h0)
  rw [h1, Yv]
  repeat' first | apply jS | apply jO | apply jN | apply jT | refine Q1 ?_ | refine Q0 ?_ | refine Z1 (h := ?_) | (refine Zk (h1 := ?_) (h2 := ?_) <;> intro hc <;> try (exfalso; omega)) | apply jV | apply jR | refine Q5 rfl ?_
  exact Qi rfl (fun a w' st => ⟨st.kp, rfl⟩)
 have hV0 : bval (bts l) ≠ 0 := fun h => h0 (by rw [he.2 h]; rfl)
 rw [← hval1] at hV0 ⊢
 generalize hV : val B16 zs0 = V at hV0 ⊢
 repeat' first | apply jS | apply jO | apply jN | apply jT | refine Q1 ?_ | refine Q0 ?_ | refine Z1 (h := ?_) | (refine Zk (h1 := ?_) (h2 := ?_) <;> intro hc <;> try (exfalso; omega)) | apply jK | refine Q4 rfl ?_ | apply jB
 refine Qp (ι := Value × SHeap × List Nat × List UInt8 × Nat) ⟨fun z => [(4, sv z.2.2.2.1), (3, z.1), (1, .pointer (some ⟨b1, 0, none⟩))], fun z => (b1, .cells #[.bool p, sv l] 75) :: (z.2.1 ++ []),
  fun z => OwnN z.2.1 z.1 z.2.2.1.length z.2.2.1 ∧ Dig B16 z.2.2.1 ∧ z.2.2.1.length ≤ 100000000 ∧ val B16 z.2.2.1 < 10 ^ z.2.2.2.2 ∧ dec (val B16 z.2.2.1) ++ bts z.2.2.2.1 = dec V ∧ z.2.2.2.1.length + z.2.2.2.2 ≤ 500000000, fun z => val B16 z.2.2.1⟩
  (_, N1, zs0, [], 5 * zs0.length) ⟨hO1, hz1, by dsimp only; omega, Nat.lt_of_lt_of_le (Y2 hz1.lt) (by rw [Nat.pow_mul]; exact Nat.pow_le_pow_left dq _), by dsimp only; rw [hV]; exact List.append_nil _, by dsimp only; simp; omega⟩ cqq QG (fun z hz => ?_)
 clear hO1 hz1
 obtain ⟨vz, Nz, zs, s, dd⟩ := z
 obtain ⟨hOz, hz, hzl, hle, hdec, hsl⟩ := hz
 dsimp only at hOz hz hzl hle hdec hsl ⊢
 have hez := hz.eq_nil dq
 by_cases hgo : 0 < zs.length
 ·have hvp : 0 < val B16 zs := Nat.pos_of_ne_zero fun h => by rw [hez.2 h] at hgo; exact absurd hgo spq
  have hst := Xh hvp
  have hdd : 1 ≤ dd := by
   refine Decidable.byContradiction fun h => ?_
   obtain rfl : dd = 0 := by omega
   simp at hle
   omega
  repeat' first | apply jS | apply jO | apply jN | apply jT | refine Q1 ?_ | refine Z1 (h := ?_) | (refine QT (h1 := ?_) (h2 := ?_) <;> intro hc <;> try (exfalso; omega)) | refine QH (h := fun _ => ?_) | apply jK | refine Q5 rfl ?_ | apply jB
  rename_i b10
  have hL : OwnN [(b10, .cells ⟨[nv 10]⟩ 3)] (.slice (some ⟨b10, 0, none⟩) 1 1) 1 [10] := ZO b10 1 [10] _ rfl rfl dq
  refine Qn (A := [_, _]) rfl trivial rfl rfl rfl (fun w hk hs => Qc9 w _ _ _ _ zs [10] (hOz.rd.at hk hs Q9) (hL.rd.at hk hs Q9) hz.lt Qid dq oq dq) fun w v w' _ _ _ hR => ?_
  obtain ⟨N3, N4, v3, v4, zs3, zs4, rfl, hN34, hO3, hO4, hz3, hz4, hval3, hlt4⟩ := hR
  refine ⟨_, hN34, ?_⟩
  rw [List.append_assoc N3 N4]
  rw [Qgg] at hval3 hlt4
  have hq3 : val B16 zs3 = val B16 zs / 10 := by omega
  have hr4 : val B16 zs4 = val B16 zs % 10 := by omega
  rw [← hr4, ← hq3] at hst
  have h34 := hz3.len_le dq (k := zs.length) (by
   rw [hq3]
   exact Nat.lt_of_le_of_lt (Nat.div_le_self _ _) (Y2 hz.lt))
  by_cases h4 : 0 < zs4.length
  ·have hd4 := Qd3 hlt4 h4
   have hdl : zs4.getD 0 0 < 10 := by rw [hd4]; exact hlt4
   repeat' first | apply jS | apply jO | apply jN | apply jT | refine Q1 ?_ | refine Q0 ?_ | refine ZB (h := ?_) | refine YZ (h := ?_) | refine Z1 (h := ?_) | refine Qy (h := ?_) | (refine QT (h1 := ?_) (h2 := ?_) <;> intro hc <;> try (exfalso; omega)) | refine Q5 rfl ?_
   refine Ze (i := 48) (j := zs4.getD 0 0) rfl rfl rfl rfl oq ?_
   repeat' first | refine WC (h := ?_) | refine QH (h := fun _ => ?_) | fail
   rename_i c2
   have h256 : (48 + (zs4.getD 0 0)) % 256 = 48 + val B16 zs4 := by omega
   refine Q0i (xs := [(48 + (zs4.getD 0 0)) % 256]) (fun u hu => by rw [List.mem_singleton.1 hu]; omega) (YL c2 1 [(48 + (zs4.getD 0 0)) % 256] _ rfl rfl dq).rd Q9 trivial rfl rfl rfl (fun l1 hl1 => ?_)
   have hll : l1.length = 1 := by rw [← Wp, hl1]; rfl
   repeat' first | apply jO | apply jN | apply jT | refine Q1 ?_ | refine Q0 ?_ | refine Q5k (h := ?_) | apply jW
   refine Qa (v3, N3, zs3, l1 ++ s, dd - 1) ⟨hO3, hz3, by dsimp only; omega, ?_, ?_, by dsimp only; simp only [List.length_append]; omega⟩ dgq cqq QG
   ·dsimp only
    rw [show dd = dd - 1 + 1 by omega, Nat.pow_succ] at hle
    omega
   ·dsimp only
    rw [Q0w, hl1, h256, ← hdec, hst, List.append_assoc]
  ·have hv4 : val B16 zs4 = 0 := by rw [List.eq_nil_of_length_eq_zero (show zs4.length = 0 by omega)]; rfl
   repeat' first | apply jS | apply jO | apply jN | apply jT | refine Q1 ?_ | refine Q0 ?_ | refine Z1 (h := ?_) | refine Qb0 (h := ?_) | refine Qy (h := ?_) | refine WC (h := ?_) | (refine QT (h1 := ?_) (h2 := ?_) <;> intro hc <;> try (exfalso; omega)) | refine QH (h := fun _ => ?_) | apply jK | refine Q4 rfl ?_
   rename_i c2
   have h256 : (48 + 0) % 256 = 48 + val B16 zs4 := by omega
   refine Q0i (xs := [(48 + 0) % 256]) (fun u hu => by rw [List.mem_singleton.1 hu]; omega) (YL c2 1 [(48 + 0) % 256] _ rfl rfl dq).rd Q9 trivial rfl rfl rfl (fun l1 hl1 => ?_)
   have hll : l1.length = 1 := by rw [← Wp, hl1]; rfl
   repeat' first | apply jO | apply jN | apply jT | refine Q1 ?_ | refine Q0 ?_ | refine Q5k (h := ?_) | apply jW
   refine Qa (v3, N3, zs3, l1 ++ s, dd - 1) ⟨hO3, hz3, by dsimp only; omega, ?_, ?_, by dsimp only; simp only [List.length_append]; omega⟩ dgq cqq QG
   ·dsimp only
    rw [show dd = dd - 1 + 1 by omega, Nat.pow_succ] at hle
    omega
   ·dsimp only
    rw [Q0w, hl1, h256, ← hdec, hst, List.append_assoc]
 ·have hv0 : val B16 zs = 0 := hez.1 (List.eq_nil_of_length_eq_zero oq)
  rw [hv0, Q89, List.nil_append] at hdec
  cases p with
  | true =>
   repeat' first | apply jS | apply jO | apply jN | apply jT | refine Q1 ?_ | refine Q2 ?_ | refine Q7 ?_ | refine Z1 (h := ?_) | (refine QT (h1 := ?_) (h2 := ?_) <;> intro hc <;> try (exfalso; omega)) | apply jU | apply jE | refine Q5 rfl ?_ | refine Q4 rfl ?_ | refine Qe ?_
   refine Q5k (l := [45]) rfl rfl rfl rfl (by simp; omega) ?_
   repeat' first | apply jN | apply jT | refine Q0 ?_ | apply jV | apply jR
   have hfin : [45] ++ s = tx (sgn true V) := Qd5 (by rw [Q0w, hdec, Q3y hV0]; rfl)
   exact Qi rfl (fun a w' st => ⟨st.kp, by rw [hfin]⟩)
  | false =>
   repeat' first | apply jS | apply jO | apply jN | apply jT | refine Q1 ?_ | refine Q2 ?_ | refine Q0 ?_ | refine Q7 ?_ | refine Z1 (h := ?_) | (refine QT (h1 := ?_) (h2 := ?_) <;> intro hc <;> try (exfalso; omega)) | apply jU | apply jK | apply jE | apply jR | refine Q4 rfl ?_ | refine Qe ?_
   have hfin : s = tx (sgn false V) := Qd5 (by rw [hdec, Q3y hV0]; rfl)
   exact Qi rfl (fun a w' st => ⟨st.kp, by rw [hfin]⟩)


def encZ (m n t s : Int) (S : Sm) : List Int := [m, n, t, s] ++ (S.u.flatten ++ (S.ui.flatten ++ (S.d.flatten ++ (S.v.flatten ++ S.vi.flatten))))
def catT : List Int → List UInt8
 | [] => []
 | x :: l => 32 :: (tx x ++ catT l)
def encT : List Int → List UInt8
 | [] => []
 | x :: l => tx x ++ catT l
theorem Q2o : ∀ (l l' : List Int), catT (l ++ l') = catT l ++ catT l'
 | [], _ => rfl
 | x :: l, l' => by
  show 32 :: (tx x ++ catT (l ++ l')) = 32 :: (tx x ++ catT l) ++ catT l'
  rw [Q2o l l', List.cons_append, List.append_assoc]
theorem Qbq {l : List Int} {x : Int} (h : 0 < l.length) : encT (l ++ [x]) = encT l ++ (32 :: tx x) := by
 cases l with
 | nil => exact absurd h spq
 | cons y l =>
  show tx y ++ catT (l ++ [x]) = tx y ++ catT l ++ _
  rw [Q2o, List.append_assoc]
  show tx y ++ (catT l ++ (32 :: (tx x ++ []))) = _
  rw [List.append_nil]
theorem Q88 : ∀ k V, V < 10 ^ k → (dec V).length ≤ k
 | 0, V, h => by
  obtain rfl : V = 0 := by simpa using h
  exact Nat.le_refl _
 | k + 1, V, h => by
  by_cases h0 : V = 0
  ·subst h0; exact Nat.zero_le _
  ·rw [Xh (Nat.pos_of_ne_zero h0), List.length_append, List.length_singleton]
   have := Q88 k (V / 10) (by rw [Nat.pow_succ] at h; omega)
   omega
theorem Q76 {a : Int} {K : Nat} (h : a.natAbs < 256 ^ K) : (tx a).length ≤ 3 * K + 1 := by
 have h1 : a.natAbs < 10 ^ (3 * K) := Nat.lt_of_lt_of_le h (by rw [Nat.pow_mul]; exact Nat.pow_le_pow_left dq K)
 have h2 := Q88 _ _ h1
 unfold tx txt
 rw [List.length_map]
 by_cases h0 : a = 0
 ·rw [if_pos h0]; simp
 ·rw [if_neg h0, List.length_append]
  by_cases hn : a < 0
  ·rw [if_pos hn, List.length_singleton]; omega
  ·rw [if_neg hn, List.length_nil]; omega
theorem Q8a {K : Nat} : ∀ l : List Int, (∀ x ∈ l, x.natAbs < 256 ^ K) → (catT l).length ≤ l.length * (3 * K + 2)
 | [], _ => by simp [catT]
 | x :: l, h => by
  have h1 := Q76 (h x spq)
  have h2 := Q8a l fun y hy => h y (by simp [hy])
  show (32 :: (tx x ++ catT l)).length ≤ _
  rw [List.length_cons, List.length_append, List.length_cons, Nat.succ_mul]
  omega
theorem Q85 {K : Nat} (l : List Int) (h : ∀ x ∈ l, x.natAbs < 256 ^ K) : (encT l).length ≤ l.length * (3 * K + 2) := by
 cases l with
 | nil => exact Nat.zero_le _
 | cons x l =>
  have h1 := Q76 (h x spq)
  have h2 := Q8a l fun y hy => h y (by simp [hy])
  show (tx x ++ catT l).length ≤ _
  rw [List.length_append, List.length_cons, Nat.succ_mul]
  omega
theorem X7 {r c : Nat} {g : List (List Int)} (h : Rec r c g) : tbz r c (gE g) = g.flatten := by
 have hl := QR h
 have key : ∀ (g : List (List Int)) (r : Nat), Rec r c g → ∀ i j, i < r → j < c → enz c g.flatten i j = gE g i j := by
  intro g
  induction g with
  | nil => intro r h i j hi _; have := h.len; simp at this; omega
  | cons x g ih =>
   intro r h i j hi hj
   have hx : x.length = c := h.row x spq
   have hr := h.len
   rw [List.length_cons] at hr
   have h' : Rec (r - 1) c g := ⟨by omega, fun y hy => h.row y (by simp [hy])⟩
   unfold enz gE
   rw [List.flatten_cons]
   cases i with
   | zero =>
    rw [Nat.zero_mul, Nat.zero_add, List.getD_cons_zero]
    simp only [List.getD]
    rw [List.getElem?_append_left oq]
   | succ i =>
    have := ih (r - 1) h' i j oq hj
    unfold enz gE at this
    rw [List.getD_cons_succ, ← this]
    simp only [List.getD]
    rw [List.getElem?_append_right (by rw [Nat.succ_mul]; omega), show (i + 1) * c + j - x.length = i * c + j by rw [Nat.succ_mul]; omega]
 rw [← Qfg hl]
 exact Qq fun i j hi hj => (key g r h i j hi hj).symm
theorem Q4o {m n : Nat} {S : Sm} (h : Dm m n S) (t s : Int) : (encZ m n t s S).length = 4 + (m * m + (m * m + (m * n + (n * n + n * n)))) := by
 unfold encZ
 simp only [List.length_append, QR h.u, QR h.ui, QR h.d, QR h.v, QR h.vi]
 rfl
theorem Q0o {K : Nat} {g : List (List Int)} (h : okG K g = true) {x : Int} (hx : x ∈ g.flatten) : x.natAbs < 256 ^ K := by
 obtain ⟨l, hl, hx⟩ := List.mem_flatten.1 hx
 exact of_decide_eq_true (List.all_eq_true.1 (List.all_eq_true.1 h _ hl) _ hx)
theorem Q6t {K : Nat} {m n t s : Int} {S : Sm} (hK : 8 ≤ K) (hm : m.natAbs < 256 ^ 8) (hn : n.natAbs < 256 ^ 8) (ht : t.natAbs < 256 ^ 8) (hs : s.natAbs < 256 ^ 8) (h : Ok K S) : ∀ x ∈ encZ m n t s S, x.natAbs < 256 ^ K := by
 have up : ∀ {x : Int}, x.natAbs < 256 ^ 8 → x.natAbs < 256 ^ K := fun h => QV h hK
 intro x hx
 unfold encZ at hx
 rcases List.mem_append.1 hx with h1 | h1
 ·simp only [List.mem_cons, List.not_mem_nil, or_false] at h1
  rcases h1 with rfl | rfl | rfl | rfl
  ·exact up hm
  ·exact up hn
  ·exact up ht
  ·exact up hs
 ·rcases List.mem_append.1 h1 with h1 | h1
  ·exact Q0o h.u h1
  ·rcases List.mem_append.1 h1 with h1 | h1
   ·exact Q0o h.ui h1
   ·rcases List.mem_append.1 h1 with h1 | h1
    ·exact Q0o h.d h1
    ·rcases List.mem_append.1 h1 with h1 | h1
     ·exact Q0o h.v h1
     ·exact Q0o h.vi h1


theorem Q8h (w : World) (v : Value) (a : Int) (k : Nat) (hv : IsZ v a k) (hk : k ≤ 100000000) :
  Calls Tryz.prog 79 #[v] w (Ret fun v w' => Kp [] w w' ∧ v = sv (tx a)) := by
 obtain ⟨p, l, rfl, hl1, rfl⟩ := hv
 exact Qiu w p l oq
def hdC (a b c d : Int) : Array Value := #[.bool (decide (a < 0)), sv (magU a.natAbs), .bool (decide (b < 0)), sv (magU b.natAbs), .bool (decide (c < 0)), sv (magU c.natAbs), .bool (decide (d < 0)), sv (magU d.natAbs)]
theorem Qi3 (x a b c d : Int) (p : Nat) : OwnZ [(p, .cells (hdC a b c d) 75)] (.slice (some ⟨p, 0, none⟩) 4 4) 4 [a, b, c, d] := by
 have h := OwnRow.mk' (e := 75) (sz := 2) (n := 4) (b := p) (cs := hdC a b c d) (by rfl) (by simp only [maxLen]; omega)
 exact h
def matC (J : JV) (m n : Nat) : Array Value := #[nv m, nv m, .slice J.u.A (m * m) J.u.c, nv m, nv m, .slice J.ui.A (m * m) J.ui.c, nv m, nv n, .slice J.d.A (m * n) J.d.c, nv n, nv n, .slice J.v.A (n * n) J.v.c, nv n, nv n, .slice J.vi.A (n * n) J.vi.c]
def encP (S : Sm) : List (List Int) := [S.u.flatten, S.ui.flatten, S.d.flatten, S.v.flatten, S.vi.flatten]
def encL (m n k : Nat) : Nat := 4 + ([m * m, m * m, m * n, n * n, n * n].take k).sum
def encA (m n t s : Int) (S : Sm) (k : Nat) : List Int := [m, n, t, s] ++ ((encP S).take k).flatten
theorem Q1n (m n t s : Int) (S : Sm) : encA m n t s S 5 = encZ m n t s S := by
 unfold encA encZ encP
 simp
theorem WQ (m n t s : Int) (S : Sm) (k : Nat) (hk : k < 5) : encA m n t s S k ++ (encP S).getD k [] = encA m n t s S (k + 1) := by
 have hl : k < (encP S).length := hk
 unfold encA
 rw [Q5v hl, List.append_assoc]
theorem Q6s {l : List Int} {k : Nat} (hk : k < l.length) : l.take (k + 1) = l.take k ++ [l.getD k 0] := by
 rw [List.take_add_one, List.getD, List.getElem?_eq_getElem hk]
 rfl

set_option maxHeartbeats 8000000 in
theorem Q9g (K : Nat) (w : World) (b : Nat) (J : JV) (m n : Nat) (t s : Int) (S : Sm) (hJ : IsJ J m n S) (hD : Dm m n S) (hs : Hsat (jbH b J m n t s) w) (hm : m ≤ 200) (hn : n ≤ 200) (ht : t.natAbs < 1099511627776) (hs0 : s.natAbs < 1099511627776)
  (hK : 8 ≤ K) (hK2 : K ≤ 90000000) (hb : Ok K S) :
  Calls Tryz.prog 32 #[.pointer (some ⟨b, 0, none⟩)] w (Ret fun v w' => Kp [] w w' ∧ v = sv (encT (encZ m n t s S))) := by
 have hM := QM hs
 have e8 : (256 : Nat) ^ 8 = 18446744073709551616 := by decide
 have hel := Q4o hD t s
 have hbd := Q6t (m := m) (n := n) (t := t) (s := s) (K := K) hK (by rw [e8]; omega) (by rw [e8]; omega) (by rw [e8]; omega) (by rw [e8]; omega) hb
 have hmm : m * m ≤ 40000 := Nat.mul_le_mul hm hm
 have hmn : m * n ≤ 40000 := Nat.mul_le_mul hm hn
 have hnn : n * n ≤ 40000 := Nat.mul_le_mul hn hn
 have hlu : encL m n 0 + m * m = encL m n 1 := by unfold encL; simp; try omega
 have hlui : encL m n 1 + m * m = encL m n 2 := by unfold encL; simp; try omega
 have hld : encL m n 2 + m * n = encL m n 3 := by unfold encL; simp; try omega
 have hlv : encL m n 3 + n * n = encL m n 4 := by unfold encL; simp; try omega
 have hlvi : encL m n 4 + n * n = encL m n 5 := by unfold encL; simp; try omega
 have hl0 : encL m n 0 = 4 := rfl
 have hJu := hJ.u
 have hJui := hJ.ui
 have hJd := hJ.d
 have hJv := hJ.v
 have hJvi := hJ.vi
 rw [X7 hD.u] at hJu
 rw [X7 hD.ui] at hJui
 rw [X7 hD.d] at hJd
 rw [X7 hD.v] at hJv
 rw [X7 hD.vi] at hJvi
 have hres : ∀ w', Kp (keys (jbH b J m n t s)) w w' → (∀ p ∈ jbH b J m n t s, w'.heap[p.1]? = some p.2) → Kp [] w w' := fun w' h1 h2 => Z9 hs h1 h2
 refine Q8 [⟨1, 1, [0, 1, 2, 3, 4, 6, 7, 8, 9, 10, 12, 13, 14, 15, 17, 18, 19, 20, 5, 11, 16, 21, 22, 23], []⟩, ⟨2, 2, [], []⟩] (keys (jbH b J m n t s)) hM (jbH b J m n t s) Tryz.func32 rfl mixed (by kernel_rfl) Tryz.ntmps32 Tryz.results32 rfl hs (fun p hp => List.mem_map.2 ⟨p, hp, rfl⟩) ?_
 simp only [toS, Qc, Qt, Qk, Qo, odAt, Qf, Qv, zipF]
 unfold jbH jbC
 repeat' first | apply jS | apply jO | apply jD | apply jN | refine Q1 ?_ | refine Q2 ?_ | refine Q0 ?_ | refine Q7 ?_ | refine Q6 ?_ | apply jT
 refine Qb pqq rfl eqq rfl (fun w _ _ => Xk w (m : Int) oq oq) fun w v w' _ _ _ hR => ?_
 subst hR
 skip
 refine Qb pqq rfl eqq rfl (fun w _ _ => Xk w (n : Int) oq oq) fun w v w' _ _ _ hR => ?_
 subst hR
 skip
 refine Qb pqq rfl eqq rfl (fun w _ _ => Xk w t oq oq) fun w v w' _ _ _ hR => ?_
 subst hR
 skip
 refine Qb pqq rfl eqq rfl (fun w _ _ => Xk w s oq oq) fun w v w' _ _ _ hR => ?_
 subst hR
 skip
 refine ZC (l := [(0, Wv (m : Int)), (1, Wv (n : Int)), (2, Wv t), (3, Wv s)]) (cs := hdC m n t s) rfl rfl rfl rfl dq dq (by kernel_rfl) (fun b30 => ?_)
 have hO := Qi3 0 (m : Int) n t s b30
 repeat' first | apply jS | apply jD | apply jN | refine Q1 ?_ | refine Q2 ?_ | refine Q0 ?_ | refine Q6 ?_ | apply jT
 refine QK 1 rfl rfl rfl rfl rfl rfl rfl rfl ?_
 repeat' first | refine Q1 ?_ | refine Q2 ?_ | refine Q6 ?_ | fail
 refine QK 1 rfl rfl rfl rfl rfl rfl rfl rfl ?_
 repeat' first | refine Q1 ?_ | refine Q2 ?_ | refine Q6 ?_ | fail
 refine QK 1 rfl rfl rfl rfl rfl rfl rfl rfl ?_
 repeat' first | refine Q1 ?_ | refine Q2 ?_ | refine Q6 ?_ | fail
 refine QK 1 rfl rfl rfl rfl rfl rfl rfl rfl ?_
 repeat' first | refine Q1 ?_ | refine Q2 ?_ | refine Q6 ?_ | fail
 refine QK 1 rfl rfl rfl rfl rfl rfl rfl rfl ?_
 skip
 refine ZC (l := [(0, .agg #[nv m, nv m, .slice J.u.A (m * m) J.u.c]), (1, .agg #[nv m, nv m, .slice J.ui.A (m * m) J.ui.c]), (2, .agg #[nv m, nv n, .slice J.d.A (m * n) J.d.c]), (3, .agg #[nv n, nv n, .slice J.v.A (n * n) J.v.c]), (4, .agg #[nv n, nv n, .slice J.vi.A (n * n) J.vi.c])]) (cs := matC J m n) rfl rfl rfl rfl dq dq (by kernel_rfl) (fun b51 => ?_)
 repeat' first | apply jS | apply jO | apply jN | apply jT | refine Q0 ?_ | apply jB
 refine Qp (ι := Nat × SHeap × Value) ⟨fun z => [(5, nv z.1), (4, .slice (some ⟨b51, 0, none⟩) 5 5), (3, z.2.2), (0, .pointer (some ⟨b, 0, none⟩))], fun z => (b51, .cells (matC J m n) 28) :: (z.2.1 ++ jbH b J m n t s),
  fun z => z.1 ≤ 5 ∧ OwnZ z.2.1 z.2.2 (encL m n z.1) (encA m n t s S z.1), fun z => 5 - z.1⟩ (0, [(b30, .cells (hdC m n t s) 75)], .slice (some ⟨b30, 0, none⟩) 4 4) ⟨by omega, hO⟩ cqq (HSub.refl _) (fun z hz => ?_)
 clear hO
 obtain ⟨k, N, v3⟩ := z
 obtain ⟨hk, hO⟩ := hz
 dsimp only at hk hO ⊢
 by_cases hlt : k < 5
 ·have hst := WQ m n t s S k hlt
  have h5 : k = 0 ∨ k = 1 ∨ k = 2 ∨ k = 3 ∨ k = 4 := by omega
  rcases h5 with rfl | rfl | rfl | rfl | rfl
  ·repeat' first | apply jS | apply jO | apply jN | apply jT | refine Q1 ?_ | refine ZP (h := ?_) | (refine Qm (h1 := ?_) (h2 := ?_) <;> intro hc <;> try (exfalso; omega)) | apply jK | refine Q5 rfl ?_ | apply jB
   refine ZK (o := 0) (j := 0) rfl rfl rfl (fun _ => rfl) rfl oq ?_
   repeat' first | refine Q2 ?_ | refine Q7 ?_ | fail
   refine ZD (A := [(b51, .cells (matC J m n) 28)]) (B := jbH b J m n t s) hO hJu.rd (HSub.skip (Qj (HSub.skip HSub.in0))) rfl pqq rfl rfl rfl rfl oq (fun v' N' hO' => ?_)
   rw [show encA m n t s S 0 ++ S.u.flatten = encA m n t s S 1 from hst, hlu] at hO'
   repeat' first | apply jO | apply jN | apply jT | refine Q1 ?_ | refine Q0 ?_ | refine Qh ?_ | apply jW
   exact Qa (1, N', v') ⟨by dsimp only; omega, hO'⟩ dgq cqq (HSub.refl _)
  ·repeat' first | apply jS | apply jO | apply jN | apply jT | refine Q1 ?_ | refine ZP (h := ?_) | (refine Qm (h1 := ?_) (h2 := ?_) <;> intro hc <;> try (exfalso; omega)) | apply jK | refine Q5 rfl ?_ | apply jB
   refine ZK (o := 0) (j := 1) rfl rfl rfl (fun _ => rfl) rfl oq ?_
   repeat' first | refine Q2 ?_ | refine Q7 ?_ | fail
   refine ZD (A := [(b51, .cells (matC J m n) 28)]) (B := jbH b J m n t s) hO hJui.rd (HSub.skip (Qj (HSub.skip (Qj HSub.in0)))) rfl pqq rfl rfl rfl rfl oq (fun v' N' hO' => ?_)
   rw [show encA m n t s S 1 ++ S.ui.flatten = encA m n t s S 2 from hst, hlui] at hO'
   repeat' first | apply jO | apply jN | apply jT | refine Q1 ?_ | refine Q0 ?_ | refine Qh ?_ | apply jW
   exact Qa (2, N', v') ⟨by dsimp only; omega, hO'⟩ dgq cqq (HSub.refl _)
  ·repeat' first | apply jS | apply jO | apply jN | apply jT | refine Q1 ?_ | refine ZP (h := ?_) | (refine Qm (h1 := ?_) (h2 := ?_) <;> intro hc <;> try (exfalso; omega)) | apply jK | refine Q5 rfl ?_ | apply jB
   refine ZK (o := 0) (j := 2) rfl rfl rfl (fun _ => rfl) rfl oq ?_
   repeat' first | refine Q2 ?_ | refine Q7 ?_ | fail
   refine ZD (A := [(b51, .cells (matC J m n) 28)]) (B := jbH b J m n t s) hO hJd.rd (HSub.skip (Qj (HSub.skip (Qj (Qj HSub.in0))))) rfl pqq rfl rfl rfl rfl oq (fun v' N' hO' => ?_)
   rw [show encA m n t s S 2 ++ S.d.flatten = encA m n t s S 3 from hst, hld] at hO'
   repeat' first | apply jO | apply jN | apply jT | refine Q1 ?_ | refine Q0 ?_ | refine Qh ?_ | apply jW
   exact Qa (3, N', v') ⟨by dsimp only; omega, hO'⟩ dgq cqq (HSub.refl _)
  ·repeat' first | apply jS | apply jO | apply jN | apply jT | refine Q1 ?_ | refine ZP (h := ?_) | (refine Qm (h1 := ?_) (h2 := ?_) <;> intro hc <;> try (exfalso; omega)) | apply jK | refine Q5 rfl ?_ | apply jB
   refine ZK (o := 0) (j := 3) rfl rfl rfl (fun _ => rfl) rfl oq ?_
   repeat' first | refine Q2 ?_ | refine Q7 ?_ | fail
   refine ZD (A := [(b51, .cells (matC J m n) 28)]) (B := jbH b J m n t s) hO hJv.rd (HSub.skip (Qj (HSub.skip (Qj (Qj (Qj HSub.in0)))))) rfl pqq rfl rfl rfl rfl oq (fun v' N' hO' => ?_)
   rw [show encA m n t s S 3 ++ S.v.flatten = encA m n t s S 4 from hst, hlv] at hO'
   repeat' first | apply jO | apply jN | apply jT | refine Q1 ?_ | refine Q0 ?_ | refine Qh ?_ | apply jW
   exact Qa (4, N', v') ⟨by dsimp only; omega, hO'⟩ dgq cqq (HSub.refl _)
  ·repeat' first | apply jS | apply jO | apply jN | apply jT | refine Q1 ?_ | refine ZP (h := ?_) | (refine Qm (h1 := ?_) (h2 := ?_) <;> intro hc <;> try (exfalso; omega)) | apply jK | refine Q5 rfl ?_ | apply jB
   refine ZK (o := 0) (j := 4) rfl rfl rfl (fun _ => rfl) rfl oq ?_
   repeat' first | refine Q2 ?_ | refine Q7 ?_ | fail
   refine ZD (A := [(b51, .cells (matC J m n) 28)]) (B := jbH b J m n t s) hO hJvi.rd (HSub.skip (Qj (HSub.skip (Qj (Qj (Qj (Qj HSub.in0))))))) rfl pqq rfl rfl rfl rfl oq (fun v' N' hO' => ?_)
   rw [show encA m n t s S 4 ++ S.vi.flatten = encA m n t s S 5 from hst, hlvi] at hO'
   repeat' first | apply jO | apply jN | apply jT | refine Q1 ?_ | refine Q0 ?_ | refine Qh ?_ | apply jW
   exact Qa (5, N', v') ⟨by dsimp only; omega, hO'⟩ dgq cqq (HSub.refl _)
 ·obtain rfl : k = 5 := by omega
  rw [Q1n] at hO
  have hL5 : encL m n 5 = (encZ m n t s S).length := by rw [hel]; unfold encL; simp; try omega
  have hp0 : 0 < encL m n 5 := by unfold encL; omega
  have hLb : encL m n 5 ≤ 200004 := by rw [hL5, hel]; omega
  have hget : ∀ i, i < encL m n 5 → IsZ (Wv ((encZ m n t s S).getD i 0)) ((encZ m n t s S).getD i 0) K := fun i hi => QC (hbd _ (Zu oq))
  have hO0 := hO
  have hlen1 : ∀ i, (encT ((encZ m n t s S).take i)).length ≤ 200004 * (3 * K + 2) := fun i =>
   Nat.le_trans (Q85 (K := K) _ fun x hx => hbd x (List.mem_of_mem_take hx)) (Nat.mul_le_mul_right _ (by rw [List.length_take]; omega))
  have htl : ∀ i, i < encL m n 5 → (tx ((encZ m n t s S).getD i 0)).length ≤ 3 * K + 1 := fun i hi => Q76 (hbd _ (Zu oq))
  have hcap : 200004 * (3 * K + 2) ≤ 200004 * 270000002 := Nat.mul_le_mul_left _ oq
  generalize hLL : encZ m n t s S = L at hO hget hL5 hlen1 htl ⊢
  generalize encL m n 5 = q at hO hget hL5 hp0 hLb htl
  repeat' first | apply jS | apply jO | apply jN | apply jT | refine Q1 ?_ | refine Zj (h := ?_) | refine Xm (h := ?_) | refine ZP (h := ?_) | (refine Qm (h1 := ?_) (h2 := ?_) <;> intro hc <;> try (exfalso; omega)) | apply jU | apply jE | refine Q4 rfl ?_ | refine Qe ?_
  refine Qb pqq rfl eqq rfl (fun w _ _ => Q8h w _ (L.getD 0 0) K (hget 0 hp0) oq) fun w v w' _ _ _ hR => ?_
  subst hR
  have h1 : tx (L.getD 0 0) = encT (L.take 1) := by
   cases L with
   | nil => exact absurd hL5 (by simp; omega)
   | cons x l => show tx x = tx x ++ []; rw [List.append_nil]
  rw [h1]
  repeat' first | apply jS | apply jO | apply jN | apply jT | refine Q0 ?_ | apply jB
  refine Qp (ι := Nat) ⟨fun z => [(7, nv z), (6, sv (encT (L.take z))), (3, v3), (0, .pointer (some ⟨b, 0, none⟩))], fun z => N ++ jbH b J m n t s, fun z => 1 ≤ z ∧ z ≤ q, fun z => q - z⟩ 1 ⟨Nat.le_refl _, hp0⟩ cqq (HSub.skip (HSub.refl _)) (fun z hz => ?_)
  obtain ⟨hz1, hzq⟩ := hz
  dsimp only
  by_cases hlt : z < q
  ·have hl1 := hlen1 z
   have ht1 := htl z hlt
   repeat' first | apply jS | apply jO | apply jN | apply jT | refine Q1 ?_ | refine Y4 (h := ?_) | (refine Qm (h1 := ?_) (h2 := ?_) <;> intro hc <;> try (exfalso; omega)) | apply jK | refine Q5 rfl ?_ | apply jB
   refine Q5k (l := encT (L.take z)) (l' := [32]) rfl rfl rfl rfl (by simp only [List.length_singleton]; omega) ?_
   repeat' first | refine Q1 ?_ | refine Zj (h := ?_) | refine Xm (h := ?_) | fail
   refine Qb pqq rfl eqq rfl (fun w _ _ => Q8h w _ (L.getD z 0) K (hget z hlt) oq) fun w v w' _ _ _ hR => ?_
   subst hR
   skip
   refine Q5k (l := encT (L.take z) ++ [32]) (l' := tx (L.getD z 0)) rfl rfl rfl rfl (by simp only [List.length_append, List.length_singleton]; omega) ?_
   have h2 : encT (L.take z) ++ [32] ++ tx (L.getD z 0) = encT (L.take (z + 1)) := by
    rw [Q6s oq, Qbq (by rw [List.length_take]; omega), List.append_assoc]
    rfl
   rw [h2]
   repeat' first | apply jO | apply jN | apply jT | refine Q1 ?_ | refine Q0 ?_ | refine Qh ?_ | apply jW
   exact Qa (z + 1) ⟨by first | omega | (dsimp only; omega), by first | omega | (dsimp only; omega)⟩ dgp cqq (HSub.refl _)
  ·obtain rfl : z = q := by omega
   rw [List.take_of_length_le oq]
   repeat' first | apply jS | apply jO | apply jN | apply jT | refine Q1 ?_ | refine Q0 ?_ | refine Y4 (h := ?_) | (refine Qm (h1 := ?_) (h2 := ?_) <;> intro hc <;> try (exfalso; omega)) | apply jU | apply jE | apply jR | refine Q4 rfl ?_ | refine Qe ?_
   exact Qi rfl (fun a w' st => ⟨hres w' st.kp (fun p hp => st.hs.blk p (List.mem_append_right _ hp)), rfl⟩)


theorem Q8u {P : Program} {t e : TypeId} {n s : Nat} {zc cs : Array Value} {parts : Array (Nat × Value)} [hA : TAr P t n e] [hS : TSz P e s] [hZ : TZ0 P t zc] (hc : Instr.fill (fun i => some (i * s, s)) zc parts.toList = some cs) (w : World) :
  (Instr.build t parts).run P w = .ok (.agg cs) w := by
 obtain ⟨z, hz, rfl⟩ := hZ
 have h2 : (zeroValue t).run P w = .ok z w := by
  unfold zeroValue typeInfo
  cases hi : P.info? t with
  | none => rw [hi] at hz; cases hz
  | some i => rw [hi] at hz; simp only [Option.bind_some] at hz; simp [hi, hz]
 simp only [Instr.build, Sem.run_bind, h2, Result.andThen_ok, run_underlying hA.und, hS.size, hc, Sem.run_pure]

theorem Qdy {c : Cx} {Q : Exit → Act → World → Prop} {m : Mode} {F : SFrame} {H : SHeap} {r : List SOp} {g : Option (Option Tmp × Bool)} {ns : Bool} {d : Tmp} {ty t e : TypeId} {n s : Nat} {zc cs : Array Value} {parts : Array (Nat × Operand)} {l : List (Nat × Value)} [TAr c.P t n e] [TSz c.P e s] [TZ0 c.P t zc] (hd : Qr c.n (some d) = true) (hg : Qd F g = some true)
  (hp : YU F parts.toList = some l) (hc : Instr.fill (fun i => some (i * s, s)) zc l = some cs) (h : JO c Q m r ((d, (.agg cs)) :: F) H) : JO c Q m (⟨some d, .build t parts, ty, g, .mov, ns⟩ :: r) F H :=
 Zp hd hg (fun a w fr => by
  have h1 : (parts.map fun (i, x) => (i, a.eval x)).toList = l := by rw [Array.toList_map]; exact Xf fr hp
  simp only [execOp, Sem.run_bind, Q8u (P := c.P) (t := t) (cs := cs) (parts := parts.map fun (i, x) => (i, a.eval x)) (by rw [h1]; exact hc), Result.andThen_ok, Sem.run_pure]) h


def Y3 (m : ZM) : List (List Int) := (List.range m.r).map (rowI m)
theorem XE {n : Nat} (hn : n ≤ 200) : Y3 (oneZ n) = oneL n := by
 unfold Y3 oneL
 refine List.map_congr_left fun i hi => ?_
 have hi : i < n := List.mem_range.1 hi
 rw [Q7g (m := oneZ n) (XN hn hn) hi]
 show tab n ((oneZ n).at i) = _
 unfold tab
 refine List.map_congr_left fun j hj => ?_
 have hj : j < n := List.mem_range.1 hj
 exact Qfe hi hj
def smC (m n : Nat) (E1 E2 E3 E4 E5 : Value) : Array Value := #[nv m, nv m, E1, nv m, nv m, E2, nv m, nv n, E3, nv n, nv n, E4, nv n, nv n, E5]
def Qlc (m n : Nat) (S : Sm) (w : World) (v : Value) (w' : World) : Prop :=
 ∃ N1 N2 N3 N4 N5 E1 E2 E3 E4 E5, v = .agg (smC m n E1 E2 E3 E4 E5) ∧ Dm m n S ∧ New (N1 ++ (N2 ++ (N3 ++ (N4 ++ N5)))) w w' ∧ OwnZ N1 E1 (m * m) S.u.flatten ∧ OwnZ N2 E2 (m * m) S.ui.flatten ∧ OwnZ N3 E3 (m * n) S.d.flatten ∧ OwnZ N4 E4 (n * n) S.v.flatten ∧ OwnZ N5 E5 (n * n) S.vi.flatten

theorem IsT.g {c' : Cx} {H N : SHeap} {v : Value} {r c : Nat} {ts : List TR} {g : List (List Int)} {w : World} (h : IsT N v r c ts g) (hk : Kp c'.M c'.w0 w) (hs : Hsat H w) (h1 : HSub N H) (h2 : HSub (tH ts) H) : IsG w v r c g := by
 refine ⟨h.rc.len, ts.map (·.2.1), by rw [← h.len]; exact (OwnT.rd (c := c') h.T).at hk hs h1, fun i hi => ?_⟩
 have hi' : i < ts.length := by have := h.len; omega
 have e1 : (ts.map (·.2.1)).getD i (iv 0) = tv ts i := by rw [List.getD, Q9x hi']; rfl
 have e2 : g.getD i [] = tr' ts i := by
  rw [← h.eq]
  unfold tL tr'
  rw [List.getD, List.getElem?_map, List.getD, List.getElem?_eq_getElem hi']
  rfl
 rw [e1, e2]
 exact (OwnZ.rd (c := c') (h.T.row hi')).at hk hs ((Q35 (Q34 hi')).trans h2)
theorem Q5m {r c : Nat} {g : List (List Int)} {N : SHeap} {v : Value} (hg : Rec r c g) (h : OwnZ N v (gM r c g).e.length (gM r c g).e) : OwnZ N v (r * c) g.flatten := by
 have e : (gM r c g).e.length = r * c := QR hg
 rw [e] at h
 exact h

section
variable {c : Cx} {Q : Exit → Act → World → Prop} {m : Mode} {F : SFrame} {H : SHeap} {r : List SOp} {g : Option (Option Tmp × Bool)} {ns : Bool} {ty : TypeId}

theorem YS {A N B : SHeap} {f : FuncId} {args : Array Operand} {ats : Array TypeId} {vs : List Value} {R : World → Value → World → Prop} {dd : Option Tmp} [TF c.P f] (hH : H = A ++ (N ++ B)) (hm : m.mayStore ns r) (hd : Qr c.n dd = true) (hg : Qd F g = some true) (ha : Zx F args.toList = some vs)
  (hc : ∀ w, Kp c.M c.w0 w → Hsat H w → Calls c.P f vs.toArray w (Ret fun v w' => Kp (keys N) w w' ∧ R w v w'))
  (h : ∀ w v w', Kp c.M c.w0 w → Hsat H w → Kp (keys N) w w' → R w v w' → ∃ N', (keys N').Perm (keys N) ∧ (∀ p ∈ N', w'.heap[p.1]? = some p.2) ∧ JO c Q m.spent r (putF F dd v) (A ++ (N' ++ B))) :
  JO c Q m (⟨dd, .call ⟨.value (.func f), args, ats⟩, ty, g, .seq, ns⟩ :: r) F H := by
 subst hH
 refine ⟨⟨hd, .inr ⟨hg, fun a w st hs => ?_⟩⟩⟩
 unfold Oper.wp SOp.oper
 rw [XG st.fr ha]
 refine Calls.mono (hc w st.kp st.hs) fun e w' he => ?_
 cases e with
 | panicked ch => exact he.elim
 | outgrown => exact he.elim
 | returned v =>
  obtain ⟨hk, hR⟩ := he
  obtain ⟨N', hkeys, hb, hj⟩ := h w v w' st.kp st.hs hk hR
  have hp : (A ++ (N ++ B)).Perm ((A ++ B) ++ N) := (QQ A N B).symm
  have hnd := (st.perm hp).hs.nd
  rw [List.map_append, List.nodup_append] at hnd
  obtain ⟨st', hstep, hkk⟩ := ZX (N' := N') st hp (hkeys.nodup_iff.2 hnd.2.1) hb (fun k hk' => .inl (hkeys.mem_iff.1 hk')) (fun k h1 h2 => hk.block k h1 h2) hk.size hk.os hk.tape hk.output
  refine ⟨hstep, _, _, m.spent, (st'.perm (QQ A N' B)).put v hd, fun k hk' => hkk k ?_, Z3 hm, hj.h⟩
  obtain ⟨q, hq, rfl⟩ := List.mem_map.1 hk'
  exact List.mem_map.2 ⟨q, (QQ A N' B).mem_iff.2 hq, rfl⟩
end

end Go.Proofs.YtbofgpenopcfaaaGreatDoor

