/- Walks of field: primes, sizes, right matrices. -/
import Derived.Test.YtdoogoglfbohaaaFldM
namespace Go.Proofs.Ytdoogoglfbohaaa
open Go Go.RowKit
set_option linter.unusedSimpArgs false
set_option linter.unusedVariables false
set_option linter.unusedSectionVars false

theorem noDiv_sqrt {p k : Nat} (h2 : 2 ≤ p) (hk : p < k * k) (h : ∀ d, 2 ≤ d → d < k → p % d ≠ 0) : ∀ d, 2 ≤ d → d < p → p % d ≠ 0 := by
  intro d hd hdp h0
  by_cases hlt : d < k
  · exact h d hd hlt h0
  · have hdk : k ≤ d := by omega
    obtain ⟨q, hq⟩ := Nat.dvd_of_mod_eq_zero h0
    have hq2 : 2 ≤ q := by
      rcases Nat.lt_or_ge q 2 with h' | h'
      · have : q = 0 ∨ q = 1 := by omega
        rcases this with rfl | rfl
        · omega
        · omega
      · exact h'
    have hqk : q < k := by
      rcases Nat.lt_or_ge q k with h' | h'
      · exact h'
      · have := Nat.mul_le_mul hdk h'
        omega
    exact h q hq2 hqk (Nat.mod_eq_zero_of_dvd ⟨d, by rw [hq, Nat.mul_comm]⟩)



/-- A Bool that says whether q. -/
def BoolIs (q : Prop) (v : Value) : Prop := ∃ b : Bool, v = .bool b ∧ (b = true ↔ q)
theorem BoolIs.mk {q : Prop} {b : Bool} (h : b = true ↔ q) : BoolIs q (.bool b) := ⟨b, rfl, h⟩
theorem BoolIs.t {q : Prop} (h : q) : BoolIs q (.bool true) := ⟨true, rfl, by simp [h]⟩
theorem BoolIs.f {q : Prop} (h : ¬ q) : BoolIs q (.bool false) := ⟨false, rfl, by simp [h]⟩

def IsPr (p : Int) : Prop := ∃ q : Nat, p = q ∧ Pr q

theorem not_pr {p : Int} (h : ¬ (2 ≤ p ∧ p ≤ 997)) : ¬ IsPr p := by
  rintro ⟨q, rfl, h1, h2, _⟩
  omega

theorem isPr_nat {p : Nat} (h2 : 2 ≤ p) (h9 : p ≤ 997) (h : ∀ d, 2 ≤ d → d < p → p % d ≠ 0) : IsPr p := ⟨p, rfl, h2, h9, h⟩
theorem not_isPr {p d : Nat} (h2 : 2 ≤ d) (h9 : d < p) (h : p % d = 0) : ¬ IsPr p := by
  rintro ⟨q, hq, hp⟩
  have : p = q := by omega
  subst this
  exact hp.2.2 d h2 h9 h

set_option maxHeartbeats 1000000 in
theorem c_Prime (p : Int) (w : World) : Calls Try.prog 71 #[.int .i64 p] w (Ret fun v w' => Kp [] w w' ∧ BoolIs (IsPr p) v) := by
  by_cases h : 2 ≤ p ∧ p ≤ 997
  · obtain ⟨h2, h9⟩ := h
    obtain ⟨p, rfl⟩ := Int.eq_ofNat_of_zero_le (show 0 ≤ p by omega)
    refine calls_of_S [] [] (by simp) [] Try.func71 rfl mixed (by kernel_rfl) Try.ntmps71 Try.results71 rfl ⟨by simp, by simp⟩ (by simp) ?_
    simp only [toS, textOps, toSOp, kindAt, kindOf, odAt, sopsAt, ordOf, zipF]
    (repeat' (first | refine JC.seq ?_ | refine JC.ops ?_ | refine JO.nil ?_ | refine JX.thenN ?_ | (apply r_move; exact rfl; exact rfl; exact rfl) | (apply r_assign; exact rfl; exact rfl; exact rfl) | (apply r_pickF; exact rfl; exact rfl; exact rfl; exact rfl) | (apply r_lss; exact rfl; exact rfl; exact rfl; exact rfl; all_goals intro hc; all_goals try (exfalso; omega)) | (apply r_gtr; exact rfl; exact rfl; exact rfl; exact rfl; all_goals intro hc; all_goals try (exfalso; omega)) | refine JC.skip ?_ | refine JC.condF rfl ?_ | refine JC.block ?_))
    refine JC.loop (ι := Nat) ⟨fun k => [(0, .int .i64 p), (3, .int .i64 k)], fun _ => [], fun k => 2 ≤ k ∧ k ≤ p ∧ ∀ d, 2 ≤ d → d < k → p % d ≠ 0, fun k => p - k⟩ 2 [] ⟨by omega, by omega, fun d h h' => by omega⟩ ⟨rfl, rfl, trivial⟩ trivial (by simp) (fun k hk => ?_)
    obtain ⟨hk2, hkp, hnd⟩ := hk
    dsimp only
    have hkk : k * k < 9223372036854775808 := by have := Nat.mul_le_mul hkp hkp; have := Nat.mul_le_mul (show p ≤ 997 by omega) (show p ≤ 997 by omega); omega
    have hlin : 2 * k ≤ k * k := Nat.mul_le_mul_right k hk2
    (repeat' (first | refine JC.seq ?_ | refine JC.ops ?_ | refine JO.nil ?_ | refine JX.thenN ?_ | (apply r_move; exact rfl; exact rfl; exact rfl) | (apply r_assign; exact rfl; exact rfl; exact rfl) | (apply r_add1; exact rfl; exact rfl; exact rfl; exact rfl; omega) | (apply r_mulN; exact rfl; exact rfl; exact rfl; exact rfl; (first | assumption | omega)) | (apply r_modN; exact rfl; exact rfl; exact rfl; exact rfl; omega) | (apply r_leq; exact rfl; exact rfl; exact rfl; exact rfl; all_goals intro hc; all_goals try (exfalso; omega)) | (apply r_eql; exact rfl; exact rfl; exact rfl; exact rfl; all_goals intro hc; all_goals try (exfalso; omega)) | refine JX.thenE ?_ | refine JX.thenR ?_ | refine JC.skip ?_ | refine JC.exit ?_ | refine JC.ret ?_ | refine JC.condT rfl ?_ | refine JC.condF rfl ?_ | refine JC.block ?_ | refine JX.blockN ?_ | refine JX.blockR ?_ | refine JX.blockE ?_))
    · exact JX.ret1 rfl (fun a w st => ⟨st.kp, BoolIs.f (not_isPr hk2 (by omega) (by omega))⟩)
    · refine JX.round (k + 1) [] ⟨by omega, by omega, fun d h h' => ?_⟩ (by dsimp only; omega) ⟨rfl, rfl, trivial⟩ trivial (by simp)
      by_cases hd : d = k
      · subst hd; omega
      · exact hnd d h (by omega)
    · exact JX.ret1 rfl (fun a w st => ⟨st.kp, BoolIs.t (isPr_nat (by omega) (by omega) (noDiv_sqrt (by omega) (by omega) hnd))⟩)
  · refine calls_of_S [] [] (by simp) [] Try.func71 rfl mixed (by kernel_rfl) Try.ntmps71 Try.results71 rfl ⟨by simp, by simp⟩ (by simp) ?_
    simp only [toS, textOps, toSOp, kindAt, kindOf, odAt, sopsAt, ordOf, zipF]
    (repeat' (first | refine JC.seq ?_ | refine JC.ops ?_ | refine JO.nil ?_ | refine JX.thenN ?_ | (apply r_move; exact rfl; exact rfl; exact rfl) | (apply r_assign; exact rfl; exact rfl; exact rfl) | (apply r_pickT; exact rfl; exact rfl; exact rfl; exact rfl) | (apply r_pickF; exact rfl; exact rfl; exact rfl; exact rfl) | (apply r_lss; exact rfl; exact rfl; exact rfl; exact rfl; all_goals intro hc; all_goals try (exfalso; omega)) | (apply r_gtr; exact rfl; exact rfl; exact rfl; exact rfl; all_goals intro hc; all_goals try (exfalso; omega)) | refine JX.thenR ?_ | refine JC.ret ?_ | refine JC.condT rfl ?_ | (apply r_skip; exact rfl; exact rfl; (first | (intro h; cases h; done) | (intro _; rfl)))))
    all_goals exact JX.ret1 rfl (fun a w st => ⟨st.kp, BoolIs.f (not_pr h)⟩)

set_option maxHeartbeats 1000000 in
theorem c_refPrime (p : Int) (w : World) : Calls Try.prog 59 #[.int .i64 p] w (Ret fun v w' => Kp [] w w' ∧ BoolIs (IsPr p) v) := by
  by_cases h : 2 ≤ p ∧ p ≤ 997
  · obtain ⟨h2, h9⟩ := h
    obtain ⟨p, rfl⟩ := Int.eq_ofNat_of_zero_le (show 0 ≤ p by omega)
    refine calls_of_S [] [] (by simp) [] Try.func59 rfl mixed (by kernel_rfl) Try.ntmps59 Try.results59 rfl ⟨by simp, by simp⟩ (by simp) ?_
    simp only [toS, textOps, toSOp, kindAt, kindOf, odAt, sopsAt, ordOf, zipF]
    (repeat' (first | refine JC.seq ?_ | refine JC.ops ?_ | refine JO.nil ?_ | refine JX.thenN ?_ | (apply r_move; exact rfl; exact rfl; exact rfl) | (apply r_assign; exact rfl; exact rfl; exact rfl) | (apply r_pickF; exact rfl; exact rfl; exact rfl; exact rfl) | (apply r_lss; exact rfl; exact rfl; exact rfl; exact rfl; all_goals intro hc; all_goals try (exfalso; omega)) | (apply r_gtr; exact rfl; exact rfl; exact rfl; exact rfl; all_goals intro hc; all_goals try (exfalso; omega)) | refine JC.skip ?_ | refine JC.condF rfl ?_ | refine JC.block ?_))
    refine JC.loop (ι := Nat) ⟨fun k => [(0, .int .i64 p), (3, .int .i64 k)], fun _ => [], fun k => 2 ≤ k ∧ k ≤ p ∧ ∀ d, 2 ≤ d → d < k → p % d ≠ 0, fun k => p - k⟩ 2 [] ⟨by omega, by omega, fun d h h' => by omega⟩ ⟨rfl, rfl, trivial⟩ trivial (by simp) (fun k hk => ?_)
    obtain ⟨hk2, hkp, hnd⟩ := hk
    dsimp only
    (repeat' (first | refine JC.seq ?_ | refine JC.ops ?_ | refine JO.nil ?_ | refine JX.thenN ?_ | (apply r_move; exact rfl; exact rfl; exact rfl) | (apply r_assign; exact rfl; exact rfl; exact rfl) | (apply r_add1; exact rfl; exact rfl; exact rfl; exact rfl; omega) | (apply r_modN; exact rfl; exact rfl; exact rfl; exact rfl; omega) | (apply r_lss; exact rfl; exact rfl; exact rfl; exact rfl; all_goals intro hc; all_goals try (exfalso; omega)) | (apply r_eql; exact rfl; exact rfl; exact rfl; exact rfl; all_goals intro hc; all_goals try (exfalso; omega)) | refine JX.thenE ?_ | refine JX.thenR ?_ | refine JC.skip ?_ | refine JC.exit ?_ | refine JC.ret ?_ | refine JC.condT rfl ?_ | refine JC.condF rfl ?_ | refine JC.block ?_ | refine JX.blockN ?_ | refine JX.blockR ?_ | refine JX.blockE ?_))
    · exact JX.ret1 rfl (fun a w st => ⟨st.kp, BoolIs.f (not_isPr hk2 (by omega) (by omega))⟩)
    · refine JX.round (k + 1) [] ⟨by omega, by omega, fun d h h' => ?_⟩ (by dsimp only; omega) ⟨rfl, rfl, trivial⟩ trivial (by simp)
      by_cases hd : d = k
      · subst hd; omega
      · exact hnd d h (by omega)
    · exact JX.ret1 rfl (fun a w st => ⟨st.kp, BoolIs.t (isPr_nat (by omega) (by omega) (fun d h h' => hnd d h (by omega)))⟩)
  · refine calls_of_S [] [] (by simp) [] Try.func59 rfl mixed (by kernel_rfl) Try.ntmps59 Try.results59 rfl ⟨by simp, by simp⟩ (by simp) ?_
    simp only [toS, textOps, toSOp, kindAt, kindOf, odAt, sopsAt, ordOf, zipF]
    (repeat' (first | refine JC.seq ?_ | refine JC.ops ?_ | refine JO.nil ?_ | refine JX.thenN ?_ | (apply r_move; exact rfl; exact rfl; exact rfl) | (apply r_assign; exact rfl; exact rfl; exact rfl) | (apply r_pickT; exact rfl; exact rfl; exact rfl; exact rfl) | (apply r_pickF; exact rfl; exact rfl; exact rfl; exact rfl) | (apply r_lss; exact rfl; exact rfl; exact rfl; exact rfl; all_goals intro hc; all_goals try (exfalso; omega)) | (apply r_gtr; exact rfl; exact rfl; exact rfl; exact rfl; all_goals intro hc; all_goals try (exfalso; omega)) | refine JX.thenR ?_ | refine JC.ret ?_ | refine JC.condT rfl ?_ | (apply r_skip; exact rfl; exact rfl; (first | (intro h; cases h; done) | (intro _; rfl)))))
    all_goals exact JX.ret1 rfl (fun a w st => ⟨st.kp, BoolIs.f (not_pr h)⟩)

theorem Fits.iff {p r c : Int} : Fits p r c ↔ IsPr p ∧ 0 ≤ r ∧ r ≤ 400 ∧ 0 ≤ c ∧ c ≤ 400 := by
  constructor
  · rintro ⟨p', r', c', rfl, rfl, rfl, h1, h2, h3⟩
    exact ⟨⟨p', rfl, h1⟩, by omega, by omega, by omega, by omega⟩
  · rintro ⟨⟨p', rfl, h⟩, h1, h2, h3, h4⟩
    exact ⟨p', r.toNat, c.toNat, rfl, by omega, by omega, h, by omega, by omega⟩

set_option maxHeartbeats 1000000 in
theorem c_fits (p r c : Int) (w : World) : Calls Try.prog 56 #[.int .i64 p, .int .i64 r, .int .i64 c] w (Ret fun v w' => Kp [] w w' ∧ BoolIs (Fits p r c) v) := by
  refine calls_of_S [] [] (by simp) [] Try.func56 rfl mixed (by kernel_rfl) Try.ntmps56 Try.results56 rfl ⟨by simp, by simp⟩ (by simp) ?_
  simp only [toS, textOps, toSOp, kindAt, kindOf, odAt, sopsAt, ordOf, zipF]
  (repeat' (first | refine JC.seq ?_ | refine JC.ops ?_ | refine JO.nil ?_ | refine JX.thenN ?_ | (apply r_move; exact rfl; exact rfl; exact rfl) | (apply r_assign; exact rfl; exact rfl; exact rfl)))
  refine r_call0 trivial rfl rfl rfl (fun w _ _ => c_Prime p w) fun w v w' _ _ _ hR => ?_
  obtain ⟨b, rfl, hb⟩ := hR
  cases b <;> (repeat' (first | refine JO.nil ?_ | refine JX.thenN ?_ | (apply r_move; exact rfl; exact rfl; exact rfl) | (apply r_assign; exact rfl; exact rfl; exact rfl) | (apply r_min; exact rfl; exact rfl; exact rfl; exact rfl) | (apply r_max; exact rfl; exact rfl; exact rfl; exact rfl) | (apply r_pickT; exact rfl; exact rfl; exact rfl; exact rfl) | (apply r_pickF; exact rfl; exact rfl; exact rfl; exact rfl) | (apply r_leq; exact rfl; exact rfl; exact rfl; exact rfl; all_goals intro hc; all_goals try (exfalso; omega)) | (apply r_geq; exact rfl; exact rfl; exact rfl; exact rfl; all_goals intro hc; all_goals try (exfalso; omega)) | refine JC.ret ?_ | (apply r_skip; exact rfl; exact rfl; (first | (intro h; cases h; done) | (intro _; rfl)))))
  all_goals first | exact JX.ret1 rfl (fun a w st => ⟨st.kp, BoolIs.t (by rw [Fits.iff]; exact ⟨hb.1 rfl, by omega⟩)⟩) | exact JX.ret1 rfl (fun a w st => ⟨st.kp, BoolIs.f (by rw [Fits.iff]; rintro ⟨h1, h2⟩; first | omega | (split at hc <;> omega) | exact absurd (hb.2 h1) Bool.false_ne_true)⟩)

theorem c_refFits (r c : Int) (w : World) : Calls Try.prog 60 #[.int .i64 r, .int .i64 c] w (Ret fun v w' => Kp [] w w' ∧ BoolIs (0 ≤ r ∧ r ≤ 400 ∧ 0 ≤ c ∧ c ≤ 400) v) := by
  refine calls_of_S [] [] (by simp) [] Try.func60 rfl mixed (by kernel_rfl) Try.ntmps60 Try.results60 rfl ⟨by simp, by simp⟩ (by simp) ?_
  simp only [toS, textOps, toSOp, kindAt, kindOf, odAt, sopsAt, ordOf, zipF]
  (repeat' (first | refine JC.seq ?_ | refine JC.ops ?_ | refine JO.nil ?_ | refine JX.thenN ?_ | (apply r_move; exact rfl; exact rfl; exact rfl) | (apply r_assign; exact rfl; exact rfl; exact rfl) | (apply r_pickT; exact rfl; exact rfl; exact rfl; exact rfl) | (apply r_pickF; exact rfl; exact rfl; exact rfl; exact rfl) | (apply r_leq; exact rfl; exact rfl; exact rfl; exact rfl; all_goals intro hc; all_goals try (exfalso; omega)) | (apply r_geq; exact rfl; exact rfl; exact rfl; exact rfl; all_goals intro hc; all_goals try (exfalso; omega)) | refine JC.ret ?_ | (apply r_skip; exact rfl; exact rfl; (first | (intro h; cases h; done) | (intro _; rfl)))))
  all_goals first | exact JX.ret1 rfl (fun a w st => ⟨st.kp, BoolIs.t (by omega)⟩) | exact JX.ret1 rfl (fun a w st => ⟨st.kp, BoolIs.f (by omega)⟩)

/-- A matrix of zeros, as it is made. -/
def Zeros (p r c : Nat) (w : World) (v : Value) (w' : World) : Prop := ∃ N E, New N w w' ∧ v = .agg #[nv p, nv r, nv c, E] ∧ OwnN N E (r * c) (tab (r * c) fun _ => 0)

theorem rc_le {r c : Nat} (hr : r ≤ 400) (hc : c ≤ 400) : r * c ≤ 160000 := Nat.mul_le_mul hr hc

set_option maxHeartbeats 1000000 in
theorem c_zero (p r c : Nat) (hp : Pr p) (hr : r ≤ 400) (hc : c ≤ 400) (w : World) : Calls Try.prog 50 #[.int .i64 p, .int .i64 r, .int .i64 c] w (Ret fun v w' => Kp [] w w' ∧ Zeros p r c w v w') := by
  have hb := rc_le hr hc
  refine calls_of_S [] [] (by simp) [] Try.func50 rfl mixed (by kernel_rfl) Try.ntmps50 Try.results50 rfl ⟨by simp, by simp⟩ (by simp) ?_
  simp only [toS, textOps, toSOp, kindAt, kindOf, odAt, sopsAt, ordOf, zipF]
  (repeat' (first | refine JC.seq ?_ | refine JC.ops ?_ | refine JO.nil ?_ | refine JX.thenN ?_ | (apply r_move; exact rfl; exact rfl; exact rfl) | (apply r_allocZ; exact rfl; exact rfl; exact rfl; intro _)))
  refine r_call0 trivial rfl rfl rfl (fun w _ _ => c_fits p r c w) fun w v w' _ _ _ hR => ?_
  obtain ⟨b, rfl, hb⟩ := hR
  obtain rfl := hb.2 ⟨p, r, c, rfl, rfl, rfl, hp, hr, hc⟩
  (repeat' (first | refine JC.seq ?_ | refine JC.ops ?_ | refine JO.nil ?_ | refine JX.thenN ?_ | (apply r_move; exact rfl; exact rfl; exact rfl) | (apply r_mulN; exact rfl; exact rfl; exact rfl; exact rfl; (first | assumption | omega)) | (apply r_not; exact rfl; exact rfl; exact rfl) | refine JC.skip ?_ | refine JC.condF rfl ?_))
  refine r_make rfl rfl rfl rfl rfl (by omega) (by omega) (fun b => ?_)
  (repeat' (first | refine JO.nil ?_ | refine JX.thenN ?_ | (apply r_buildL; exact rfl; exact rfl; exact rfl; exact rfl; exact rfl) | (apply r_storeN; exact rfl; (first | exact trivial | exact ⟨rfl, rfl⟩); exact rfl; exact rfl; (first | exact at0 | exact at1 | exact at2 | exact at3 | exact at4 | exact at5 | exact at6 | exact at7); exact rfl; exact rfl; exact rfl) | refine JC.ret ?_))
  have := own_zeros b (r * c) (by simp only [maxLen]; omega)
  exact JX.retC 1 rfl rfl rfl (fun a w st => ⟨st.kp, _, _, st.newOf rfl (HSub.at 0 rfl (HSub.nil _)), rfl, this⟩)

set_option maxHeartbeats 1000000 in
theorem c_zeroF (p r c : Int) (hn : ¬ Fits p r c) (w : World) : Calls Try.prog 50 #[.int .i64 p, .int .i64 r, .int .i64 c] w (Ret fun v w' => Kp [] w w' ∧ v = zeroV) := by
  refine calls_of_S [] [] (by simp) [] Try.func50 rfl mixed (by kernel_rfl) Try.ntmps50 Try.results50 rfl ⟨by simp, by simp⟩ (by simp) ?_
  simp only [toS, textOps, toSOp, kindAt, kindOf, odAt, sopsAt, ordOf, zipF]
  (repeat' (first | refine JC.seq ?_ | refine JC.ops ?_ | refine JO.nil ?_ | refine JX.thenN ?_ | (apply r_move; exact rfl; exact rfl; exact rfl) | (apply r_allocZ; exact rfl; exact rfl; exact rfl; intro _)))
  refine r_call0 trivial rfl rfl rfl (fun w _ _ => c_fits p r c w) fun w v w' _ _ _ hR => ?_
  obtain ⟨b, rfl, hb⟩ := hR
  cases b with
  | true => exact absurd (hb.1 rfl) hn
  | false =>
    (repeat' (first | refine JC.seq ?_ | refine JC.ops ?_ | refine JO.nil ?_ | refine JX.thenN ?_ | (apply r_not; exact rfl; exact rfl; exact rfl) | (apply r_buildL; exact rfl; exact rfl; exact rfl; exact rfl; exact rfl) | (apply r_storeN; exact rfl; (first | exact trivial | exact ⟨rfl, rfl⟩); exact rfl; exact rfl; (first | exact at0 | exact at1 | exact at2 | exact at3 | exact at4 | exact at5 | exact at6 | exact at7); exact rfl; exact rfl; exact rfl) | refine JX.thenR ?_ | refine JC.ret ?_ | refine JC.condT rfl ?_))
    exact JX.retC 0 rfl rfl rfl (fun a w st => ⟨st.kp, rfl⟩)

set_option maxHeartbeats 1000000 in
theorem c_refZero (p r c : Nat) (hp : Pr p) (hr : r ≤ 400) (hc : c ≤ 400) (w : World) : Calls Try.prog 48 #[.int .i64 p, .int .i64 r, .int .i64 c] w (Ret fun v w' => Kp [] w w' ∧ Zeros p r c w v w') := by
  have hb := rc_le hr hc
  refine calls_of_S [] [] (by simp) [] Try.func48 rfl mixed (by kernel_rfl) Try.ntmps48 Try.results48 rfl ⟨by simp, by simp⟩ (by simp) ?_
  simp only [toS, textOps, toSOp, kindAt, kindOf, odAt, sopsAt, ordOf, zipF]
  (repeat' (first | refine JC.seq ?_ | refine JC.ops ?_ | refine JO.nil ?_ | refine JX.thenN ?_ | (apply r_move; exact rfl; exact rfl; exact rfl) | (apply r_allocZ; exact rfl; exact rfl; exact rfl; intro _)))
  refine r_call0 trivial rfl rfl rfl (fun w _ _ => c_refPrime p w) fun w v w' _ _ _ hR => ?_
  obtain ⟨b, rfl, hb⟩ := hR
  obtain rfl := hb.2 ⟨p, rfl, hp⟩
  (repeat' (first | refine JC.seq ?_ | refine JC.ops ?_ | refine JO.nil ?_ | refine JX.thenN ?_ | (apply r_move; exact rfl; exact rfl; exact rfl) | (apply r_assign; exact rfl; exact rfl; exact rfl)))
  refine r_call0 trivial rfl rfl rfl (fun w _ _ => c_refFits r c w) fun w v w' _ _ _ hR => ?_
  obtain ⟨b, rfl, hb⟩ := hR
  obtain rfl := hb.2 (by omega)
  (repeat' (first | refine JC.seq ?_ | refine JC.ops ?_ | refine JO.nil ?_ | refine JX.thenN ?_ | (apply r_move; exact rfl; exact rfl; exact rfl) | (apply r_assign; exact rfl; exact rfl; exact rfl) | (apply r_mulN; exact rfl; exact rfl; exact rfl; exact rfl; (first | assumption | omega)) | (apply r_pickF; exact rfl; exact rfl; exact rfl; exact rfl) | (apply r_not; exact rfl; exact rfl; exact rfl) | refine JC.skip ?_ | refine JC.condF rfl ?_))
  refine r_make rfl rfl rfl rfl rfl (by omega) (by omega) (fun b => ?_)
  (repeat' (first | refine JO.nil ?_ | refine JX.thenN ?_ | (apply r_buildL; exact rfl; exact rfl; exact rfl; exact rfl; exact rfl) | (apply r_storeN; exact rfl; (first | exact trivial | exact ⟨rfl, rfl⟩); exact rfl; exact rfl; (first | exact at0 | exact at1 | exact at2 | exact at3 | exact at4 | exact at5 | exact at6 | exact at7); exact rfl; exact rfl; exact rfl) | refine JC.ret ?_))
  have := own_zeros b (r * c) (by simp only [maxLen]; omega)
  exact JX.retC 1 rfl rfl rfl (fun a w st => ⟨st.kp, _, _, st.newOf rfl (HSub.at 0 rfl (HSub.nil _)), rfl, this⟩)

set_option maxHeartbeats 1000000 in
theorem c_refZeroF (p r c : Int) (hn : ¬ Fits p r c) (w : World) : Calls Try.prog 48 #[.int .i64 p, .int .i64 r, .int .i64 c] w (Ret fun v w' => Kp [] w w' ∧ v = zeroV) := by
  refine calls_of_S [] [] (by simp) [] Try.func48 rfl mixed (by kernel_rfl) Try.ntmps48 Try.results48 rfl ⟨by simp, by simp⟩ (by simp) ?_
  simp only [toS, textOps, toSOp, kindAt, kindOf, odAt, sopsAt, ordOf, zipF]
  (repeat' (first | refine JC.seq ?_ | refine JC.ops ?_ | refine JO.nil ?_ | refine JX.thenN ?_ | (apply r_move; exact rfl; exact rfl; exact rfl) | (apply r_allocZ; exact rfl; exact rfl; exact rfl; intro _)))
  refine r_call0 trivial rfl rfl rfl (fun w _ _ => c_refPrime p w) fun w v w' _ _ _ hR => ?_
  obtain ⟨b, rfl, hb⟩ := hR
  (repeat' (first | refine JC.seq ?_ | refine JC.ops ?_ | refine JO.nil ?_ | refine JX.thenN ?_ | (apply r_move; exact rfl; exact rfl; exact rfl) | (apply r_assign; exact rfl; exact rfl; exact rfl)))
  refine r_call0 trivial rfl rfl rfl (fun w _ _ => c_refFits r c w) fun w v w' _ _ _ hR => ?_
  obtain ⟨b', rfl, hb'⟩ := hR
  cases b <;> cases b'
  all_goals try (exfalso; exact hn (Fits.iff.2 ⟨hb.1 rfl, by have := hb'.1 rfl; omega⟩))
  all_goals (repeat' (first | refine JC.seq ?_ | refine JC.ops ?_ | refine JO.nil ?_ | refine JX.thenN ?_ | (apply r_move; exact rfl; exact rfl; exact rfl) | (apply r_assign; exact rfl; exact rfl; exact rfl) | (apply r_pickT; exact rfl; exact rfl; exact rfl; exact rfl) | (apply r_pickF; exact rfl; exact rfl; exact rfl; exact rfl) | (apply r_not; exact rfl; exact rfl; exact rfl) | (apply r_buildL; exact rfl; exact rfl; exact rfl; exact rfl; exact rfl) | (apply r_storeN; exact rfl; (first | exact trivial | exact ⟨rfl, rfl⟩); exact rfl; exact rfl; (first | exact at0 | exact at1 | exact at2 | exact at3 | exact at4 | exact at5 | exact at6 | exact at7); exact rfl; exact rfl; exact rfl) | refine JX.thenR ?_ | refine JC.ret ?_ | refine JC.condT rfl ?_ | (apply r_skip; exact rfl; exact rfl; (first | (intro h; cases h; done) | (intro _; rfl)))))
  all_goals exact JX.retC 0 rfl rfl rfl (fun a w st => ⟨st.kp, rfl⟩)

/-! ### Right -/

def RF (a : FM) : Prop := ∃ m, Rt m ∧ a = m.fm

theorem RF.iff {p r c : Nat} {E : List Int} (hp : Pr p) (hr : r ≤ 400) (hc : c ≤ 400) : RF ⟨p, r, c, E⟩ ↔ E.length = r * c ∧ ∀ x ∈ E, 0 ≤ x ∧ x < p := by
  constructor
  · rintro ⟨⟨p', r', c', e⟩, hm, he⟩
    simp only [NM.fm, FM.mk.injEq] at he
    obtain ⟨h1, h2, h3, rfl⟩ := he
    have h1 : p = p' := by omega
    have h2 : r = r' := by omega
    have h3 : c = c' := by omega
    subst h1 h2 h3
    refine ⟨by simpa using hm.len, fun x hx => ?_⟩
    obtain ⟨y, hy, rfl⟩ := List.mem_map.1 hx
    have := hm.lt y hy
    simp only at this
    constructor
    · exact Int.natCast_nonneg y
    · show (y : Int) < p; omega
  · rintro ⟨hl, hx⟩
    refine ⟨⟨p, r, c, E.map Int.toNat⟩, ⟨hp, hr, hc, by simpa using hl, fun y hy => ?_⟩, ?_⟩
    · obtain ⟨x, hx', rfl⟩ := List.mem_map.1 hy
      have := hx x hx'
      simp only; omega
    · simp only [NM.fm, ints, List.map_map, FM.mk.injEq, true_and]
      have : E.map (Int.ofNat ∘ Int.toNat) = E.map id := List.map_congr_left fun x hx' => by
        have := hx x hx'
        simp only [Function.comp_apply, id]
        exact Int.toNat_of_nonneg this.1
      rw [this, List.map_id]

theorem RF.fits {a : FM} (h : RF a) : Fits a.P a.R a.C := by
  obtain ⟨m, hm, rfl⟩ := h
  exact hm.fits

theorem toN_iff {a : FM} : RF a ↔ ∃ m, toN a = some m := by
  constructor
  · rintro ⟨m, hm, rfl⟩; exact ⟨m, toN_fm hm⟩
  · rintro ⟨m, h⟩; exact ⟨m, (toN_some h).2, (toN_some h).1⟩

/-- Whether an int is outside of the field. -/
def outside (p x : Int) : Bool := decide (x < 0 ∨ p ≤ x)

theorem c_Right1 (w : World) (b : Nat) (p R C : Int) (E : Value) (x : Int) (hb : w.heap[b]? = some (.cells #[iv p, iv R, iv C, E] 27)) :
    Calls Try.prog 58 #[iv x, .pointer (some ⟨b, 0, none⟩)] w (Ret fun v w' => Kp [] w w' ∧ v = .bool (outside p x)) := by
  have hlt : b < w.heap.size := by
    rcases Nat.lt_or_ge b w.heap.size with h | h
    · exact h
    · rw [Array.getElem?_eq_none h] at hb; cases hb
  refine calls_of_S [] [b] (by simpa using hlt) [(b, .cells #[iv p, iv R, iv C, E] 27)] Try.func58 rfl mixed (by kernel_rfl) Try.ntmps58 Try.results58 rfl ⟨by simp, by simpa using hb⟩ (by simp) ?_
  simp only [toS, textOps, toSOp, kindAt, kindOf, odAt, sopsAt, ordOf, zipF]
  (repeat' (first | refine JC.seq ?_ | refine JC.ops ?_ | refine JO.nil ?_ | refine JX.thenN ?_ | (apply r_move; exact rfl; exact rfl; exact rfl) | (apply r_fieldAddr; exact rfl; exact rfl; exact rfl) | (apply r_assign; exact rfl; exact rfl; exact rfl) | (apply r_load; exact rfl; exact rfl; exact rfl; exact rfl; (first | exact at0 | exact at1 | exact at2 | exact at3 | exact at4 | exact at5 | exact at6 | exact at7); exact rfl) | (apply r_pickT; exact rfl; exact rfl; exact rfl; exact rfl) | (apply r_pickF; exact rfl; exact rfl; exact rfl; exact rfl) | (apply r_lss; exact rfl; exact rfl; exact rfl; exact rfl; all_goals intro hc; all_goals try (exfalso; omega)) | (apply r_geq; exact rfl; exact rfl; exact rfl; exact rfl; all_goals intro hc; all_goals try (exfalso; omega)) | refine JC.ret ?_ | (apply r_skip; exact rfl; exact rfl; (first | (intro h; cases h; done) | (intro _; rfl)))))
  all_goals refine JX.ret1 rfl (fun a w' st => ⟨?_, ?_⟩)
  all_goals first | (unfold outside; congr 1; simp; omega) | skip
  all_goals (have hb' := st.hs.blk _ (List.mem_cons_self); exact ⟨st.kp.os, st.kp.tape, st.kp.output, st.kp.size, fun k hk _ => by
    by_cases h : k = b
    · subst h; exact hb'.trans hb.symm
    · exact st.kp.block k hk (by simpa using h)⟩)

set_option maxHeartbeats 1000000 in
theorem c_IndexFunc {f : FuncId} [TF Try.prog f] {fst cap : Array Value} (pred : Int → Bool) (w : World) (E : Value) (n : Nat) (xs : List Int) (hE : WI w E n xs) (hn : n < 9223372036854775807)
    (hcl : ∀ x w', Kp [] w w' → Calls Try.prog f (fst ++ #[iv x] ++ cap) w' (Ret fun v w'' => Kp [] w' w'' ∧ v = .bool (pred x))) :
    Calls Try.prog 72 #[E, .func (.func f) fst cap] w (Ret fun v w' => Kp [] w w' ∧ ∃ i : Int, v = iv i ∧ (0 ≤ i ↔ ∃ x ∈ xs, pred x = true)) := by
  refine calls_of_S [] [] (by simp) [] Try.func72 rfl mixed (by kernel_rfl) Try.ntmps72 Try.results72 rfl ⟨by simp, by simp⟩ (by simp) ?_
  simp only [toS, textOps, toSOp, kindAt, kindOf, odAt, sopsAt, ordOf, zipF]
  have hR := WI.rd (c := ⟨Try.prog, 19, w, [], by simp⟩) hE rfl []
  (repeat' (first | refine JC.seq ?_ | refine JC.ops ?_ | refine JO.nil ?_ | refine JX.thenN ?_ | (apply r_move; exact rfl; exact rfl; exact rfl) | (apply r_assign; exact rfl; exact rfl; exact rfl) | (apply r_lenI; exact rfl; exact rfl; exact rfl; (first | assumption | exact WI.rd (by assumption) rfl [] | exact OwnI.rd (by assumption))) | refine JC.block ?_))
  refine JC.loopH (ι := Nat) ⟨fun k => [(8, nv k), (7, nv n), (0, E), (1, .func (.func f) fst cap)], fun _ => [], fun k => k ≤ n ∧ ∀ i, i < k → pred (xs.getD i 0) = false, fun k => n - k⟩ 0 ⟨by omega, fun i h => by omega⟩ ⟨rfl, rfl, rfl, rfl, trivial⟩ (HSub.nil _) (fun k hk => ?_)
  obtain ⟨hkn, hpr⟩ := hk
  dsimp only
  (repeat' (first | refine JC.seq ?_ | refine JC.ops ?_ | refine JO.nil ?_ | refine JX.thenN ?_ | (apply r_move; exact rfl; exact rfl; exact rfl) | (apply r_assign; exact rfl; exact rfl; exact rfl) | (apply r_idxI; exact rfl; exact rfl; exact rfl; exact rfl; (first | assumption | exact WI.rd (by assumption) rfl [] | exact OwnI.rd (by assumption)); (first | assumption | omega)) | (apply r_ldI; exact rfl; exact rfl; exact rfl; exact rfl; (first | assumption | exact WI.rd (by assumption) rfl [] | exact OwnI.rd (by assumption)); (repeat' first | exact HSub.nil _ | exact HSub.hd | exact HSub.in0 | exact HSub.refl _ | refine HSub.skip ?_ | refine HSub.skipN ?_); (first | assumption | omega)) | (apply r_lss; exact rfl; exact rfl; exact rfl; exact rfl; all_goals intro hc; all_goals try (exfalso; omega)) | refine JX.thenE ?_ | refine JC.skip ?_ | refine JC.exit ?_ | refine JC.ret ?_ | refine JC.condT rfl ?_ | refine JC.condF rfl ?_ | refine JC.block ?_ | refine JX.blockE ?_))
  · refine r_callV0 trivial rfl rfl rfl rfl (fun w' hk _ => hcl _ w' hk) fun w v w' _ _ _ hv => ?_
    subst hv
    cases hp : pred (xs.getD k 0)
    · (repeat' (first | refine JC.ops ?_ | refine JO.nil ?_ | refine JX.thenN ?_ | (apply r_move; exact rfl; exact rfl; exact rfl) | (apply r_add1; exact rfl; exact rfl; exact rfl; exact rfl; omega) | refine JC.skip ?_ | refine JC.condF rfl ?_ | refine JX.blockN ?_))
      refine JX.roundH (k + 1) ⟨by omega, fun i h => ?_⟩ (by dsimp only; omega) ⟨rfl, rfl, rfl, rfl, trivial⟩ (HSub.nil _)
      rcases Nat.lt_or_ge i k with h' | h'
      · exact hpr i h'
      · have : i = k := by omega
        subst this; exact hp
    · (repeat' (first | refine JC.seq ?_ | refine JC.ops ?_ | refine JO.nil ?_ | refine JX.thenN ?_ | (apply r_move; exact rfl; exact rfl; exact rfl) | (apply r_assign; exact rfl; exact rfl; exact rfl) | refine JX.thenR ?_ | refine JC.ret ?_ | refine JC.condT rfl ?_ | refine JX.blockR ?_))
      exact JX.ret1 rfl (fun a w' st => ⟨st.kp, k, rfl, ⟨fun _ => ⟨_, mem_getD (by rw [hR.len]; omega), hp⟩, fun _ => by omega⟩⟩)
  · exact JX.ret1 rfl (fun a w' st => ⟨st.kp, -1, rfl, ⟨fun h => by omega, fun ⟨x, hx, hp⟩ => by
      obtain ⟨i, hi, rfl⟩ := List.mem_iff_getElem.1 hx
      have := hpr i (by rw [hR.len] at hi; omega)
      simp only [List.getD, List.getElem?_eq_getElem hi, Option.getD_some] at this
      rw [this] at hp; cases hp⟩⟩)

theorem c_ContainsFunc {f : FuncId} [TF Try.prog f] {fst cap : Array Value} (pred : Int → Bool) (w : World) (E : Value) (n : Nat) (xs : List Int) (hE : WI w E n xs) (hn : n < 9223372036854775807)
    (hcl : ∀ x w', Kp [] w w' → Calls Try.prog f (fst ++ #[iv x] ++ cap) w' (Ret fun v w'' => Kp [] w' w'' ∧ v = .bool (pred x))) :
    Calls Try.prog 57 #[E, .func (.func f) fst cap] w (Ret fun v w' => Kp [] w w' ∧ BoolIs (∃ x ∈ xs, pred x = true) v) := by
  refine calls_of_S [] [] (by simp) [] Try.func57 rfl mixed (by kernel_rfl) Try.ntmps57 Try.results57 rfl ⟨by simp, by simp⟩ (by simp) ?_
  simp only [toS, textOps, toSOp, kindAt, kindOf, odAt, sopsAt, ordOf, zipF]
  (repeat' (first | refine JC.seq ?_ | refine JC.ops ?_ | refine JO.nil ?_ | refine JX.thenN ?_ | (apply r_move; exact rfl; exact rfl; exact rfl) | (apply r_assign; exact rfl; exact rfl; exact rfl)))
  refine r_call0 trivial rfl rfl rfl (fun w' hk _ => c_IndexFunc pred w' E n xs (hE.mono hk) hn (fun x w'' hk' => hcl x w'' (hk.trans hk'))) fun w v w' _ _ _ hv => ?_
  obtain ⟨i, rfl, hi⟩ := hv
  (repeat' (first | refine JO.nil ?_ | refine JX.thenN ?_ | (apply r_assign; exact rfl; exact rfl; exact rfl) | (apply r_geq; exact rfl; exact rfl; exact rfl; exact rfl; all_goals intro hc; all_goals try (exfalso; omega)) | refine JC.ret ?_))
  all_goals refine JX.ret1 rfl (fun a w' st => ⟨st.kp, ?_⟩)
  · exact BoolIs.t (hi.1 (by omega))
  · exact BoolIs.f (fun h => hc (hi.2 h))

theorem not_fits_not_right {a : FM} (h : ¬ Fits a.P a.R a.C) : ¬ RF a := fun h' => h h'.fits

set_option maxHeartbeats 1000000 in
theorem c_Right (w : World) (v : Value) (a : FM) (ha : IsF w v a) (hl : a.E.length < 9223372036854775807) : Calls Try.prog 33 #[v] w (Ret fun v w' => Kp [] w w' ∧ BoolIs (RF a) v) := by
  obtain ⟨E, rfl, hE⟩ := ha
  unfold fmV
  refine calls_of_S [] [] (by simp) [] Try.func33 rfl mixed (by kernel_rfl) Try.ntmps33 Try.results33 rfl ⟨by simp, by simp⟩ (by simp) ?_
  simp only [toS, textOps, toSOp, kindAt, kindOf, odAt, sopsAt, ordOf, zipF]
  have hR := WI.rd (c := ⟨Try.prog, 28, w, [], by simp⟩) hE rfl []
  (repeat' (first | refine JC.seq ?_ | refine JC.ops ?_ | refine JO.nil ?_ | refine JX.thenN ?_ | (apply r_fieldAddr; exact rfl; exact rfl; exact rfl) | (apply r_assign; exact rfl; exact rfl; exact rfl) | (apply r_load; exact rfl; exact rfl; exact rfl; exact rfl; (first | exact at0 | exact at1 | exact at2 | exact at3 | exact at4 | exact at5 | exact at6 | exact at7); exact rfl) | (apply r_boxA; exact rfl; exact rfl; exact rfl; exact rfl; intro _)))
  refine r_call0 trivial rfl rfl rfl (fun w _ _ => c_fits a.P a.R a.C w) fun w v w' _ _ _ hv => ?_
  obtain ⟨b', rfl, hb⟩ := hv
  by_cases hf : Fits a.P a.R a.C
  · obtain rfl := hb.2 hf
    obtain ⟨p, r, c, E'⟩ := a
    obtain ⟨p, r, c, rfl, rfl, rfl, hp, hr, hc⟩ := hf
    dsimp only at *
    have hrc := rc_le hr hc
    have hiff := RF.iff (E := E') hp hr hc
    (repeat' (first | refine JO.nil ?_ | refine JX.thenN ?_ | (apply r_move; exact rfl; exact rfl; exact rfl) | (apply r_fieldAddr; exact rfl; exact rfl; exact rfl) | (apply r_assign; exact rfl; exact rfl; exact rfl) | (apply r_load; exact rfl; exact rfl; exact rfl; exact rfl; (first | exact at0 | exact at1 | exact at2 | exact at3 | exact at4 | exact at5 | exact at6 | exact at7); exact rfl) | (apply r_lenI; exact rfl; exact rfl; exact rfl; (first | assumption | exact WI.rd (by assumption) rfl [] | exact OwnI.rd (by assumption))) | (apply r_mulN; exact rfl; exact rfl; exact rfl; exact rfl; (first | assumption | omega)) | (apply r_pickT; exact rfl; exact rfl; exact rfl; exact rfl) | (apply r_pickF; exact rfl; exact rfl; exact rfl; exact rfl) | (apply r_eql; exact rfl; exact rfl; exact rfl; exact rfl; all_goals intro hc; all_goals try (exfalso; omega)) | (apply r_makeFunc; exact rfl; exact rfl; exact rfl; exact rfl) | refine JC.ret ?_ | (apply r_skip; exact rfl; exact rfl; (first | (intro h; cases h; done) | (intro _; rfl)))))
    · refine r_call0 trivial rfl rfl rfl (fun w' hk hs => c_ContainsFunc (outside p) w' E _ _ (hE.mono hk) hl (fun x w'' hk' => c_Right1 w'' _ p r c E x (by
        have := (hs.kp hk' (by simp)).blk _ (List.mem_cons_self)
        exact this))) fun w v w' _ _ _ hv => ?_
      obtain ⟨b', rfl, hb'⟩ := hv
      cases b'
      · (repeat' (first | refine JO.nil ?_ | refine JX.thenN ?_ | (apply r_assign; exact rfl; exact rfl; exact rfl) | (apply r_pickT; exact rfl; exact rfl; exact rfl; exact rfl) | (apply r_not; exact rfl; exact rfl; exact rfl) | refine JC.ret ?_))
        refine JX.ret1 rfl (fun a w' st => ⟨st.kp, BoolIs.t (hiff.2 ⟨by omega, fun x hx => ?_⟩)⟩)
        have : ¬ (outside p x = true) := fun h => by cases hb'.2 ⟨x, hx, h⟩
        simp only [outside, decide_eq_true_eq] at this
        omega
      · (repeat' (first | refine JO.nil ?_ | refine JX.thenN ?_ | (apply r_assign; exact rfl; exact rfl; exact rfl) | (apply r_pickT; exact rfl; exact rfl; exact rfl; exact rfl) | (apply r_not; exact rfl; exact rfl; exact rfl) | refine JC.ret ?_))
        refine JX.ret1 rfl (fun a w' st => ⟨st.kp, BoolIs.f fun h => ?_⟩)
        obtain ⟨x, hx, ho⟩ := hb'.1 rfl
        have := (hiff.1 h).2 x hx
        simp only [outside, decide_eq_true_eq] at ho
        omega
    · refine JX.ret1 rfl (fun a w' st => ⟨st.kp, BoolIs.f fun h => ?_⟩)
      have := (hiff.1 h).1
      omega
  · have : b' = false := by
      cases b' with
      | false => rfl
      | true => exact absurd (hb.1 rfl) hf
    subst this
    (repeat' (first | refine JO.nil ?_ | refine JX.thenN ?_ | (apply r_move; exact rfl; exact rfl; exact rfl) | (apply r_assign; exact rfl; exact rfl; exact rfl) | (apply r_pickF; exact rfl; exact rfl; exact rfl; exact rfl) | refine JC.ret ?_ | (apply r_skip; exact rfl; exact rfl; (first | (intro h; cases h; done) | (intro _; rfl)))))
    exact JX.ret1 rfl (fun a w' st => ⟨st.kp, BoolIs.f (not_fits_not_right hf)⟩)

end Go.Proofs.Ytdoogoglfbohaaa
