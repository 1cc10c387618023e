/- The quotient, the remainder and the dividend. Written by genW8.py. -/
import Derived.Test.YtdehklhdjbkneaaDoorWiE
namespace Go.Proofs.YtdehklhdjbkneaaDoor
open Go Go.RowKit
set_option linter.unusedSimpArgs false
set_option linter.unusedVariables false
set_option linter.unusedSectionVars false

theorem rem_bounds (a b : Int) (h : b ≠ 0) : (a / b).natAbs ≤ a.natAbs + b.natAbs ∧ 0 ≤ a % b ∧ a % b < b.natAbs := by
  have h1 := Int.emod_nonneg a h
  have h2 : a % b < b.natAbs := by
    rcases Int.lt_or_gt_of_ne h with h0 | h0
    · have h9 := Int.emod_lt_of_pos a (show 0 < -b by omega)
      rw [Int.emod_neg] at h9
      omega
    · have h9 := Int.emod_lt_of_pos a h0
      omega
  refine ⟨?_, h1, h2⟩
  have h3 := Int.mul_ediv_add_emod a b
  have h4 : (b * (a / b)).natAbs ≤ a.natAbs + b.natAbs := by omega
  rw [Int.natAbs_mul] at h4
  exact Nat.le_trans (Nat.le_mul_of_pos_left _ (Int.natAbs_pos.2 h)) h4
theorem sign_sub_self (a : Int) : (a - a).sign = 0 := by rw [Int.sub_self]; rfl

set_option maxHeartbeats 8000000 in
theorem c_WideRemainders (w : World) (v0 v1 : Value) (h0 : IsNum w v0) (h1 : IsNum w v1) :
    Calls Tryd.prog 9 #[v0, v1] w (Ret fun v w' => Kp [] w w' ∧ v = .bool true) := by
  obtain ⟨x0, x1, x2, rfl⟩ := h0.form
  obtain ⟨y0, y1, y2, rfl⟩ := h1.form
  refine calls_of_S [⟨9, 1, [0, 1, 2, 3, 4, 5, 6, 8, 10, 7, 9, 11, 12, 13, 14, 15, 16, 17, 18, 19, 20, 21, 22, 23, 24, 25], []⟩] [] (by simp) [] Tryd.func9 rfl mixed (by kernel_rfl) Tryd.ntmps9 Tryd.results9 rfl ⟨by simp, by simp⟩ (by simp) ?_
  simp only [toS, textOps, toSOp, kindAt, kindOf, odAt, sopsAt, ordOf, zipF]
  (repeat' (first | refine JC.seq ?_ | refine JC.ops ?_ | refine JO.nil ?_ | refine JX.thenN ?_ | (apply r_assign; exact rfl; exact rfl; exact rfl) | (apply r_boxA; exact rfl; exact rfl; exact rfl; exact rfl; intro _)))
  refine r_call0 (by first | trivial | exact ⟨rfl, rfl⟩) rfl rfl rfl (fun w hk hs => c_sanity w) fun w v w' _ _ _ hR => ?_
  subst hR
  (repeat' (first | refine JC.seq ?_ | refine JC.ops ?_ | refine JO.nil ?_ | refine JX.thenN ?_ | (apply r_assign; exact rfl; exact rfl; exact rfl) | (apply r_loadN; exact rfl; exact rfl; exact rfl; exact rfl; (first | exact at0 | exact at1 | exact at2 | exact at3 | exact at4 | exact at5 | exact at6 | exact at7 | exact at8 | exact at9); exact rfl)))
  refine r_call0 (by first | trivial | exact ⟨rfl, rfl⟩) rfl rfl rfl (fun w hk hs => c_Num w _ (h0.mono hk)) fun w v w' _ _ _ hR => ?_
  obtain ⟨a, p0, l0, rfl, hl0, hn0⟩ := hR
  have Za : IsZ (wv p0 l0) a 40 := ⟨p0, l0, rfl, hl0, hn0⟩
  (repeat' (first | refine JC.seq ?_ | refine JC.ops ?_ | refine JO.nil ?_ | refine JX.thenN ?_ | (apply r_loadN; exact rfl; exact rfl; exact rfl; exact rfl; (first | exact at0 | exact at1 | exact at2 | exact at3 | exact at4 | exact at5 | exact at6 | exact at7 | exact at8 | exact at9); exact rfl) | (apply r_storeN; exact rfl; (first | exact trivial | exact ⟨rfl, rfl⟩); exact rfl; exact rfl; (first | exact at0 | exact at1 | exact at2 | exact at3 | exact at4 | exact at5 | exact at6 | exact at7 | exact at8 | exact at9); exact rfl; exact rfl; exact rfl) | (apply r_allocZ; exact rfl; exact rfl; exact rfl; intro _) | (apply r_storeN; exact rfl; (first | exact trivial | exact ⟨rfl, rfl⟩); exact rfl; exact rfl; (first | exact at0 | exact at1 | exact at2 | exact at3 | exact at4 | exact at5 | exact at6 | exact at7 | exact at8 | exact at9); exact rfl; exact rfl; exact rfl)))
  refine r_call0 (by first | trivial | exact ⟨rfl, rfl⟩) rfl rfl rfl (fun w hk hs => c_Num w _ (h1.mono hk)) fun w v w' _ _ _ hR => ?_
  obtain ⟨b, p1, l1, rfl, hl1, hn1⟩ := hR
  have Zb : IsZ (wv p1 l1) b 40 := ⟨p1, l1, rfl, hl1, hn1⟩
  (repeat' (first | refine JC.seq ?_ | refine JC.ops ?_ | refine JO.nil ?_ | refine JX.thenN ?_ | (apply r_loadN; exact rfl; exact rfl; exact rfl; exact rfl; (first | exact at0 | exact at1 | exact at2 | exact at3 | exact at4 | exact at5 | exact at6 | exact at7 | exact at8 | exact at9); exact rfl) | (apply r_storeN; exact rfl; (first | exact trivial | exact ⟨rfl, rfl⟩); exact rfl; exact rfl; (first | exact at0 | exact at1 | exact at2 | exact at3 | exact at4 | exact at5 | exact at6 | exact at7 | exact at8 | exact at9); exact rfl; exact rfl; exact rfl) | (apply r_allocZ; exact rfl; exact rfl; exact rfl; intro _) | (apply r_storeN; exact rfl; (first | exact trivial | exact ⟨rfl, rfl⟩); exact rfl; exact rfl; (first | exact at0 | exact at1 | exact at2 | exact at3 | exact at4 | exact at5 | exact at6 | exact at7 | exact at8 | exact at9); exact rfl; exact rfl; exact rfl)))
  have zA := Za.mono (show 40 ≤ 1000 by decide)
  have zB := Zb.mono (show 40 ≤ 1000 by decide)
  refine r_call0 (by first | trivial | exact ⟨rfl, rfl⟩) rfl rfl rfl (fun w hk hs => c_Quo w _ _ a b 40 Za Zb (by decide)) fun w v w' _ _ _ hR => ?_
  by_cases hb0 : b = 0
  · rw [if_pos hb0] at hR
    subst hR
    (repeat' (first | refine JC.seq ?_ | refine JC.ops ?_ | refine JO.nil ?_ | refine JX.thenN ?_ | (apply r_move; exact rfl; exact rfl; exact rfl) | (apply r_assign; exact rfl; exact rfl; exact rfl) | (apply r_loadN; exact rfl; exact rfl; exact rfl; exact rfl; (first | exact at0 | exact at1 | exact at2 | exact at3 | exact at4 | exact at5 | exact at6 | exact at7 | exact at8 | exact at9); exact rfl) | (apply r_extract; exact rfl; exact rfl; exact rfl; exact rfl) | (apply r_storeN; exact rfl; (first | exact trivial | exact ⟨rfl, rfl⟩); exact rfl; exact rfl; (first | exact at0 | exact at1 | exact at2 | exact at3 | exact at4 | exact at5 | exact at6 | exact at7 | exact at8 | exact at9); exact rfl; exact rfl; exact rfl) | (apply r_allocZ; exact rfl; exact rfl; exact rfl; intro _) | (apply r_storeN; exact rfl; (first | exact trivial | exact ⟨rfl, rfl⟩); exact rfl; exact rfl; (first | exact at0 | exact at1 | exact at2 | exact at3 | exact at4 | exact at5 | exact at6 | exact at7 | exact at8 | exact at9); exact rfl; exact rfl; exact rfl)))
    refine r_call0 (by first | trivial | exact ⟨rfl, rfl⟩) rfl rfl rfl (fun w hk hs => c_Sign w _ b 1000 zB (by decide)) fun w v w' _ _ _ hR => ?_
    rw [hb0] at hR
    obtain rfl : v = iv 0 := hR
    (repeat' (first | refine JC.seq ?_ | refine JC.ops ?_ | refine JO.nil ?_ | refine JX.thenN ?_ | (apply r_move; exact rfl; exact rfl; exact rfl) | (apply r_loadN; exact rfl; exact rfl; exact rfl; exact rfl; (first | exact at0 | exact at1 | exact at2 | exact at3 | exact at4 | exact at5 | exact at6 | exact at7 | exact at8 | exact at9); exact rfl) | (apply r_pickT; exact rfl; exact rfl; exact rfl; exact rfl) | (apply r_not; exact rfl; exact rfl; exact rfl) | (apply r_eql; exact rfl; exact rfl; exact rfl; exact rfl; all_goals intro hc; all_goals try (exfalso; omega)) | (apply r_buildL; exact rfl; exact rfl; exact rfl; exact rfl; exact rfl) | refine JC.condT rfl ?_))
    refine r_eqWT (a := 0) (b := 0) rfl (by first | rfl | exact ⟨rfl, rfl⟩) rfl rfl rfl ?_
    (repeat' (first | (apply r_move; exact rfl; exact rfl; exact rfl) | (apply r_loadN; exact rfl; exact rfl; exact rfl; exact rfl; (first | exact at0 | exact at1 | exact at2 | exact at3 | exact at4 | exact at5 | exact at6 | exact at7 | exact at8 | exact at9); exact rfl) | (apply r_pickT; exact rfl; exact rfl; exact rfl; exact rfl) | (apply r_buildL; exact rfl; exact rfl; exact rfl; exact rfl; exact rfl)))
    refine r_eqWT (a := 0) (b := 0) rfl (by first | rfl | exact ⟨rfl, rfl⟩) rfl rfl rfl ?_
    (repeat' (first | refine JO.nil ?_ | refine JX.thenN ?_ | (apply r_assign; exact rfl; exact rfl; exact rfl) | (apply r_pickT; exact rfl; exact rfl; exact rfl; exact rfl) | refine JX.thenR ?_ | refine JC.ret ?_))
    exact JX.ret1 rfl (fun a w' st => ⟨st.kp, rfl⟩)
  · rw [if_neg hb0] at hR
    subst hR
    (repeat' (first | refine JC.seq ?_ | refine JC.ops ?_ | refine JO.nil ?_ | refine JX.thenN ?_ | (apply r_move; exact rfl; exact rfl; exact rfl) | (apply r_assign; exact rfl; exact rfl; exact rfl) | (apply r_loadN; exact rfl; exact rfl; exact rfl; exact rfl; (first | exact at0 | exact at1 | exact at2 | exact at3 | exact at4 | exact at5 | exact at6 | exact at7 | exact at8 | exact at9); exact rfl) | (apply r_extract; exact rfl; exact rfl; exact rfl; exact rfl) | (apply r_storeN; exact rfl; (first | exact trivial | exact ⟨rfl, rfl⟩); exact rfl; exact rfl; (first | exact at0 | exact at1 | exact at2 | exact at3 | exact at4 | exact at5 | exact at6 | exact at7 | exact at8 | exact at9); exact rfl; exact rfl; exact rfl) | (apply r_allocZ; exact rfl; exact rfl; exact rfl; intro _) | (apply r_storeN; exact rfl; (first | exact trivial | exact ⟨rfl, rfl⟩); exact rfl; exact rfl; (first | exact at0 | exact at1 | exact at2 | exact at3 | exact at4 | exact at5 | exact at6 | exact at7 | exact at8 | exact at9); exact rfl; exact rfl; exact rfl)))
    have hs : b.sign ≠ 0 := fun h => hb0 (Int.sign_eq_zero_iff_zero.1 h)
    refine r_call0 (by first | trivial | exact ⟨rfl, rfl⟩) rfl rfl rfl (fun w hk hs => c_Sign w _ b 1000 zB (by decide)) fun w v w' _ _ _ hR => ?_
    generalize b.sign = sb at hs hR
    subst hR
    (repeat' (first | refine JC.seq ?_ | refine JC.ops ?_ | refine JC.opsD ?_ | refine JO.nil ?_ | refine JX.thenN ?_ | (apply r_move; exact rfl; exact rfl; exact rfl) | (apply r_fieldAddr; exact rfl; exact rfl; exact rfl) | (apply r_loadN; exact rfl; exact rfl; exact rfl; exact rfl; (first | exact at0 | exact at1 | exact at2 | exact at3 | exact at4 | exact at5 | exact at6 | exact at7 | exact at8 | exact at9); exact rfl) | (apply r_pickT; exact rfl; exact rfl; exact rfl; exact rfl) | (apply r_storeN; exact rfl; (first | exact trivial | exact ⟨rfl, rfl⟩); exact rfl; exact rfl; (first | exact at0 | exact at1 | exact at2 | exact at3 | exact at4 | exact at5 | exact at6 | exact at7 | exact at8 | exact at9); exact rfl; exact rfl; exact rfl) | (apply r_eql; exact rfl; exact rfl; exact rfl; exact rfl; all_goals intro hc; all_goals try (exfalso; omega)) | (apply r_allocZ; exact rfl; exact rfl; exact rfl; intro _) | (apply r_storeN; exact rfl; (first | exact trivial | exact ⟨rfl, rfl⟩); exact rfl; exact rfl; (first | exact at0 | exact at1 | exact at2 | exact at3 | exact at4 | exact at5 | exact at6 | exact at7 | exact at8 | exact at9); exact rfl; exact rfl; exact rfl) | (apply r_store; exact rfl; (first | exact trivial | exact ⟨rfl, rfl⟩); exact rfl; exact rfl; (first | exact at0 | exact at1 | exact at2 | exact at3 | exact at4 | exact at5 | exact at6 | exact at7 | exact at8 | exact at9); exact rfl; exact rfl; (first | exact Nat.le_of_ble_eq_true rfl | (simp; done) | omega)) | refine JC.skip ?_ | refine JC.condF rfl ?_))
    have hl := rem_bounds a b hb0
    have zQ : IsZ (Wv (a / b)) (a / b) 1000 := (IsZ.can (k := 41) (Nat.lt_of_le_of_lt hl.1 (two_pow_lt Za.lt Zb.lt))).mono (by decide)
    have zR : IsZ (Wv (a % b)) (a % b) 1000 := (IsZ.can (k := 40) (by have := Zb.lt; omega)).mono (by decide)
    have zL : IsZ (wv false l1) (bval (bts l1)) 1000 := ⟨false, l1, rfl, by omega, rfl⟩
    have hbl : (bval (bts l1) : Int) = b.natAbs := by rw [hn1, sgn_natAbs]
    have zM : IsZ (Wv (a / b * b)) (a / b * b) 1000 := ((IsZ.can (k := 41) (Nat.lt_of_le_of_lt hl.1 (two_pow_lt Za.lt Zb.lt))).mul Zb).mono (show 41 + 40 ≤ 1000 by decide)
    have zS : IsZ (Wv (a / b * b + a % b)) (a / b * b + a % b) 1000 := by rw [Int.mul_comm, Int.mul_ediv_add_emod]; exact Za.canon.mono (by decide)
    have c1 : (a / b * b + a % b - a).sign = 0 := by rw [Int.mul_comm, Int.mul_ediv_add_emod]; exact sign_sub_self a
    have c2 : (a % b - (bval (bts l1) : Int)).sign = -1 := Int.sign_eq_neg_one_iff_neg.2 (by omega)
    have c3 : 0 ≤ (a % b).sign := Int.sign_nonneg_iff.2 hl.2.1
    refine r_call0 (by first | trivial | exact ⟨rfl, rfl⟩) rfl rfl rfl (fun w hk hs => c_Mul w _ _ (a / b) b 1000 zQ zB (by decide)) fun w v w' _ _ _ hR => ?_
    subst hR
    skip
    refine r_call0 (by first | trivial | exact ⟨rfl, rfl⟩) rfl rfl rfl (fun w hk hs => c_Add w _ _ (a / b * b) (a % b) 1000 zM zR (by decide)) fun w v w' _ _ _ hR => ?_
    subst hR
    skip
    refine r_call0 (by first | trivial | exact ⟨rfl, rfl⟩) rfl rfl rfl (fun w hk hs => c_Cmp w _ _ (a / b * b + a % b) a 1000 zS zA (by decide)) fun w v w' _ _ _ hR => ?_
    rw [c1] at hR
    subst hR
    (repeat' (first | (apply r_move; exact rfl; exact rfl; exact rfl) | (apply r_loadN; exact rfl; exact rfl; exact rfl; exact rfl; (first | exact at0 | exact at1 | exact at2 | exact at3 | exact at4 | exact at5 | exact at6 | exact at7 | exact at8 | exact at9); exact rfl) | (apply r_pickT; exact rfl; exact rfl; exact rfl; exact rfl) | (apply r_eql; exact rfl; exact rfl; exact rfl; exact rfl; all_goals intro hc; all_goals try (exfalso; omega))))
    refine r_call0 (by first | trivial | exact ⟨rfl, rfl⟩) rfl rfl rfl (fun w hk hs => c_Cmp w _ _ (a % b) _ 1000 zR zL (by decide)) fun w v w' _ _ _ hR => ?_
    rw [c2] at hR
    subst hR
    (repeat' (first | (apply r_move; exact rfl; exact rfl; exact rfl) | (apply r_loadN; exact rfl; exact rfl; exact rfl; exact rfl; (first | exact at0 | exact at1 | exact at2 | exact at3 | exact at4 | exact at5 | exact at6 | exact at7 | exact at8 | exact at9); exact rfl) | (apply r_pickT; exact rfl; exact rfl; exact rfl; exact rfl) | (apply r_lss; exact rfl; exact rfl; exact rfl; exact rfl; all_goals intro hc; all_goals try (exfalso; omega))))
    refine r_call0 (by first | trivial | exact ⟨rfl, rfl⟩) rfl rfl rfl (fun w hk hs => c_Sign w _ _ 1000 zR (by decide)) fun w v w' _ _ _ hR => ?_
    generalize (a % b).sign = sr at c3 hR
    subst hR
    (repeat' (first | refine JO.nil ?_ | refine JX.thenN ?_ | (apply r_assign; exact rfl; exact rfl; exact rfl) | (apply r_pickT; exact rfl; exact rfl; exact rfl; exact rfl) | (apply r_geq; exact rfl; exact rfl; exact rfl; exact rfl; all_goals intro hc; all_goals try (exfalso; omega)) | refine JC.ret ?_))
    exact JX.ret1 rfl (fun a w' st => ⟨st.kp, rfl⟩)

end Go.Proofs.YtdehklhdjbkneaaDoor
