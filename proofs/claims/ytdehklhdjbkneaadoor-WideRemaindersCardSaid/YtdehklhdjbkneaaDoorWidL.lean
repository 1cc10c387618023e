/- Words shifted up. -/
import Derived.Test.YtdehklhdjbkneaaDoorExX
namespace Go.Proofs.YtdehklhdjbkneaaDoor
open Go Go.RowKit
set_option linter.unusedSimpArgs false
set_option linter.unusedVariables false
set_option linter.unusedSectionVars false

/-- A word times a power, its lower half. -/
theorem low_shift (a n : Nat) (hn : n ≤ 32) : a * 2 ^ n % 4294967296 = 2 ^ n * (a % 2 ^ (32 - n)) := by
  have e : (4294967296 : Nat) = 2 ^ (32 - n) * 2 ^ n := by rw [← Nat.pow_add, show 32 - n + n = 32 by omega]
  rw [e, Nat.mul_mod_mul_right, Nat.mul_comm]
theorem or_low {c n a : Nat} (hn : n ≤ 32) (hc : c < 2 ^ n) : c ||| a * 2 ^ n % 4294967296 = c + a * 2 ^ n % 4294967296 := by
  rw [low_shift a n hn, Nat.or_comm, ← Nat.two_pow_add_eq_or_of_lt hc, Nat.add_comm]
theorem or32_lt {a b : Nat} (ha : a < 4294967296) (hb : b < 4294967296) : a ||| b < 4294967296 := Nat.or_lt_two_pow (n := 32) (by simpa using ha) (by simpa using hb)
theorem pow31 {n : Nat} (hn : n ≤ 31) : 2 ^ n ≤ 2147483648 := by
  have := Nat.pow_le_pow_right (n := 2) (by decide) hn
  simpa using this

set_option maxHeartbeats 8000000 in
theorem c_shift (w : World) (v : Value) (n s : Nat) (xs : List Nat) (hv : WU w v n xs) (hx : ∀ x ∈ xs, x < W32) (hs31 : s ≤ 31) (hn : n ≤ 1000000) :
    Calls Tryd.prog 65 #[v, nv s] w (Ret fun v w' => Kp [] w w' ∧ ∃ N zs, New N w w' ∧ OwnU N v (n + 1) zs ∧ (∀ x ∈ zs, x < W32) ∧ zs.getD n 0 < 2 ^ s ∧ val W32 zs = 2 ^ s * val W32 xs) := by
  have hlx := hv.len
  have hp := pow31 hs31
  have hp0 : 0 < 2 ^ s := Nat.pow_pos (by decide)
  refine calls_of_S [] [] (by simp) [] Tryd.func65 rfl mixed (by kernel_rfl) Tryd.ntmps65 Tryd.results65 rfl ⟨by simp, by simp⟩ (by simp) ?_
  simp only [toS, textOps, toSOp, kindAt, kindOf, odAt, sopsAt, ordOf, zipF]
  (repeat' (first | refine JC.seq ?_ | refine JC.ops ?_ | refine JO.nil ?_ | refine JX.thenN ?_ | (apply r_move; exact rfl; exact rfl; exact rfl) | (apply r_assign; exact rfl; exact rfl; exact rfl) | (apply r_add1; exact rfl; exact rfl; exact rfl; exact rfl; omega) | (apply r_lenU; exact rfl; exact rfl; exact rfl; (first | assumption | exact WU.rd (by assumption) rfl [] | exact OwnU.rd (by assumption)))))
  refine r_make (n := n + 1) rfl rfl rfl rfl rfl (by omega) (by omega) (fun b5 => ?_)
  have hO := own_zerosU b5 (n + 1) (by simp only [maxLen]; omega)
  (repeat' (first | refine JC.seq ?_ | refine JC.ops ?_ | refine JO.nil ?_ | refine JX.thenN ?_ | (apply r_move; exact rfl; exact rfl; exact rfl) | (apply r_assign; exact rfl; exact rfl; exact rfl) | (apply r_lenU; exact rfl; exact rfl; exact rfl; (first | assumption | exact WU.rd (by assumption) rfl [] | exact OwnU.rd (by assumption))) | refine JC.block ?_))
  refine JC.loopH (ι := Nat × SHeap × List Nat) ⟨fun z => [(14, nv z.1), (13, nv n), (12, v), (5, .slice (some ⟨b5, 0, none⟩) (n + 1) (n + 1)), (0, v), (1, nv s)], fun z => z.2.1 ++ [],
    fun z => z.1 ≤ n ∧ OwnU z.2.1 (.slice (some ⟨b5, 0, none⟩) (n + 1) (n + 1)) (n + 1) z.2.2 ∧ (∀ x ∈ z.2.2, x < W32) ∧ z.2.2.getD z.1 0 < 2 ^ s ∧ val W32 z.2.2 = 2 ^ s * val W32 (xs.take z.1) ∧ ∀ j, z.1 < j → z.2.2.getD j 0 = 0, fun z => n - z.1⟩
    (0, _, _) ⟨Nat.zero_le _, hO, fun x hx => by obtain ⟨a, _, rfl⟩ := List.mem_map.1 hx; decide, by
      show (tab (n + 1) fun _ => 0).getD 0 0 < 2 ^ s
      rw [tab_zero]; exact hp0, by
      show val W32 (tab (n + 1) fun _ => 0) = _
      rw [val_zeros]; simp [val], fun j _ => tab_zero _ j⟩ (by repeat first | exact trivial | refine ⟨rfl, ?_⟩) (by (first | exact HSub.refl _ | (repeat' first | exact HSub.nil _ | exact HSub.refl _ | refine HSub.at 0 rfl ?_ | refine HSub.at 1 rfl ?_ | refine HSub.at 2 rfl ?_ | refine HSub.at 3 rfl ?_ | refine HSub.at 4 rfl ?_ | refine HSub.at 5 rfl ?_ | refine HSub.at 6 rfl ?_ | refine HSub.at 7 rfl ?_))) (fun z hz => ?_)
  clear hO
  obtain ⟨i, N, zs⟩ := z
  obtain ⟨hi, hO, hz, hci, hval, hzero⟩ := hz
  dsimp only at hi hO hz hci hval hzero ⊢
  have hlz := hO.len
  by_cases hin : i < n
  · have hxi : xs.getD i 0 < 4294967296 := mem_getD_lt (b := W32) (by decide) hx i
    have hzi : zs.getD i 0 < 4294967296 := mem_getD_lt (b := W32) (by decide) hz i
    have hwb : xs.getD i 0 * 2 ^ s < 9223372036854775808 := by
      have := Nat.mul_le_mul (show xs.getD i 0 ≤ 4294967295 by omega) hp
      omega
    have hlow : xs.getD i 0 * 2 ^ s % 4294967296 < 4294967296 := Nat.mod_lt _ (by decide)
    have hor := or_low (c := zs.getD i 0) (n := s) (a := xs.getD i 0) (by omega) hci
    have horlt : zs.getD i 0 + xs.getD i 0 * 2 ^ s % 4294967296 < 4294967296 := by rw [← hor]; exact or32_lt hzi hlow
    (repeat' (first | refine JC.seq ?_ | refine JC.ops ?_ | refine JO.nil ?_ | refine JX.thenN ?_ | (apply r_move; exact rfl; exact rfl; exact rfl) | (apply r_assign; exact rfl; exact rfl; exact rfl) | (apply r_idxU; exact rfl; exact rfl; exact rfl; exact rfl; (first | assumption | exact WU.rd (by assumption) rfl [] | exact OwnU.rd (by assumption)); (first | assumption | omega)) | (apply r_ldU; exact rfl; exact rfl; exact rfl; exact rfl; (first | assumption | exact WU.rd (by assumption) rfl [] | exact OwnU.rd (by assumption)); (repeat' first | exact HSub.nil _ | exact HSub.hd | exact HSub.in0 | exact HSub.refl _ | refine HSub.skip ?_ | refine HSub.skipN ?_); (first | assumption | omega)) | (apply r_maskU; exact rfl; exact rfl; exact rfl; exact rfl; (first | assumption | omega)) | (apply r_shlU; exact rfl; exact rfl; exact rfl; exact rfl; (first | assumption | omega)) | (apply r_lss; exact rfl; exact rfl; exact rfl; exact rfl; all_goals intro hc; all_goals try (exfalso; omega)) | refine JC.skip ?_ | refine JC.condT rfl ?_ | refine JC.block ?_))
    rw [Nat.mod_eq_of_lt (show xs.getD i 0 * 2 ^ s < 18446744073709551616 by omega)]
    refine r_orV (zs.getD i 0 + xs.getD i 0 * 2 ^ s % 4294967296) rfl rfl rfl rfl (by omega) hor ?_
    (repeat' (first | (apply r_idxU; exact rfl; exact rfl; exact rfl; exact rfl; (first | assumption | exact WU.rd (by assumption) rfl [] | exact OwnU.rd (by assumption)); (first | assumption | omega))))
    refine r_stU (A := []) hO rfl rfl trivial rfl rfl (by omega) (fun N1 hO1 => ?_)
    (repeat' (first | refine JC.ops ?_ | refine JO.nil ?_ | refine JX.thenN ?_ | (apply r_move; exact rfl; exact rfl; exact rfl) | (apply r_add1; exact rfl; exact rfl; exact rfl; exact rfl; omega) | (apply r_shr32; exact rfl; exact rfl; exact rfl; exact rfl) | (apply r_idxU; exact rfl; exact rfl; exact rfl; exact rfl; (first | assumption | exact WU.rd (by assumption) rfl [] | exact OwnU.rd (by assumption)); (first | assumption | omega))))
    refine r_stU (A := []) hO1 rfl rfl trivial rfl rfl (by omega) (fun N2 hO2 => ?_)
    (repeat' (first | refine JC.ops ?_ | refine JO.nil ?_ | refine JX.thenN ?_ | (apply r_move; exact rfl; exact rfl; exact rfl) | (apply r_add1; exact rfl; exact rfl; exact rfl; exact rfl; omega) | refine JX.blockN ?_))
    refine JX.roundH (i + 1, N2, _) ⟨by dsimp only; omega, hO2, set_lt (set_lt hz horlt) (by show _ < 4294967296; omega), ?_, ?_, fun j hj => ?_⟩ (by dsimp only; omega) (by repeat first | exact trivial | refine ⟨rfl, ?_⟩) (by (first | exact HSub.refl _ | (repeat' first | exact HSub.nil _ | exact HSub.refl _ | refine HSub.at 0 rfl ?_ | refine HSub.at 1 rfl ?_ | refine HSub.at 2 rfl ?_ | refine HSub.at 3 rfl ?_ | refine HSub.at 4 rfl ?_ | refine HSub.at 5 rfl ?_ | refine HSub.at 6 rfl ?_ | refine HSub.at 7 rfl ?_)))
    · dsimp only
      rw [getD_set_self (by simp; omega)]
      refine (Nat.div_lt_iff_lt_mul (by decide)).2 ?_
      rw [Nat.mul_comm]
      exact Nat.mul_lt_mul_of_pos_left hxi hp0
    · dsimp only
      have e1 := val_set (b := W32) (l := zs) (j := i) (u := zs.getD i 0 + xs.getD i 0 * 2 ^ s % 4294967296) (by omega)
      have e2 := val_set (b := W32) (l := zs.set i (zs.getD i 0 + xs.getD i 0 * 2 ^ s % 4294967296)) (j := i + 1) (u := xs.getD i 0 * 2 ^ s / 4294967296) (by simp; omega)
      rw [getD_set_ne (by omega), hzero (i + 1) (by omega), Nat.mul_zero, Nat.add_zero] at e2
      rw [e2, val_take, Nat.mul_add, ← hval]
      have e3 : W32 ^ i * (xs.getD i 0 * 2 ^ s % 4294967296) + W32 ^ (i + 1) * (xs.getD i 0 * 2 ^ s / 4294967296) = W32 ^ i * (xs.getD i 0 * 2 ^ s) := by
        rw [Nat.pow_succ, Nat.mul_assoc, ← Nat.mul_add, Nat.mod_add_div]
      have e4 : 2 ^ s * (W32 ^ i * xs.getD i 0) = W32 ^ i * (xs.getD i 0 * 2 ^ s) := by
        rw [Nat.mul_left_comm, Nat.mul_comm (2 ^ s)]
      rw [e4, ← e3]
      rw [Nat.mul_add] at e1
      omega
    · dsimp only at hj ⊢
      rw [getD_set_ne (by omega), getD_set_ne (by omega)]
      exact hzero j (by omega)
  · (repeat' (first | refine JC.seq ?_ | refine JC.ops ?_ | refine JO.nil ?_ | refine JX.thenN ?_ | (apply r_move; exact rfl; exact rfl; exact rfl) | (apply r_assign; exact rfl; exact rfl; exact rfl) | (apply r_lss; exact rfl; exact rfl; exact rfl; exact rfl; all_goals intro hc; all_goals try (exfalso; omega)) | refine JX.thenE ?_ | refine JC.exit ?_ | refine JC.ret ?_ | refine JC.condF rfl ?_ | refine JX.blockE ?_))
    obtain rfl : i = n := by omega
    exact JX.ret1 rfl (fun a w' st => ⟨st.kp, N, zs, st.newOf rfl (by (repeat' first | exact HSub.nil _ | exact HSub.hd | exact HSub.in0 | exact HSub.refl _ | refine HSub.skip ?_ | refine HSub.skipN ?_)), hO, hz, hci, by rw [hval, List.take_of_length_le (by omega)]⟩)

end Go.Proofs.YtdehklhdjbkneaaDoor
