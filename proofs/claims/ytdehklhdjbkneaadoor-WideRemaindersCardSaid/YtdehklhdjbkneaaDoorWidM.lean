/- Words shifted down. -/
import Derived.Test.YtdehklhdjbkneaaDoorWidL
namespace Go.Proofs.YtdehklhdjbkneaaDoor
open Go Go.RowKit
set_option linter.unusedSimpArgs false
set_option linter.unusedVariables false
set_option linter.unusedSectionVars false

theorem un_low {s : Nat} (hs : s ≤ 31) (x : Nat) (hx : x < 4294967296) : x * 2 ^ (32 - s) % 18446744073709551616 % 4294967296 = 2 ^ (32 - s) * (x % 2 ^ s) := by
  have h1 : x * 2 ^ (32 - s) < 18446744073709551616 := by
    have h2 : 2 ^ (32 - s) ≤ 4294967296 := by
      have := Nat.pow_le_pow_right (n := 2) (by decide) (show 32 - s ≤ 32 by omega)
      simpa using this
    have := Nat.mul_le_mul (show x ≤ 4294967295 by omega) h2
    omega
  rw [Nat.mod_eq_of_lt h1, low_shift x (32 - s) (by omega), show 32 - (32 - s) = s by omega]
/-- A round of unshift. -/
theorem un_round {s P A x : Nat} (hs : s ≤ 31) : (A + P * 4294967296 * x) / 2 ^ s = A / 2 ^ s + P * (2 ^ (32 - s) * (x % 2 ^ s)) + P * 4294967296 * (x / 2 ^ s) := by
  have hp : 0 < 2 ^ s := Nat.pow_pos (by decide)
  have e : (4294967296 : Nat) = 2 ^ (32 - s) * 2 ^ s := by rw [← Nat.pow_add, show 32 - s + s = 32 by omega]
  have e2 : A + P * 4294967296 * x = A + 2 ^ s * (P * (2 ^ (32 - s) * (x % 2 ^ s)) + P * 4294967296 * (x / 2 ^ s)) := by
    have h1 : x = x % 2 ^ s + 2 ^ s * (x / 2 ^ s) := (Nat.mod_add_div x (2 ^ s)).symm
    have h2 : P * 4294967296 * x = P * 4294967296 * (x % 2 ^ s) + 2 ^ s * (P * 4294967296 * (x / 2 ^ s)) := by
      conv => lhs; rw [h1]
      rw [Nat.mul_add, Nat.mul_left_comm]
    have h3 : P * 4294967296 * (x % 2 ^ s) = 2 ^ s * (P * (2 ^ (32 - s) * (x % 2 ^ s))) := by
      conv => lhs; rw [e]
      simp only [Nat.mul_left_comm, Nat.mul_comm, Nat.mul_assoc]
    rw [h2, h3, Nat.mul_add]
  rw [e2, Nat.add_mul_div_left _ _ hp, Nat.add_assoc]
theorem un_first {s x : Nat} : (0 + 1 * x) / 2 ^ s = 1 * (x / 2 ^ s) := by simp

set_option maxHeartbeats 8000000 in
theorem c_unshift (w : World) (v : Value) (n s : Nat) (xs : List Nat) (hv : WU w v n xs) (hx : ∀ x ∈ xs, x < W32) (hs31 : s ≤ 31) (hn : n ≤ 1000000) :
    Calls Tryd.prog 68 #[v, nv s] w (Ret fun v w' => Kp [] w w' ∧ ∃ N zs, New N w w' ∧ OwnU N v zs.length zs ∧ Dig W32 zs ∧ val W32 zs = val W32 xs / 2 ^ s) := by
  have hlx := hv.len
  have hp0 : 0 < 2 ^ s := Nat.pow_pos (by decide)
  refine calls_of_S [⟨5, 3, [], []⟩, ⟨7, 3, [], []⟩] [] (by simp) [] Tryd.func68 rfl mixed (by kernel_rfl) Tryd.ntmps68 Tryd.results68 rfl ⟨by simp, by simp⟩ (by simp) ?_
  simp only [toS, textOps, toSOp, kindAt, kindOf, odAt, sopsAt, ordOf, zipF]
  (repeat' (first | refine JC.seq ?_ | refine JC.ops ?_ | refine JO.nil ?_ | refine JX.thenN ?_ | (apply r_move; exact rfl; exact rfl; exact rfl) | (apply r_assign; exact rfl; exact rfl; exact rfl) | (apply r_lenU; exact rfl; exact rfl; exact rfl; (first | assumption | exact WU.rd (by assumption) rfl [] | exact OwnU.rd (by assumption)))))
  refine r_make (n := n) rfl rfl rfl rfl rfl (by omega) (by omega) (fun b5 => ?_)
  have hO := own_zerosU b5 n (by simp only [maxLen]; omega)
  (repeat' (first | refine JC.seq ?_ | refine JC.ops ?_ | refine JO.nil ?_ | refine JX.thenN ?_ | (apply r_move; exact rfl; exact rfl; exact rfl) | (apply r_assign; exact rfl; exact rfl; exact rfl) | (apply r_lenU; exact rfl; exact rfl; exact rfl; (first | assumption | exact WU.rd (by assumption) rfl [] | exact OwnU.rd (by assumption))) | refine JC.block ?_))
  refine JC.loopH (ι := Nat × SHeap × List Nat) ⟨fun z => [(13, nv z.1), (12, nv n), (11, v), (5, .slice (some ⟨b5, 0, none⟩) n n), (0, v), (1, nv s)], fun z => z.2.1 ++ [],
    fun z => z.1 ≤ n ∧ OwnU z.2.1 (.slice (some ⟨b5, 0, none⟩) n n) n z.2.2 ∧ (∀ x ∈ z.2.2, x < W32) ∧ (0 < z.1 → z.2.2.getD (z.1 - 1) 0 < 2 ^ (32 - s)) ∧ val W32 z.2.2 = val W32 (xs.take z.1) / 2 ^ s ∧ ∀ j, z.1 ≤ j → z.2.2.getD j 0 = 0, fun z => n - z.1⟩
    (0, _, _) ⟨Nat.zero_le _, hO, fun x hx => by obtain ⟨a, _, rfl⟩ := List.mem_map.1 hx; decide, fun h => absurd h (Nat.lt_irrefl 0), by
      show val W32 (tab n fun _ => 0) = _
      rw [val_zeros]; simp [val], fun j _ => tab_zero _ j⟩ (by repeat first | exact trivial | refine ⟨rfl, ?_⟩) (by (first | exact HSub.refl _ | (repeat' first | exact HSub.nil _ | exact HSub.refl _ | refine HSub.at 0 rfl ?_ | refine HSub.at 1 rfl ?_ | refine HSub.at 2 rfl ?_ | refine HSub.at 3 rfl ?_ | refine HSub.at 4 rfl ?_ | refine HSub.at 5 rfl ?_ | refine HSub.at 6 rfl ?_ | refine HSub.at 7 rfl ?_))) (fun z hz => ?_)
  clear hO
  obtain ⟨i, N, zs⟩ := z
  obtain ⟨hi, hO, hz, hci, hval, hzero⟩ := hz
  dsimp only at hi hO hz hci hval hzero ⊢
  have hlz := hO.len
  by_cases hin : i < n
  · have hxi : xs.getD i 0 < 4294967296 := mem_getD_lt (b := W32) (by decide) hx i
    have hsh : xs.getD i 0 / 2 ^ s < 4294967296 := Nat.lt_of_le_of_lt (Nat.div_le_self _ _) hxi
    have hlt32 : xs.getD i 0 / 2 ^ s < 2 ^ (32 - s) := by
      refine (Nat.div_lt_iff_lt_mul hp0).2 ?_
      rw [← Nat.pow_add, show 32 - s + s = 32 by omega]
      exact hxi
    have hor1 : zs.getD i 0 ||| xs.getD i 0 / 2 ^ s = xs.getD i 0 / 2 ^ s := by rw [hzero i (Nat.le_refl _), Nat.zero_or]
    have hzi : zs.getD i 0 < 4294967296 := mem_getD_lt (b := W32) (by decide) hz i
    (repeat' (first | refine JC.seq ?_ | refine JC.ops ?_ | refine JC.opsD ?_ | refine JO.nil ?_ | refine JX.thenN ?_ | (apply r_move; exact rfl; exact rfl; exact rfl) | (apply r_assign; exact rfl; exact rfl; exact rfl) | (apply r_idxU; exact rfl; exact rfl; exact rfl; exact rfl; (first | assumption | exact WU.rd (by assumption) rfl [] | exact OwnU.rd (by assumption)); (first | assumption | omega)) | (apply r_ldU; exact rfl; exact rfl; exact rfl; exact rfl; (first | assumption | exact WU.rd (by assumption) rfl [] | exact OwnU.rd (by assumption)); (repeat' first | exact HSub.nil _ | exact HSub.hd | exact HSub.in0 | exact HSub.refl _ | refine HSub.skip ?_ | refine HSub.skipN ?_); (first | assumption | omega)) | (apply r_shrU; exact rfl; exact rfl; exact rfl; exact rfl; (first | assumption | omega)) | (apply r_lss; exact rfl; exact rfl; exact rfl; exact rfl; all_goals intro hc; all_goals try (exfalso; omega)) | refine JC.skip ?_ | refine JC.condT rfl ?_ | refine JC.block ?_))
    refine r_orV (xs.getD i 0 / 2 ^ s) rfl rfl rfl rfl (by omega) hor1 ?_
    (repeat' (first | (apply r_idxU; exact rfl; exact rfl; exact rfl; exact rfl; (first | assumption | exact WU.rd (by assumption) rfl [] | exact OwnU.rd (by assumption)); (first | assumption | omega))))
    refine r_stU (A := []) hO rfl rfl (by first | trivial | exact ⟨rfl, rfl⟩) rfl rfl (by omega) (fun N1 hO1 => ?_)
    have e1 := val_set (b := W32) (l := zs) (j := i) (u := xs.getD i 0 / 2 ^ s) (by omega)
    rw [hzero i (Nat.le_refl _), Nat.mul_zero, Nat.add_zero] at e1
    by_cases hi0 : 0 < i
    · have hzp : zs.getD (i - 1) 0 < 4294967296 := mem_getD_lt (b := W32) (by decide) hz (i - 1)
      have hul := un_low hs31 _ hxi
      have hul2 : 2 ^ (32 - s) * (xs.getD i 0 % 2 ^ s) < 4294967296 := by rw [← hul]; exact Nat.mod_lt _ (by decide)
      have hor2 : zs.getD (i - 1) 0 ||| 2 ^ (32 - s) * (xs.getD i 0 % 2 ^ s) = zs.getD (i - 1) 0 + 2 ^ (32 - s) * (xs.getD i 0 % 2 ^ s) := by
        rw [Nat.or_comm, ← Nat.two_pow_add_eq_or_of_lt (hci hi0), Nat.add_comm]
      have hor3 : zs.getD (i - 1) 0 + 2 ^ (32 - s) * (xs.getD i 0 % 2 ^ s) < 4294967296 := by rw [← hor2]; exact or32_lt hzp hul2
      have hget : (zs.set i (xs.getD i 0 / 2 ^ s)).getD (i - 1) 0 = zs.getD (i - 1) 0 := getD_set_ne (by omega)
      have hsub : ((32 : Int) - (s : Int)) = ((32 - s : Nat) : Int) := by omega
      (repeat' (first | refine JC.seq ?_ | refine JC.ops ?_ | refine JC.opsD ?_ | refine JO.nil ?_ | refine JX.thenN ?_ | (apply r_move; exact rfl; exact rfl; exact rfl) | (apply r_sub1; exact rfl; exact rfl; exact rfl; exact rfl; omega) | (apply r_sub; exact rfl; exact rfl; exact rfl; exact rfl; omega) | (apply r_idxU; exact rfl; exact rfl; exact rfl; exact rfl; (first | assumption | exact WU.rd (by assumption) rfl [] | exact OwnU.rd (by assumption)); (first | assumption | omega)) | (apply r_ldU; exact rfl; exact rfl; exact rfl; exact rfl; (first | assumption | exact WU.rd (by assumption) rfl [] | exact OwnU.rd (by assumption)); (repeat' first | exact HSub.nil _ | exact HSub.hd | exact HSub.in0 | exact HSub.refl _ | refine HSub.skip ?_ | refine HSub.skipN ?_); (first | assumption | omega)) | (apply r_gtr; exact rfl; exact rfl; exact rfl; exact rfl; all_goals intro hc; all_goals try (exfalso; omega)) | refine JC.condT rfl ?_))
      refine r_shlU (j := 32 - s) rfl rfl rfl (by first | rfl | exact congrArg (fun z => some (Value.int .i64 z)) hsub) (by omega) ?_
      (repeat' (first | (apply r_maskU; exact rfl; exact rfl; exact rfl; exact rfl; (first | assumption | omega))))
      refine r_orV (zs.getD (i - 1) 0 + 2 ^ (32 - s) * (xs.getD i 0 % 2 ^ s)) rfl rfl rfl rfl (by rw [hget, hul]; omega) (by rw [hget, hul]; exact hor2) ?_
      (repeat' (first | (apply r_idxU; exact rfl; exact rfl; exact rfl; exact rfl; (first | assumption | exact WU.rd (by assumption) rfl [] | exact OwnU.rd (by assumption)); (first | assumption | omega))))
      refine r_stU (A := []) hO1 rfl rfl (by first | trivial | exact ⟨rfl, rfl⟩) rfl rfl (by omega) (fun N2 hO2 => ?_)
      (repeat' (first | refine JC.ops ?_ | refine JO.nil ?_ | refine JX.thenN ?_ | (apply r_move; exact rfl; exact rfl; exact rfl) | (apply r_add1; exact rfl; exact rfl; exact rfl; exact rfl; omega) | refine JX.blockN ?_))
      refine JX.roundH (i + 1, N2, _) ⟨by dsimp only; omega, hO2, set_lt (set_lt hz hsh) hor3, fun _ => ?_, ?_, fun j hj => ?_⟩ (by dsimp only; omega) (by repeat first | exact trivial | refine ⟨rfl, ?_⟩) (by (first | exact HSub.refl _ | (repeat' first | exact HSub.nil _ | exact HSub.refl _ | refine HSub.at 0 rfl ?_ | refine HSub.at 1 rfl ?_ | refine HSub.at 2 rfl ?_ | refine HSub.at 3 rfl ?_ | refine HSub.at 4 rfl ?_ | refine HSub.at 5 rfl ?_ | refine HSub.at 6 rfl ?_ | refine HSub.at 7 rfl ?_)))
      · dsimp only
        rw [Nat.add_sub_cancel, getD_set_ne (by omega), getD_set_self (by omega)]
        exact hlt32
      · dsimp only
        have e2 := val_set (b := W32) (l := zs.set i (xs.getD i 0 / 2 ^ s)) (j := i - 1) (u := zs.getD (i - 1) 0 + 2 ^ (32 - s) * (xs.getD i 0 % 2 ^ s)) (by simp; omega)
        rw [hget] at e2
        have e3 := un_round (s := s) (P := W32 ^ (i - 1)) (A := val W32 (xs.take i)) (x := xs.getD i 0) hs31
        have e4 : W32 ^ (i - 1) * 4294967296 = W32 ^ i := by
          conv => rhs; rw [show i = i - 1 + 1 by omega, Nat.pow_succ]
        rw [e4] at e3
        rw [val_take, e3, ← hval]
        rw [Nat.mul_add] at e2
        omega
      · dsimp only at hj ⊢
        rw [getD_set_ne (by omega), getD_set_ne (by omega)]
        exact hzero j (by omega)
    · obtain rfl : i = 0 := by omega
      (repeat' (first | refine JC.seq ?_ | refine JC.ops ?_ | refine JO.nil ?_ | refine JX.thenN ?_ | (apply r_move; exact rfl; exact rfl; exact rfl) | (apply r_add1; exact rfl; exact rfl; exact rfl; exact rfl; omega) | (apply r_gtr; exact rfl; exact rfl; exact rfl; exact rfl; all_goals intro hc; all_goals try (exfalso; omega)) | refine JC.skip ?_ | refine JC.condF rfl ?_ | refine JX.blockN ?_))
      refine JX.roundH (0 + 1, N1, _) ⟨by dsimp only; omega, hO1, set_lt hz hsh, fun _ => ?_, ?_, fun j hj => ?_⟩ (by dsimp only; omega) (by repeat first | exact trivial | refine ⟨rfl, ?_⟩) (by (first | exact HSub.refl _ | (repeat' first | exact HSub.nil _ | exact HSub.refl _ | refine HSub.at 0 rfl ?_ | refine HSub.at 1 rfl ?_ | refine HSub.at 2 rfl ?_ | refine HSub.at 3 rfl ?_ | refine HSub.at 4 rfl ?_ | refine HSub.at 5 rfl ?_ | refine HSub.at 6 rfl ?_ | refine HSub.at 7 rfl ?_)))
      · dsimp only
        rw [getD_set_self (by omega)]
        exact hlt32
      · dsimp only
        rw [e1, hval, val_take]
        simp [val]
      · dsimp only at hj ⊢
        rw [getD_set_ne (by omega)]
        exact hzero j (by omega)
  · (repeat' (first | refine JC.seq ?_ | refine JC.ops ?_ | refine JO.nil ?_ | refine JX.thenN ?_ | (apply r_move; exact rfl; exact rfl; exact rfl) | (apply r_lss; exact rfl; exact rfl; exact rfl; exact rfl; all_goals intro hc; all_goals try (exfalso; omega)) | refine JX.thenE ?_ | refine JC.exit ?_ | refine JC.condF rfl ?_ | refine JX.blockE ?_))
    refine r_call0 trivial rfl rfl rfl (fun w hk hs => c_norm w _ _ _ _ (hO.rd.at hk hs (by (repeat' first | exact HSub.nil _ | exact HSub.hd | exact HSub.in0 | exact HSub.refl _ | refine HSub.skip ?_ | refine HSub.skipN ?_))) (by omega)) fun w v w' _ _ _ hR => ?_
    obtain ⟨q, hq, rfl, hnq⟩ := hR
    (repeat' (first | refine JO.nil ?_ | refine JX.thenN ?_ | (apply r_assign; exact rfl; exact rfl; exact rfl) | refine JC.ret ?_))
    have hown := hO.hd hq
    rw [← hnq] at hown
    have hql : (nrm zs).length = q := hown.len
    refine JX.ret1 rfl (fun a w' st => ⟨st.kp, N, nrm zs, st.newOf rfl (by (repeat' first | exact HSub.nil _ | exact HSub.hd | exact HSub.in0 | exact HSub.refl _ | refine HSub.skip ?_ | refine HSub.skipN ?_)), by rw [hql]; exact hown, Dig.of hz, ?_⟩)
    rw [val_nrm, hval, List.take_of_length_le (by omega)]

end Go.Proofs.YtdehklhdjbkneaaDoor
