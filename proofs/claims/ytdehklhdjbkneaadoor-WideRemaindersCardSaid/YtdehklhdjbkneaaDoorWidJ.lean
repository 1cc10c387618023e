/- The product of words. -/
import Derived.Test.YtdehklhdjbkneaaDoorExX
namespace Go.Proofs.YtdehklhdjbkneaaDoor
open Go Go.RowKit
set_option linter.unusedSimpArgs false
set_option linter.unusedVariables false
set_option linter.unusedSectionVars false

set_option maxHeartbeats 8000000 in
theorem c_mulW (w : World) (v u : Value) (n k : Nat) (xs ys : List Nat) (hv : WU w v n xs) (hu : WU w u k ys) (hx : ∀ x ∈ xs, x < W32) (hy : ∀ x ∈ ys, x < W32) (hn : n ≤ 1000000) (hk : k ≤ 1000000) :
    Calls Tryd.prog 43 #[v, u] w (Ret fun v w' => Kp [] w w' ∧ ∃ N zs, New N w w' ∧ OwnU N v zs.length zs ∧ Dig W32 zs ∧ val W32 zs = val W32 xs * val W32 ys) := by
  have hlx := hv.len
  have hly := hu.len
  refine calls_of_S [] [] (by simp) [] Tryd.func43 rfl mixed (by kernel_rfl) Tryd.ntmps43 Tryd.results43 rfl ⟨by simp, by simp⟩ (by simp) ?_
  simp only [toS, textOps, toSOp, kindAt, kindOf, odAt, sopsAt, ordOf, zipF]
  (repeat' (first | refine JC.seq ?_ | refine JC.ops ?_ | refine JO.nil ?_ | refine JX.thenN ?_ | (apply r_move; exact rfl; exact rfl; exact rfl) | (apply r_assign; exact rfl; exact rfl; exact rfl) | (apply r_addN; exact rfl; exact rfl; exact rfl; exact rfl; omega) | (apply r_lenU; exact rfl; exact rfl; exact rfl; (first | assumption | exact WU.rd (by assumption) rfl [] | exact OwnU.rd (by assumption)))))
  refine r_make (n := n + k) rfl rfl rfl rfl rfl (by omega) (by omega) (fun b5 => ?_)
  have hO := own_zerosU b5 (n + k) (by simp only [maxLen]; omega)
  (repeat' (first | refine JC.seq ?_ | refine JC.ops ?_ | refine JO.nil ?_ | refine JX.thenN ?_ | (apply r_move; exact rfl; exact rfl; exact rfl) | (apply r_assign; exact rfl; exact rfl; exact rfl) | (apply r_lenU; exact rfl; exact rfl; exact rfl; (first | assumption | exact WU.rd (by assumption) rfl [] | exact OwnU.rd (by assumption))) | refine JC.block ?_))
  refine JC.loopH (ι := Nat × SHeap × List Nat) ⟨fun z => [(20, nv z.1), (19, nv n), (18, v), (5, .slice (some ⟨b5, 0, none⟩) (n + k) (n + k)), (0, v), (1, u)], fun z => z.2.1 ++ [],
    fun z => z.1 ≤ n ∧ OwnU z.2.1 (.slice (some ⟨b5, 0, none⟩) (n + k) (n + k)) (n + k) z.2.2 ∧ (∀ x ∈ z.2.2, x < W32) ∧ val W32 z.2.2 = val W32 (xs.take z.1) * val W32 ys ∧ ∀ j, z.1 + k ≤ j → z.2.2.getD j 0 = 0, fun z => n - z.1⟩
    (0, _, _) ⟨Nat.zero_le _, hO, fun x hx => by obtain ⟨a, _, rfl⟩ := List.mem_map.1 hx; decide, by show val W32 (tab (n + k) fun _ => 0) = _; rw [val_zeros]; simp [val], fun j _ => tab_zero _ j⟩ (by repeat first | exact trivial | refine ⟨rfl, ?_⟩) (by (first | exact HSub.refl _ | (repeat' first | exact HSub.nil _ | exact HSub.refl _ | refine HSub.at 0 rfl ?_ | refine HSub.at 1 rfl ?_ | refine HSub.at 2 rfl ?_ | refine HSub.at 3 rfl ?_ | refine HSub.at 4 rfl ?_ | refine HSub.at 5 rfl ?_ | refine HSub.at 6 rfl ?_ | refine HSub.at 7 rfl ?_))) (fun z hz => ?_)
  clear hO
  obtain ⟨i, N, zs⟩ := z
  obtain ⟨hi, hO, hz, hval, hzero⟩ := hz
  dsimp only at hi hO hz hval hzero ⊢
  have hlz := hO.len
  by_cases hin : i < n
  · have hxi : xs.getD i 0 < 4294967296 := mem_getD_lt (b := W32) (by decide) hx i
    (repeat' (first | refine JC.seq ?_ | refine JC.ops ?_ | refine JO.nil ?_ | refine JX.thenN ?_ | (apply r_move; exact rfl; exact rfl; exact rfl) | (apply r_assign; exact rfl; exact rfl; exact rfl) | (apply r_idxU; exact rfl; exact rfl; exact rfl; exact rfl; (first | assumption | exact WU.rd (by assumption) rfl [] | exact OwnU.rd (by assumption)); (first | assumption | omega)) | (apply r_ldU; exact rfl; exact rfl; exact rfl; exact rfl; (first | assumption | exact WU.rd (by assumption) rfl [] | exact OwnU.rd (by assumption)); (repeat' first | exact HSub.nil _ | exact HSub.hd | exact HSub.in0 | exact HSub.refl _ | refine HSub.skip ?_ | refine HSub.skipN ?_); (first | assumption | omega)) | (apply r_lenU; exact rfl; exact rfl; exact rfl; (first | assumption | exact WU.rd (by assumption) rfl [] | exact OwnU.rd (by assumption))) | (apply r_lss; exact rfl; exact rfl; exact rfl; exact rfl; all_goals intro hc; all_goals try (exfalso; omega)) | refine JC.skip ?_ | refine JC.condT rfl ?_ | refine JC.block ?_))
    refine JC.loopH (ι := Nat × Nat × SHeap × List Nat) ⟨fun y => [(27, nv y.1), (26, nv k), (25, u), (8, uv y.2.1), (7, uv (xs.getD i 0)), (6, nv i), (20, nv i), (19, nv n), (18, v), (5, .slice (some ⟨b5, 0, none⟩) (n + k) (n + k)), (0, v), (1, u)], fun y => y.2.2.1 ++ [],
      fun y => y.1 ≤ k ∧ OwnU y.2.2.1 (.slice (some ⟨b5, 0, none⟩) (n + k) (n + k)) (n + k) y.2.2.2 ∧ (∀ x ∈ y.2.2.2, x < W32) ∧ y.2.1 < 4294967296 ∧ val W32 y.2.2.2 + W32 ^ (i + y.1) * y.2.1 = val W32 (xs.take i) * val W32 ys + W32 ^ i * (xs.getD i 0 * val W32 (ys.take y.1)) ∧ ∀ j, i + k ≤ j → y.2.2.2.getD j 0 = 0, fun y => k - y.1⟩
      (0, 0, _, _) ⟨Nat.zero_le _, hO, hz, by show (0 : Nat) < 4294967296; decide, by simp [hval, val], hzero⟩ (by repeat first | exact trivial | refine ⟨rfl, ?_⟩) (by (first | exact HSub.refl _ | (repeat' first | exact HSub.nil _ | exact HSub.refl _ | refine HSub.at 0 rfl ?_ | refine HSub.at 1 rfl ?_ | refine HSub.at 2 rfl ?_ | refine HSub.at 3 rfl ?_ | refine HSub.at 4 rfl ?_ | refine HSub.at 5 rfl ?_ | refine HSub.at 6 rfl ?_ | refine HSub.at 7 rfl ?_))) (fun y hyy => ?_)
    clear hO hz hval hzero hlz
    obtain ⟨q, c, M, us⟩ := y
    obtain ⟨hq, hO, hz, hc1, hval, hzero⟩ := hyy
    dsimp only at hq hO hz hc1 hval hzero ⊢
    have hlz := hO.len
    by_cases hqk : q < k
    · have hyq : ys.getD q 0 < 4294967296 := mem_getD_lt (b := W32) (by decide) hy q
      have huq : us.getD (i + q) 0 < 4294967296 := mem_getD_lt (b := W32) (by decide) hz (i + q)
      have hxy := mul_bound hxi hyq
      (repeat' (first | refine JC.seq ?_ | refine JC.ops ?_ | refine JO.nil ?_ | refine JX.thenN ?_ | (apply r_move; exact rfl; exact rfl; exact rfl) | (apply r_assign; exact rfl; exact rfl; exact rfl) | (apply r_addN; exact rfl; exact rfl; exact rfl; exact rfl; omega) | (apply r_shr32; exact rfl; exact rfl; exact rfl; exact rfl) | (apply r_idxU; exact rfl; exact rfl; exact rfl; exact rfl; (first | assumption | exact WU.rd (by assumption) rfl [] | exact OwnU.rd (by assumption)); (first | assumption | omega)) | (apply r_ldU; exact rfl; exact rfl; exact rfl; exact rfl; (first | assumption | exact WU.rd (by assumption) rfl [] | exact OwnU.rd (by assumption)); (repeat' first | exact HSub.nil _ | exact HSub.hd | exact HSub.in0 | exact HSub.refl _ | refine HSub.skip ?_ | refine HSub.skipN ?_); (first | assumption | omega)) | (apply r_addU; exact rfl; exact rfl; exact rfl; exact rfl; (first | assumption | omega)) | (apply r_mulU; exact rfl; exact rfl; exact rfl; exact rfl; (first | assumption | omega)) | (apply r_maskU; exact rfl; exact rfl; exact rfl; exact rfl; (first | assumption | omega)) | (apply r_lss; exact rfl; exact rfl; exact rfl; exact rfl; all_goals intro hc; all_goals try (exfalso; omega)) | refine JC.skip ?_ | refine JC.condT rfl ?_ | refine JC.block ?_))
      refine r_stU (A := []) hO rfl rfl trivial rfl rfl (by omega) (fun M' hO' => ?_)
      (repeat' (first | refine JC.ops ?_ | refine JO.nil ?_ | refine JX.thenN ?_ | (apply r_move; exact rfl; exact rfl; exact rfl) | (apply r_assign; exact rfl; exact rfl; exact rfl) | (apply r_add1; exact rfl; exact rfl; exact rfl; exact rfl; omega) | refine JX.blockN ?_))
      refine JX.roundH (q + 1, _, M', _) ⟨by dsimp only; omega, hO', set_lt hz (Nat.mod_lt _ (by decide)), ?_, ?_, fun j hj => ?_⟩ (by dsimp only; omega) (by repeat first | exact trivial | refine ⟨rfl, ?_⟩) (by (first | exact HSub.refl _ | (repeat' first | exact HSub.nil _ | exact HSub.refl _ | refine HSub.at 0 rfl ?_ | refine HSub.at 1 rfl ?_ | refine HSub.at 2 rfl ?_ | refine HSub.at 3 rfl ?_ | refine HSub.at 4 rfl ?_ | refine HSub.at 5 rfl ?_ | refine HSub.at 6 rfl ?_ | refine HSub.at 7 rfl ?_)))
      · dsimp only; omega
      · dsimp only
        have e := val_set (b := W32) (l := us) (j := i + q) (u := (us.getD (i + q) 0 + xs.getD i 0 * ys.getD q 0 + c) % W32) (by omega)
        have := mul_round e rfl hval
        rw [val_take, Nat.mul_add, Nat.mul_add, ← Nat.add_assoc (_ * _), ← Nat.add_assoc i q 1, Nat.pow_succ]
        have e3 : W32 ^ i * (xs.getD i 0 * (W32 ^ q * ys.getD q 0)) = W32 ^ (i + q) * (xs.getD i 0 * ys.getD q 0) := by
          rw [Nat.pow_add]
          simp only [Nat.mul_left_comm, Nat.mul_assoc]
        rw [e3]
        exact this
      · dsimp only at hj ⊢
        rw [getD_set_ne (by omega)]
        exact hzero j (by omega)
    · obtain rfl : q = k := by omega
      (repeat' (first | refine JC.seq ?_ | refine JC.ops ?_ | refine JO.nil ?_ | refine JX.thenN ?_ | (apply r_move; exact rfl; exact rfl; exact rfl) | (apply r_addN; exact rfl; exact rfl; exact rfl; exact rfl; omega) | (apply r_idxU; exact rfl; exact rfl; exact rfl; exact rfl; (first | assumption | exact WU.rd (by assumption) rfl [] | exact OwnU.rd (by assumption)); (first | assumption | omega)) | (apply r_lenU; exact rfl; exact rfl; exact rfl; (first | assumption | exact WU.rd (by assumption) rfl [] | exact OwnU.rd (by assumption))) | (apply r_lss; exact rfl; exact rfl; exact rfl; exact rfl; all_goals intro hc; all_goals try (exfalso; omega)) | refine JX.thenE ?_ | refine JC.exit ?_ | refine JC.condF rfl ?_ | refine JX.blockE ?_))
      refine r_stU (A := []) hO rfl rfl trivial rfl rfl (by omega) (fun M' hO' => ?_)
      (repeat' (first | refine JC.ops ?_ | refine JO.nil ?_ | refine JX.thenN ?_ | (apply r_move; exact rfl; exact rfl; exact rfl) | (apply r_add1; exact rfl; exact rfl; exact rfl; exact rfl; omega) | refine JX.blockN ?_))
      refine JX.roundH (i + 1, M', _) ⟨by dsimp only; omega, hO', set_lt hz hc1, ?_, fun j hj => ?_⟩ (by dsimp only; omega) (by repeat first | exact trivial | refine ⟨rfl, ?_⟩) (by (first | exact HSub.refl _ | (repeat' first | exact HSub.nil _ | exact HSub.refl _ | refine HSub.at 0 rfl ?_ | refine HSub.at 1 rfl ?_ | refine HSub.at 2 rfl ?_ | refine HSub.at 3 rfl ?_ | refine HSub.at 4 rfl ?_ | refine HSub.at 5 rfl ?_ | refine HSub.at 6 rfl ?_ | refine HSub.at 7 rfl ?_)))
      · dsimp only
        have e := val_set (b := W32) (l := us) (j := i + q) (u := c) (by omega)
        rw [hzero (i + q) (Nat.le_refl _), Nat.mul_zero, Nat.add_zero, hval] at e
        rw [e, val_take, Nat.add_mul, List.take_of_length_le (l := ys) (i := q) (by omega), Nat.mul_assoc]
      · dsimp only at hj ⊢
        rw [getD_set_ne (by omega)]
        exact hzero j (by omega)
  · (repeat' (first | refine JC.seq ?_ | refine JC.ops ?_ | refine JO.nil ?_ | refine JX.thenN ?_ | (apply r_move; exact rfl; exact rfl; exact rfl) | (apply r_lss; exact rfl; exact rfl; exact rfl; exact rfl; all_goals intro hc; all_goals try (exfalso; omega)) | refine JX.thenE ?_ | refine JC.exit ?_ | refine JC.condF rfl ?_ | refine JX.blockE ?_))
    refine r_call0 trivial rfl rfl rfl (fun w hk hs => c_norm w _ _ _ _ (hO.rd.at hk hs (by (repeat' first | exact HSub.nil _ | exact HSub.hd | exact HSub.in0 | exact HSub.refl _ | refine HSub.skip ?_ | refine HSub.skipN ?_))) (by omega)) fun w v w' _ _ _ hR => ?_
    obtain ⟨q, hq, rfl, hnq⟩ := hR
    (repeat' (first | refine JO.nil ?_ | refine JX.thenN ?_ | (apply r_assign; exact rfl; exact rfl; exact rfl) | refine JC.ret ?_))
    have hown := hO.hd hq
    rw [← hnq] at hown
    have hql : (nrm zs).length = q := hown.len
    refine JX.ret1 rfl (fun a w' st => ⟨st.kp, N, nrm zs, st.newOf rfl (by (repeat' first | exact HSub.nil _ | exact HSub.hd | exact HSub.in0 | exact HSub.refl _ | refine HSub.skip ?_ | refine HSub.skipN ?_)), by rw [hql]; exact hown, Dig.of hz, ?_⟩)
    rw [val_nrm, hval, List.take_of_length_le (by omega)]

end Go.Proofs.YtdehklhdjbkneaaDoor
