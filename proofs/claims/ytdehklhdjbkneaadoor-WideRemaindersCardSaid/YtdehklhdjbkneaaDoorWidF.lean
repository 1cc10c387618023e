/- The difference of words. -/
import Derived.Test.YtdehklhdjbkneaaDoorWidE
namespace Go.Proofs.YtdehklhdjbkneaaDoor
open Go Go.RowKit
set_option linter.unusedSimpArgs false
set_option linter.unusedVariables false
set_option linter.unusedSectionVars false

theorem OwnU.head0 {N : SHeap} {b n k cap : Nat} {xs : List Nat} (h : OwnU N (.slice (some ⟨b, 0, none⟩) n cap) n xs) (hk : k ≤ n) : OwnU N (.slice (some ⟨b, 0, none⟩) k cap) k (xs.take k) := by
  rcases Nat.eq_zero_or_pos n with h0 | h0
  · subst h0
    obtain rfl : k = 0 := by omega
    have hl := h.len
    rw [List.eq_nil_of_length_eq_zero hl] at h ⊢
    exact h
  · exact h.head hk h0
theorem sub_round {P c c' d x y a v z : Nat} (hs : x + 4294967296 * c' = d + c + y) (h : a + P * c = v + z) : (a + P * x) + (P * W32) * c' = (v + P * d) + (z + P * y) := by
  have h1 : P * x + P * W32 * c' = P * d + P * c + P * y := by rw [Nat.mul_assoc, ← Nat.mul_add, show x + W32 * c' = d + c + y from hs, Nat.mul_add, Nat.mul_add]
  omega

set_option maxHeartbeats 8000000 in
theorem c_sub (w : World) (v u : Value) (n k : Nat) (xs ys : List Nat) (hv : WU w v n xs) (hu : WU w u k ys) (hx : ∀ x ∈ xs, x < W32) (hy : ∀ x ∈ ys, x < W32) (hn : n ≤ 1000000) (hk : k ≤ n) (hle : val W32 ys ≤ val W32 xs) :
    Calls Tryd.prog 54 #[v, u] w (Ret fun v w' => Kp [] w w' ∧ ∃ N zs, New N w w' ∧ OwnU N v zs.length zs ∧ Dig W32 zs ∧ val W32 zs + val W32 ys = val W32 xs) := by
  have hlx := hv.len
  have hly := hu.len
  refine calls_of_S [] [] (by simp) [] Tryd.func54 rfl mixed (by kernel_rfl) Tryd.ntmps54 Tryd.results54 rfl ⟨by simp, by simp⟩ (by simp) ?_
  simp only [toS, textOps, toSOp, kindAt, kindOf, odAt, sopsAt, ordOf, zipF]
  (repeat' (first | refine JC.seq ?_ | refine JC.ops ?_ | refine JO.nil ?_ | refine JX.thenN ?_ | (apply r_move; exact rfl; exact rfl; exact rfl) | (apply r_assign; exact rfl; exact rfl; exact rfl) | (apply r_lenU; exact rfl; exact rfl; exact rfl; (first | assumption | exact WU.rd (by assumption) rfl [] | exact OwnU.rd (by assumption)))))
  refine r_make (n := n) rfl rfl rfl rfl rfl (by omega) (by omega) (fun b5 => ?_)
  have hO := own_zerosU b5 n (by simp only [maxLen]; omega)
  (repeat' (first | refine JC.seq ?_ | refine JC.ops ?_ | refine JO.nil ?_ | refine JX.thenN ?_ | (apply r_move; exact rfl; exact rfl; exact rfl) | (apply r_assign; exact rfl; exact rfl; exact rfl) | (apply r_lenU; exact rfl; exact rfl; exact rfl; (first | assumption | exact WU.rd (by assumption) rfl [] | exact OwnU.rd (by assumption))) | refine JC.block ?_))
  refine JC.loopH (ι := Nat × Nat × SHeap × List Nat) ⟨fun z => [(14, nv z.1), (13, nv n), (6, uv z.2.1), (5, .slice (some ⟨b5, 0, none⟩) n n), (0, v), (1, u)], fun z => z.2.2.1 ++ [],
    fun z => z.1 ≤ n ∧ OwnU z.2.2.1 (.slice (some ⟨b5, 0, none⟩) n n) n z.2.2.2 ∧ (∀ x ∈ z.2.2.2, x < W32) ∧ z.2.1 ≤ 1 ∧ val W32 (xs.take z.1) + W32 ^ z.1 * z.2.1 = val W32 (z.2.2.2.take z.1) + val W32 (ys.take z.1), fun z => n - z.1⟩
    (0, 0, _, _) ⟨Nat.zero_le _, hO, fun x hx => by obtain ⟨a, _, rfl⟩ := List.mem_map.1 hx; decide, Nat.zero_le _, by simp [val]⟩ (by repeat first | exact trivial | refine ⟨rfl, ?_⟩) (by (first | exact HSub.refl _ | (repeat' first | exact HSub.nil _ | exact HSub.refl _ | refine HSub.at 0 rfl ?_ | refine HSub.at 1 rfl ?_ | refine HSub.at 2 rfl ?_ | refine HSub.at 3 rfl ?_ | refine HSub.at 4 rfl ?_ | refine HSub.at 5 rfl ?_ | refine HSub.at 6 rfl ?_ | refine HSub.at 7 rfl ?_))) (fun z hz => ?_)
  clear hO
  obtain ⟨i, c, N, zs⟩ := z
  obtain ⟨hi, hO, hz, hc1, hval⟩ := hz
  dsimp only at hi hO hz hc1 hval ⊢
  have hlz := hO.len
  by_cases hin : i < n
  · have hxi : xs.getD i 0 < 4294967296 := mem_getD_lt (b := W32) (by decide) hx i
    have hyi : ys.getD i 0 < 4294967296 := mem_getD_lt (b := W32) (by decide) hy i
    by_cases hik : i < k
    · (repeat' (first | refine JC.seq ?_ | refine JC.ops ?_ | refine JO.nil ?_ | refine JX.thenN ?_ | (apply r_move; exact rfl; exact rfl; exact rfl) | (apply r_assign; exact rfl; exact rfl; exact rfl) | (apply r_idxU; exact rfl; exact rfl; exact rfl; exact rfl; (first | assumption | exact WU.rd (by assumption) rfl [] | exact OwnU.rd (by assumption)); (first | assumption | omega)) | (apply r_ldU; exact rfl; exact rfl; exact rfl; exact rfl; (first | assumption | exact WU.rd (by assumption) rfl [] | exact OwnU.rd (by assumption)); (repeat' first | exact HSub.nil _ | exact HSub.hd | exact HSub.in0 | exact HSub.refl _ | refine HSub.skip ?_ | refine HSub.skipN ?_); (first | assumption | omega)) | (apply r_lenU; exact rfl; exact rfl; exact rfl; (first | assumption | exact WU.rd (by assumption) rfl [] | exact OwnU.rd (by assumption))) | (apply r_maskU; exact rfl; exact rfl; exact rfl; exact rfl; (first | assumption | omega)) | (apply r_subU; exact rfl; exact rfl; exact rfl; exact rfl; (first | assumption | omega)) | (apply r_lss; exact rfl; exact rfl; exact rfl; exact rfl; all_goals intro hc; all_goals try (exfalso; omega)) | refine JC.skip ?_ | refine JC.condT rfl ?_ | refine JC.block ?_))
      refine r_shrU (j := 63) rfl rfl rfl rfl (by omega) ?_
      (repeat' (first | (apply r_idxB; exact rfl; exact rfl; exact rfl; exact rfl; omega)))
      refine r_stU (A := []) hO rfl rfl trivial rfl rfl (by omega) (fun N' hO' => ?_)
      (repeat' (first | refine JC.ops ?_ | refine JO.nil ?_ | refine JX.thenN ?_ | (apply r_move; exact rfl; exact rfl; exact rfl) | (apply r_assign; exact rfl; exact rfl; exact rfl) | (apply r_add1; exact rfl; exact rfl; exact rfl; exact rfl; omega) | refine JX.blockN ?_))
      refine JX.roundH (i + 1, _, N', _) ⟨by dsimp only; omega, hO', fun x hx => ?_, ?_, ?_⟩ (by dsimp only; omega) (by repeat first | exact trivial | refine ⟨rfl, ?_⟩) (by (first | exact HSub.refl _ | (repeat' first | exact HSub.nil _ | exact HSub.refl _ | refine HSub.at 0 rfl ?_ | refine HSub.at 1 rfl ?_ | refine HSub.at 2 rfl ?_ | refine HSub.at 3 rfl ?_ | refine HSub.at 4 rfl ?_ | refine HSub.at 5 rfl ?_ | refine HSub.at 6 rfl ?_ | refine HSub.at 7 rfl ?_)))
      · rcases List.mem_or_eq_of_mem_set hx with h | rfl
        · exact hz x h
        · exact Nat.mod_lt _ (by decide)
      · dsimp only; omega
      · dsimp only
        rw [val_take, val_take, val_take, take_set, getD_set_self (by omega), Nat.pow_succ]
        exact sub_round (by omega) hval
    · have hy0 : ys.getD i 0 = 0 := by rw [List.getD, List.getElem?_eq_none (by omega)]; rfl
      (repeat' (first | refine JC.seq ?_ | refine JC.ops ?_ | refine JO.nil ?_ | refine JX.thenN ?_ | (apply r_move; exact rfl; exact rfl; exact rfl) | (apply r_assign; exact rfl; exact rfl; exact rfl) | (apply r_idxU; exact rfl; exact rfl; exact rfl; exact rfl; (first | assumption | exact WU.rd (by assumption) rfl [] | exact OwnU.rd (by assumption)); (first | assumption | omega)) | (apply r_ldU; exact rfl; exact rfl; exact rfl; exact rfl; (first | assumption | exact WU.rd (by assumption) rfl [] | exact OwnU.rd (by assumption)); (repeat' first | exact HSub.nil _ | exact HSub.hd | exact HSub.in0 | exact HSub.refl _ | refine HSub.skip ?_ | refine HSub.skipN ?_); (first | assumption | omega)) | (apply r_lenU; exact rfl; exact rfl; exact rfl; (first | assumption | exact WU.rd (by assumption) rfl [] | exact OwnU.rd (by assumption))) | (apply r_maskU; exact rfl; exact rfl; exact rfl; exact rfl; (first | assumption | omega)) | (apply r_subU; exact rfl; exact rfl; exact rfl; exact rfl; (first | assumption | omega)) | (apply r_lss; exact rfl; exact rfl; exact rfl; exact rfl; all_goals intro hc; all_goals try (exfalso; omega)) | refine JC.skip ?_ | refine JC.condT rfl ?_ | refine JC.condF rfl ?_ | refine JC.block ?_))
      refine r_shrU (j := 63) rfl rfl rfl rfl (by omega) ?_
      (repeat' (first | (apply r_idxB; exact rfl; exact rfl; exact rfl; exact rfl; omega)))
      refine r_stU (A := []) hO rfl rfl trivial rfl rfl (by omega) (fun N' hO' => ?_)
      (repeat' (first | refine JC.ops ?_ | refine JO.nil ?_ | refine JX.thenN ?_ | (apply r_move; exact rfl; exact rfl; exact rfl) | (apply r_assign; exact rfl; exact rfl; exact rfl) | (apply r_add1; exact rfl; exact rfl; exact rfl; exact rfl; omega) | refine JX.blockN ?_))
      refine JX.roundH (i + 1, _, N', _) ⟨by dsimp only; omega, hO', fun x hx => ?_, ?_, ?_⟩ (by dsimp only; omega) (by repeat first | exact trivial | refine ⟨rfl, ?_⟩) (by (first | exact HSub.refl _ | (repeat' first | exact HSub.nil _ | exact HSub.refl _ | refine HSub.at 0 rfl ?_ | refine HSub.at 1 rfl ?_ | refine HSub.at 2 rfl ?_ | refine HSub.at 3 rfl ?_ | refine HSub.at 4 rfl ?_ | refine HSub.at 5 rfl ?_ | refine HSub.at 6 rfl ?_ | refine HSub.at 7 rfl ?_)))
      · rcases List.mem_or_eq_of_mem_set hx with h | rfl
        · exact hz x h
        · exact Nat.mod_lt _ (by decide)
      · dsimp only; omega
      · dsimp only
        rw [val_take, val_take, val_take, take_set, getD_set_self (by omega), Nat.pow_succ]
        exact sub_round (by omega) hval
  · (repeat' (first | refine JC.seq ?_ | refine JC.ops ?_ | refine JO.nil ?_ | refine JX.thenN ?_ | (apply r_move; exact rfl; exact rfl; exact rfl) | (apply r_lss; exact rfl; exact rfl; exact rfl; exact rfl; all_goals intro hc; all_goals try (exfalso; omega)) | refine JX.thenE ?_ | refine JC.exit ?_ | refine JC.condF rfl ?_ | refine JX.blockE ?_))
    refine r_call0 trivial rfl rfl rfl (fun w hk hs => c_norm w _ _ _ _ (hO.rd.at hk hs (by (repeat' first | exact HSub.nil _ | exact HSub.hd | exact HSub.in0 | exact HSub.refl _ | refine HSub.skip ?_ | refine HSub.skipN ?_))) (by omega)) fun w v w' _ _ _ hR => ?_
    obtain ⟨q, hq, rfl, hnq⟩ := hR
    (repeat' (first | refine JO.nil ?_ | refine JX.thenN ?_ | (apply r_assign; exact rfl; exact rfl; exact rfl) | refine JC.ret ?_))
    have hown := hO.head0 hq
    rw [← hnq] at hown
    have hql : (nrm zs).length = q := hown.len
    refine JX.ret1 rfl (fun a w' st => ⟨st.kp, N, nrm zs, st.newOf rfl (by (repeat' first | exact HSub.nil _ | exact HSub.hd | exact HSub.in0 | exact HSub.refl _ | refine HSub.skip ?_ | refine HSub.skipN ?_)), by rw [hql]; exact hown, Dig.of hz, ?_⟩)
    rw [val_nrm]
    obtain rfl : i = n := by omega
    rw [List.take_of_length_le (by omega), List.take_of_length_le (by omega), List.take_of_length_le (by omega)] at hval
    have h1 := val_lt hz
    rw [hlz] at h1
    have h2 : c = 0 := by
      rcases (show c = 0 ∨ c = 1 by omega) with h | rfl
      · exact h
      · rw [Nat.mul_one] at hval; omega
    subst h2
    rw [Nat.mul_zero] at hval
    exact hval.symm

end Go.Proofs.YtdehklhdjbkneaaDoor
