/- The sum of words. -/
import Derived.Test.YtdehklhdjbkneaaDoorWidD
namespace Go.Proofs.YtdehklhdjbkneaaDoor
open Go Go.RowKit
set_option linter.unusedSimpArgs false
set_option linter.unusedVariables false
set_option linter.unusedSectionVars false

theorem tab_zero (n j : Nat) : (tab n fun _ => 0).getD j 0 = 0 := by
  by_cases h : j < n
  · rw [List.getD, tab_get h]; rfl
  · rw [List.getD, List.getElem?_eq_none (by simp; omega)]; rfl
theorem add_round {b P c s x y a v : Nat} (hs : s = x + c + y) (h : v + P * c = a) : (v + P * (s % b)) + (P * b) * (s / b) = a + P * x + P * y := by
  have h1 : P * (s % b) + P * b * (s / b) = P * s := by rw [Nat.mul_assoc, ← Nat.mul_add, Nat.mod_add_div]
  rw [Nat.add_assoc, h1, hs, Nat.mul_add, Nat.mul_add, ← h]
  omega
theorem OwnU.head {N : SHeap} {b n k cap : Nat} {xs : List Nat} (h : OwnU N (.slice (some ⟨b, 0, none⟩) n cap) n xs) (hk : k ≤ n) (h0 : 0 < n) : OwnU N (.slice (some ⟨b, 0, none⟩) k cap) k (xs.take k) := by
  have hl := h.len
  obtain ⟨b', cap', rest, h1, rfl, h2, h3, h4⟩ := h.named h0
  simp only [Value.slice.injEq, Option.some.injEq, Addr.mk.injEq, and_true, true_and] at h1
  obtain ⟨rfl, rfl⟩ := h1
  have e : rowCU xs rest = rowCU (xs.take k) ((xs.drop k).map uv ++ rest) := by
    apply Array.ext'
    show xs.map uv ++ rest = (xs.take k).map uv ++ ((xs.drop k).map uv ++ rest)
    rw [← List.append_assoc, ← List.map_append, List.take_append_drop]
  rw [e]
  exact OwnU.ofNamed (by simp; omega) (by omega) (by simp; omega) h4

set_option maxHeartbeats 8000000 in
theorem c_add (w : World) (v u : Value) (n k : Nat) (xs ys : List Nat) (hv : WU w v n xs) (hu : WU w u k ys) (hx : ∀ x ∈ xs, x < W32) (hy : ∀ x ∈ ys, x < W32) (hn : n ≤ 1000000) (hk : k ≤ 1000000) :
    Calls Tryd.prog 53 #[v, u] w (Ret fun v w' => Kp [] w w' ∧ ∃ N zs, New N w w' ∧ OwnU N v zs.length zs ∧ Dig W32 zs ∧ val W32 zs = val W32 xs + val W32 ys) := by
  have hlx := hv.len
  have hly := hu.len
  by_cases hlt : n < k
  · refine calls_of_S [] [] (by simp) [] Tryd.func53 rfl mixed (by kernel_rfl) Tryd.ntmps53 Tryd.results53 rfl ⟨by simp, by simp⟩ (by simp) ?_
    simp only [toS, textOps, toSOp, kindAt, kindOf, odAt, sopsAt, ordOf, zipF]
    (repeat' (first | refine JC.seq ?_ | refine JC.ops ?_ | refine JO.nil ?_ | refine JX.thenN ?_ | (apply r_move; exact rfl; exact rfl; exact rfl) | (apply r_assign; exact rfl; exact rfl; exact rfl) | (apply r_add1; exact rfl; exact rfl; exact rfl; exact rfl; omega) | (apply r_lenU; exact rfl; exact rfl; exact rfl; (first | assumption | exact WU.rd (by assumption) rfl [] | exact OwnU.rd (by assumption))) | (apply r_lss; exact rfl; exact rfl; exact rfl; exact rfl; all_goals intro hc; all_goals try (exfalso; omega)) | refine JC.condT rfl ?_))
    refine r_make (n := k + 1) rfl rfl rfl rfl rfl (by omega) (by omega) (fun b5 => ?_)
    have hO := own_zerosU b5 (k + 1) (by simp only [maxLen]; omega)
    (repeat' (first | refine JC.seq ?_ | refine JC.ops ?_ | refine JO.nil ?_ | refine JX.thenN ?_ | (apply r_move; exact rfl; exact rfl; exact rfl) | (apply r_assign; exact rfl; exact rfl; exact rfl) | (apply r_lenU; exact rfl; exact rfl; exact rfl; (first | assumption | exact WU.rd (by assumption) rfl [] | exact OwnU.rd (by assumption))) | refine JC.block ?_))
    refine JC.loopH (ι := Nat × Nat × SHeap × List Nat) ⟨fun z => [(22, nv z.1), (21, nv k), (6, uv z.2.1), (5, .slice (some ⟨b5, 0, none⟩) (k + 1) (k + 1)), (0, u), (1, v)], fun z => z.2.2.1 ++ [],
      fun z => z.1 ≤ k ∧ OwnU z.2.2.1 (.slice (some ⟨b5, 0, none⟩) (k + 1) (k + 1)) (k + 1) z.2.2.2 ∧ (∀ x ∈ z.2.2.2, x < W32) ∧ z.2.1 ≤ 1 ∧ val W32 (z.2.2.2.take z.1) + W32 ^ z.1 * z.2.1 = val W32 (ys.take z.1) + val W32 (xs.take z.1) ∧ ∀ j, z.1 ≤ j → z.2.2.2.getD j 0 = 0, fun z => k - z.1⟩
      (0, 0, _, _) ⟨Nat.zero_le _, hO, fun x hx => by obtain ⟨a, _, rfl⟩ := List.mem_map.1 hx; decide, Nat.zero_le _, by simp [val], fun j _ => tab_zero _ j⟩ (by repeat first | exact trivial | refine ⟨rfl, ?_⟩) (by (first | exact HSub.refl _ | (repeat' first | exact HSub.nil _ | exact HSub.refl _ | refine HSub.at 0 rfl ?_ | refine HSub.at 1 rfl ?_ | refine HSub.at 2 rfl ?_ | refine HSub.at 3 rfl ?_ | refine HSub.at 4 rfl ?_ | refine HSub.at 5 rfl ?_ | refine HSub.at 6 rfl ?_ | refine HSub.at 7 rfl ?_))) (fun z hz => ?_)
    clear hO
    obtain ⟨i, c, N, zs⟩ := z
    obtain ⟨hi, hO, hz, hc1, hval, hzero⟩ := hz
    dsimp only at hi hO hz hc1 hval hzero ⊢
    have hlz := hO.len
    by_cases hin : i < k
    · have hxi : ys.getD i 0 < 4294967296 := mem_getD_lt (b := W32) (by decide) hy i
      have hyi : xs.getD i 0 < 4294967296 := mem_getD_lt (b := W32) (by decide) hx i
      by_cases hik : i < n
      · (repeat' (first | refine JC.seq ?_ | refine JC.ops ?_ | refine JO.nil ?_ | refine JX.thenN ?_ | (apply r_move; exact rfl; exact rfl; exact rfl) | (apply r_assign; exact rfl; exact rfl; exact rfl) | (apply r_idxU; exact rfl; exact rfl; exact rfl; exact rfl; (first | assumption | exact WU.rd (by assumption) rfl [] | exact OwnU.rd (by assumption)); (first | assumption | omega)) | (apply r_ldU; exact rfl; exact rfl; exact rfl; exact rfl; (first | assumption | exact WU.rd (by assumption) rfl [] | exact OwnU.rd (by assumption)); (repeat' first | exact HSub.nil _ | exact HSub.hd | exact HSub.in0 | exact HSub.refl _ | refine HSub.skip ?_ | refine HSub.skipN ?_); (first | assumption | omega)) | (apply r_lenU; exact rfl; exact rfl; exact rfl; (first | assumption | exact WU.rd (by assumption) rfl [] | exact OwnU.rd (by assumption))) | (apply r_addU; exact rfl; exact rfl; exact rfl; exact rfl; (first | assumption | omega)) | (apply r_maskU; exact rfl; exact rfl; exact rfl; exact rfl; (first | assumption | omega)) | (apply r_lss; exact rfl; exact rfl; exact rfl; exact rfl; all_goals intro hc; all_goals try (exfalso; omega)) | refine JC.skip ?_ | refine JC.condT rfl ?_ | refine JC.block ?_))
        refine r_shrU (j := 32) rfl rfl rfl rfl (by omega) ?_
        (repeat' (first | (apply r_idxB; exact rfl; exact rfl; exact rfl; exact rfl; omega)))
        refine r_stU (A := []) hO rfl rfl trivial rfl rfl (by omega) (fun N' hO' => ?_)
        (repeat' (first | refine JC.ops ?_ | refine JO.nil ?_ | refine JX.thenN ?_ | (apply r_move; exact rfl; exact rfl; exact rfl) | (apply r_assign; exact rfl; exact rfl; exact rfl) | (apply r_add1; exact rfl; exact rfl; exact rfl; exact rfl; omega) | refine JX.blockN ?_))
        refine JX.roundH (i + 1, _, N', _) ⟨by dsimp only; omega, hO', fun x hx => ?_, ?_, ?_, fun j hj => ?_⟩ (by dsimp only; omega) (by repeat first | exact trivial | refine ⟨rfl, ?_⟩) (by (first | exact HSub.refl _ | (repeat' first | exact HSub.nil _ | exact HSub.refl _ | refine HSub.at 0 rfl ?_ | refine HSub.at 1 rfl ?_ | refine HSub.at 2 rfl ?_ | refine HSub.at 3 rfl ?_ | refine HSub.at 4 rfl ?_ | refine HSub.at 5 rfl ?_ | refine HSub.at 6 rfl ?_ | refine HSub.at 7 rfl ?_)))
        · rcases List.mem_or_eq_of_mem_set hx with h | rfl
          · exact hz x h
          · exact Nat.mod_lt _ (by decide)
        · dsimp only; omega
        · dsimp only
          rw [val_take, val_take, val_take, take_set, getD_set_self (by omega), Nat.pow_succ]
          have h := add_round (b := W32) (P := W32 ^ i) (c := c) (s := ys.getD i 0 + c + xs.getD i 0) (x := ys.getD i 0) (y := xs.getD i 0) rfl hval
          rw [Nat.add_add_add_comm, ← Nat.add_assoc]
          exact h
        · dsimp only at hj ⊢
          have := hzero j (by omega)
          rw [List.getD, List.getElem?_set_ne (by omega)]
          exact this
      · have hy0 : xs.getD i 0 = 0 := by rw [List.getD, List.getElem?_eq_none (by omega)]; rfl
        (repeat' (first | refine JC.seq ?_ | refine JC.ops ?_ | refine JO.nil ?_ | refine JX.thenN ?_ | (apply r_move; exact rfl; exact rfl; exact rfl) | (apply r_assign; exact rfl; exact rfl; exact rfl) | (apply r_idxU; exact rfl; exact rfl; exact rfl; exact rfl; (first | assumption | exact WU.rd (by assumption) rfl [] | exact OwnU.rd (by assumption)); (first | assumption | omega)) | (apply r_ldU; exact rfl; exact rfl; exact rfl; exact rfl; (first | assumption | exact WU.rd (by assumption) rfl [] | exact OwnU.rd (by assumption)); (repeat' first | exact HSub.nil _ | exact HSub.hd | exact HSub.in0 | exact HSub.refl _ | refine HSub.skip ?_ | refine HSub.skipN ?_); (first | assumption | omega)) | (apply r_lenU; exact rfl; exact rfl; exact rfl; (first | assumption | exact WU.rd (by assumption) rfl [] | exact OwnU.rd (by assumption))) | (apply r_addU; exact rfl; exact rfl; exact rfl; exact rfl; (first | assumption | omega)) | (apply r_maskU; exact rfl; exact rfl; exact rfl; exact rfl; (first | assumption | omega)) | (apply r_lss; exact rfl; exact rfl; exact rfl; exact rfl; all_goals intro hc; all_goals try (exfalso; omega)) | refine JC.skip ?_ | refine JC.condT rfl ?_ | refine JC.condF rfl ?_ | refine JC.block ?_))
        refine r_shrU (j := 32) rfl rfl rfl rfl (by omega) ?_
        (repeat' (first | (apply r_idxB; exact rfl; exact rfl; exact rfl; exact rfl; omega)))
        refine r_stU (A := []) hO rfl rfl trivial rfl rfl (by omega) (fun N' hO' => ?_)
        (repeat' (first | refine JC.ops ?_ | refine JO.nil ?_ | refine JX.thenN ?_ | (apply r_move; exact rfl; exact rfl; exact rfl) | (apply r_assign; exact rfl; exact rfl; exact rfl) | (apply r_add1; exact rfl; exact rfl; exact rfl; exact rfl; omega) | refine JX.blockN ?_))
        refine JX.roundH (i + 1, _, N', _) ⟨by dsimp only; omega, hO', fun x hx => ?_, ?_, ?_, fun j hj => ?_⟩ (by dsimp only; omega) (by repeat first | exact trivial | refine ⟨rfl, ?_⟩) (by (first | exact HSub.refl _ | (repeat' first | exact HSub.nil _ | exact HSub.refl _ | refine HSub.at 0 rfl ?_ | refine HSub.at 1 rfl ?_ | refine HSub.at 2 rfl ?_ | refine HSub.at 3 rfl ?_ | refine HSub.at 4 rfl ?_ | refine HSub.at 5 rfl ?_ | refine HSub.at 6 rfl ?_ | refine HSub.at 7 rfl ?_)))
        · rcases List.mem_or_eq_of_mem_set hx with h | rfl
          · exact hz x h
          · exact Nat.mod_lt _ (by decide)
        · dsimp only; omega
        · dsimp only
          rw [val_take, val_take, val_take, take_set, getD_set_self (by omega), Nat.pow_succ]
          have h := add_round (b := W32) (P := W32 ^ i) (c := c) (s := ys.getD i 0 + c) (x := ys.getD i 0) (y := xs.getD i 0) (by rw [hy0]; rfl) hval
          rw [Nat.add_add_add_comm, ← Nat.add_assoc]
          exact h
        · dsimp only at hj ⊢
          have := hzero j (by omega)
          rw [List.getD, List.getElem?_set_ne (by omega)]
          exact this
    · (repeat' (first | refine JC.seq ?_ | refine JC.ops ?_ | refine JO.nil ?_ | refine JX.thenN ?_ | (apply r_move; exact rfl; exact rfl; exact rfl) | (apply r_idxB; exact rfl; exact rfl; exact rfl; exact rfl; omega) | (apply r_lenU; exact rfl; exact rfl; exact rfl; (first | assumption | exact WU.rd (by assumption) rfl [] | exact OwnU.rd (by assumption))) | (apply r_lss; exact rfl; exact rfl; exact rfl; exact rfl; all_goals intro hc; all_goals try (exfalso; omega)) | refine JX.thenE ?_ | refine JC.exit ?_ | refine JC.condF rfl ?_ | refine JX.blockE ?_))
      refine r_stU (A := []) hO rfl rfl trivial rfl rfl (by omega) (fun N' hO' => ?_)
      (repeat' (first | refine JC.seq ?_ | refine JC.ops ?_ | refine JO.nil ?_ | refine JX.thenN ?_ | (apply r_move; exact rfl; exact rfl; exact rfl)))
      refine r_call0 trivial rfl rfl rfl (fun w hk hs => c_norm w _ _ _ _ (hO'.rd.at hk hs (by (repeat' first | exact HSub.nil _ | exact HSub.hd | exact HSub.in0 | exact HSub.refl _ | refine HSub.skip ?_ | refine HSub.skipN ?_))) (by omega)) fun w v w' _ _ _ hR => ?_
      obtain ⟨q, hq, rfl, hnq⟩ := hR
      (repeat' (first | refine JO.nil ?_ | refine JX.thenN ?_ | (apply r_assign; exact rfl; exact rfl; exact rfl) | refine JC.ret ?_))
      have hlt2 : ∀ x ∈ zs.set k c, x < W32 := fun x hx => by
        rcases List.mem_or_eq_of_mem_set hx with h | rfl
        · exact hz x h
        · show x < 4294967296; omega
      have hown := hO'.head hq (by omega)
      rw [← hnq] at hown
      have hql : (nrm (zs.set k c)).length = q := hown.len
      refine JX.ret1 rfl (fun a w' st => ⟨st.kp, N', nrm (zs.set k c), st.newOf rfl (by (repeat' first | exact HSub.nil _ | exact HSub.hd | exact HSub.in0 | exact HSub.refl _ | refine HSub.skip ?_ | refine HSub.skipN ?_)), by rw [hql]; exact hown, Dig.of hlt2, ?_⟩)
      rw [val_nrm]
      have e1 : zs.set k c = (zs.set k c).take (k + 1) := (List.take_of_length_le (by simp; omega)).symm
      rw [e1, val_take, take_set, getD_set_self (by omega)]
      obtain rfl : i = k := by omega
      rw [hval, List.take_of_length_le (by omega), List.take_of_length_le (by omega)]
      exact Nat.add_comm _ _
  · refine calls_of_S [] [] (by simp) [] Tryd.func53 rfl mixed (by kernel_rfl) Tryd.ntmps53 Tryd.results53 rfl ⟨by simp, by simp⟩ (by simp) ?_
    simp only [toS, textOps, toSOp, kindAt, kindOf, odAt, sopsAt, ordOf, zipF]
    (repeat' (first | refine JC.seq ?_ | refine JC.ops ?_ | refine JO.nil ?_ | refine JX.thenN ?_ | (apply r_move; exact rfl; exact rfl; exact rfl) | (apply r_assign; exact rfl; exact rfl; exact rfl) | (apply r_add1; exact rfl; exact rfl; exact rfl; exact rfl; omega) | (apply r_lenU; exact rfl; exact rfl; exact rfl; (first | assumption | exact WU.rd (by assumption) rfl [] | exact OwnU.rd (by assumption))) | (apply r_lss; exact rfl; exact rfl; exact rfl; exact rfl; all_goals intro hc; all_goals try (exfalso; omega)) | refine JC.skip ?_ | refine JC.condF rfl ?_))
    refine r_make (n := n + 1) rfl rfl rfl rfl rfl (by omega) (by omega) (fun b5 => ?_)
    have hO := own_zerosU b5 (n + 1) (by simp only [maxLen]; omega)
    (repeat' (first | refine JC.seq ?_ | refine JC.ops ?_ | refine JO.nil ?_ | refine JX.thenN ?_ | (apply r_move; exact rfl; exact rfl; exact rfl) | (apply r_assign; exact rfl; exact rfl; exact rfl) | (apply r_lenU; exact rfl; exact rfl; exact rfl; (first | assumption | exact WU.rd (by assumption) rfl [] | exact OwnU.rd (by assumption))) | refine JC.block ?_))
    refine JC.loopH (ι := Nat × Nat × SHeap × List Nat) ⟨fun z => [(22, nv z.1), (21, nv n), (6, uv z.2.1), (5, .slice (some ⟨b5, 0, none⟩) (n + 1) (n + 1)), (0, v), (1, u)], fun z => z.2.2.1 ++ [],
      fun z => z.1 ≤ n ∧ OwnU z.2.2.1 (.slice (some ⟨b5, 0, none⟩) (n + 1) (n + 1)) (n + 1) z.2.2.2 ∧ (∀ x ∈ z.2.2.2, x < W32) ∧ z.2.1 ≤ 1 ∧ val W32 (z.2.2.2.take z.1) + W32 ^ z.1 * z.2.1 = val W32 (xs.take z.1) + val W32 (ys.take z.1) ∧ ∀ j, z.1 ≤ j → z.2.2.2.getD j 0 = 0, fun z => n - z.1⟩
      (0, 0, _, _) ⟨Nat.zero_le _, hO, fun x hx => by obtain ⟨a, _, rfl⟩ := List.mem_map.1 hx; decide, Nat.zero_le _, by simp [val], fun j _ => tab_zero _ j⟩ (by repeat first | exact trivial | refine ⟨rfl, ?_⟩) (by (first | exact HSub.refl _ | (repeat' first | exact HSub.nil _ | exact HSub.refl _ | refine HSub.at 0 rfl ?_ | refine HSub.at 1 rfl ?_ | refine HSub.at 2 rfl ?_ | refine HSub.at 3 rfl ?_ | refine HSub.at 4 rfl ?_ | refine HSub.at 5 rfl ?_ | refine HSub.at 6 rfl ?_ | refine HSub.at 7 rfl ?_))) (fun z hz => ?_)
    clear hO
    obtain ⟨i, c, N, zs⟩ := z
    obtain ⟨hi, hO, hz, hc1, hval, hzero⟩ := hz
    dsimp only at hi hO hz hc1 hval hzero ⊢
    have hlz := hO.len
    by_cases hin : i < n
    · have hxi : xs.getD i 0 < 4294967296 := mem_getD_lt (b := W32) (by decide) hx i
      have hyi : ys.getD i 0 < 4294967296 := mem_getD_lt (b := W32) (by decide) hy i
      by_cases hik : i < k
      · (repeat' (first | refine JC.seq ?_ | refine JC.ops ?_ | refine JO.nil ?_ | refine JX.thenN ?_ | (apply r_move; exact rfl; exact rfl; exact rfl) | (apply r_assign; exact rfl; exact rfl; exact rfl) | (apply r_idxU; exact rfl; exact rfl; exact rfl; exact rfl; (first | assumption | exact WU.rd (by assumption) rfl [] | exact OwnU.rd (by assumption)); (first | assumption | omega)) | (apply r_ldU; exact rfl; exact rfl; exact rfl; exact rfl; (first | assumption | exact WU.rd (by assumption) rfl [] | exact OwnU.rd (by assumption)); (repeat' first | exact HSub.nil _ | exact HSub.hd | exact HSub.in0 | exact HSub.refl _ | refine HSub.skip ?_ | refine HSub.skipN ?_); (first | assumption | omega)) | (apply r_lenU; exact rfl; exact rfl; exact rfl; (first | assumption | exact WU.rd (by assumption) rfl [] | exact OwnU.rd (by assumption))) | (apply r_addU; exact rfl; exact rfl; exact rfl; exact rfl; (first | assumption | omega)) | (apply r_maskU; exact rfl; exact rfl; exact rfl; exact rfl; (first | assumption | omega)) | (apply r_lss; exact rfl; exact rfl; exact rfl; exact rfl; all_goals intro hc; all_goals try (exfalso; omega)) | refine JC.skip ?_ | refine JC.condT rfl ?_ | refine JC.block ?_))
        refine r_shrU (j := 32) rfl rfl rfl rfl (by omega) ?_
        (repeat' (first | (apply r_idxB; exact rfl; exact rfl; exact rfl; exact rfl; omega)))
        refine r_stU (A := []) hO rfl rfl trivial rfl rfl (by omega) (fun N' hO' => ?_)
        (repeat' (first | refine JC.ops ?_ | refine JO.nil ?_ | refine JX.thenN ?_ | (apply r_move; exact rfl; exact rfl; exact rfl) | (apply r_assign; exact rfl; exact rfl; exact rfl) | (apply r_add1; exact rfl; exact rfl; exact rfl; exact rfl; omega) | refine JX.blockN ?_))
        refine JX.roundH (i + 1, _, N', _) ⟨by dsimp only; omega, hO', fun x hx => ?_, ?_, ?_, fun j hj => ?_⟩ (by dsimp only; omega) (by repeat first | exact trivial | refine ⟨rfl, ?_⟩) (by (first | exact HSub.refl _ | (repeat' first | exact HSub.nil _ | exact HSub.refl _ | refine HSub.at 0 rfl ?_ | refine HSub.at 1 rfl ?_ | refine HSub.at 2 rfl ?_ | refine HSub.at 3 rfl ?_ | refine HSub.at 4 rfl ?_ | refine HSub.at 5 rfl ?_ | refine HSub.at 6 rfl ?_ | refine HSub.at 7 rfl ?_)))
        · rcases List.mem_or_eq_of_mem_set hx with h | rfl
          · exact hz x h
          · exact Nat.mod_lt _ (by decide)
        · dsimp only; omega
        · dsimp only
          rw [val_take, val_take, val_take, take_set, getD_set_self (by omega), Nat.pow_succ]
          have h := add_round (b := W32) (P := W32 ^ i) (c := c) (s := xs.getD i 0 + c + ys.getD i 0) (x := xs.getD i 0) (y := ys.getD i 0) rfl hval
          rw [Nat.add_add_add_comm, ← Nat.add_assoc]
          exact h
        · dsimp only at hj ⊢
          have := hzero j (by omega)
          rw [List.getD, List.getElem?_set_ne (by omega)]
          exact this
      · have hy0 : ys.getD i 0 = 0 := by rw [List.getD, List.getElem?_eq_none (by omega)]; rfl
        (repeat' (first | refine JC.seq ?_ | refine JC.ops ?_ | refine JO.nil ?_ | refine JX.thenN ?_ | (apply r_move; exact rfl; exact rfl; exact rfl) | (apply r_assign; exact rfl; exact rfl; exact rfl) | (apply r_idxU; exact rfl; exact rfl; exact rfl; exact rfl; (first | assumption | exact WU.rd (by assumption) rfl [] | exact OwnU.rd (by assumption)); (first | assumption | omega)) | (apply r_ldU; exact rfl; exact rfl; exact rfl; exact rfl; (first | assumption | exact WU.rd (by assumption) rfl [] | exact OwnU.rd (by assumption)); (repeat' first | exact HSub.nil _ | exact HSub.hd | exact HSub.in0 | exact HSub.refl _ | refine HSub.skip ?_ | refine HSub.skipN ?_); (first | assumption | omega)) | (apply r_lenU; exact rfl; exact rfl; exact rfl; (first | assumption | exact WU.rd (by assumption) rfl [] | exact OwnU.rd (by assumption))) | (apply r_addU; exact rfl; exact rfl; exact rfl; exact rfl; (first | assumption | omega)) | (apply r_maskU; exact rfl; exact rfl; exact rfl; exact rfl; (first | assumption | omega)) | (apply r_lss; exact rfl; exact rfl; exact rfl; exact rfl; all_goals intro hc; all_goals try (exfalso; omega)) | refine JC.skip ?_ | refine JC.condT rfl ?_ | refine JC.condF rfl ?_ | refine JC.block ?_))
        refine r_shrU (j := 32) rfl rfl rfl rfl (by omega) ?_
        (repeat' (first | (apply r_idxB; exact rfl; exact rfl; exact rfl; exact rfl; omega)))
        refine r_stU (A := []) hO rfl rfl trivial rfl rfl (by omega) (fun N' hO' => ?_)
        (repeat' (first | refine JC.ops ?_ | refine JO.nil ?_ | refine JX.thenN ?_ | (apply r_move; exact rfl; exact rfl; exact rfl) | (apply r_assign; exact rfl; exact rfl; exact rfl) | (apply r_add1; exact rfl; exact rfl; exact rfl; exact rfl; omega) | refine JX.blockN ?_))
        refine JX.roundH (i + 1, _, N', _) ⟨by dsimp only; omega, hO', fun x hx => ?_, ?_, ?_, fun j hj => ?_⟩ (by dsimp only; omega) (by repeat first | exact trivial | refine ⟨rfl, ?_⟩) (by (first | exact HSub.refl _ | (repeat' first | exact HSub.nil _ | exact HSub.refl _ | refine HSub.at 0 rfl ?_ | refine HSub.at 1 rfl ?_ | refine HSub.at 2 rfl ?_ | refine HSub.at 3 rfl ?_ | refine HSub.at 4 rfl ?_ | refine HSub.at 5 rfl ?_ | refine HSub.at 6 rfl ?_ | refine HSub.at 7 rfl ?_)))
        · rcases List.mem_or_eq_of_mem_set hx with h | rfl
          · exact hz x h
          · exact Nat.mod_lt _ (by decide)
        · dsimp only; omega
        · dsimp only
          rw [val_take, val_take, val_take, take_set, getD_set_self (by omega), Nat.pow_succ]
          have h := add_round (b := W32) (P := W32 ^ i) (c := c) (s := xs.getD i 0 + c) (x := xs.getD i 0) (y := ys.getD i 0) (by rw [hy0]; rfl) hval
          rw [Nat.add_add_add_comm, ← Nat.add_assoc]
          exact h
        · dsimp only at hj ⊢
          have := hzero j (by omega)
          rw [List.getD, List.getElem?_set_ne (by omega)]
          exact this
    · (repeat' (first | refine JC.seq ?_ | refine JC.ops ?_ | refine JO.nil ?_ | refine JX.thenN ?_ | (apply r_move; exact rfl; exact rfl; exact rfl) | (apply r_idxB; exact rfl; exact rfl; exact rfl; exact rfl; omega) | (apply r_lenU; exact rfl; exact rfl; exact rfl; (first | assumption | exact WU.rd (by assumption) rfl [] | exact OwnU.rd (by assumption))) | (apply r_lss; exact rfl; exact rfl; exact rfl; exact rfl; all_goals intro hc; all_goals try (exfalso; omega)) | refine JX.thenE ?_ | refine JC.exit ?_ | refine JC.condF rfl ?_ | refine JX.blockE ?_))
      refine r_stU (A := []) hO rfl rfl trivial rfl rfl (by omega) (fun N' hO' => ?_)
      (repeat' (first | refine JC.seq ?_ | refine JC.ops ?_ | refine JO.nil ?_ | refine JX.thenN ?_ | (apply r_move; exact rfl; exact rfl; exact rfl)))
      refine r_call0 trivial rfl rfl rfl (fun w hk hs => c_norm w _ _ _ _ (hO'.rd.at hk hs (by (repeat' first | exact HSub.nil _ | exact HSub.hd | exact HSub.in0 | exact HSub.refl _ | refine HSub.skip ?_ | refine HSub.skipN ?_))) (by omega)) fun w v w' _ _ _ hR => ?_
      obtain ⟨q, hq, rfl, hnq⟩ := hR
      (repeat' (first | refine JO.nil ?_ | refine JX.thenN ?_ | (apply r_assign; exact rfl; exact rfl; exact rfl) | refine JC.ret ?_))
      have hlt2 : ∀ x ∈ zs.set n c, x < W32 := fun x hx => by
        rcases List.mem_or_eq_of_mem_set hx with h | rfl
        · exact hz x h
        · show x < 4294967296; omega
      have hown := hO'.head hq (by omega)
      rw [← hnq] at hown
      have hql : (nrm (zs.set n c)).length = q := hown.len
      refine JX.ret1 rfl (fun a w' st => ⟨st.kp, N', nrm (zs.set n c), st.newOf rfl (by (repeat' first | exact HSub.nil _ | exact HSub.hd | exact HSub.in0 | exact HSub.refl _ | refine HSub.skip ?_ | refine HSub.skipN ?_)), by rw [hql]; exact hown, Dig.of hlt2, ?_⟩)
      rw [val_nrm]
      have e1 : zs.set n c = (zs.set n c).take (n + 1) := (List.take_of_length_le (by simp; omega)).symm
      rw [e1, val_take, take_set, getD_set_self (by omega)]
      obtain rfl : i = n := by omega
      rw [hval, List.take_of_length_le (by omega), List.take_of_length_le (by omega)]
end Go.Proofs.YtdehklhdjbkneaaDoor
