import Derived.Test.YtdoogoglfbohaaaDoorMg
import Derived.Test.YtdoogoglfbohaaaDoorMf
namespace Go.Proofs.YtdoogoglfbohaaaDoor
open Go Go.RowKit
set_option linter.unusedSimpArgs false
set_option linter.unusedVariables false
set_option linter.unusedSectionVars false

theorem getD_ge {l : List Nat} {i : Nat} (h : ¬ i < l.length) : l.getD i 0 = 0 := by rw [List.getD, List.getElem?_eq_none (by omega)]; rfl

set_option maxHeartbeats 8000000 in
theorem c_plus (w : World) (v u : Value) (n k : Nat) (xs ys : List Nat) (hv : WN w v n xs) (hu : WN w u k ys) (hx : ∀ x ∈ xs, x < B16) (hy : ∀ x ∈ ys, x < B16) (hn : n ≤ 10000000000) (hk : k ≤ 10000000000) :
    Calls Tryd.prog 59 #[v, u] w (Ret fun v w' => Kp [] w w' ∧ NewR w w' v (val B16 xs + val B16 ys) (n + k + 1)) := by
  have hlx := hv.len
  have hly := hu.len
  obtain ⟨M, hM1, hM2, hM3⟩ : ∃ M, n ≤ M ∧ k ≤ M ∧ (M = n ∨ M = k) := ⟨max n k, by omega, by omega, by omega⟩
  refine calls_of_S [] [] (by simp) [] Tryd.func59 rfl mixed (by kernel_rfl) Tryd.ntmps59 Tryd.results59 rfl ⟨by simp, by simp⟩ (by simp) ?_
  simp only [toS, textOps, toSOp, kindAt, kindOf, odAt, sopsAt, ordOf, zipF]
  (repeat' (first | refine JC.seq ?_ | refine JC.ops ?_ | refine JO.nil ?_ | refine JX.thenN ?_ | (apply r_assign; (iterate 3 exact rfl)) | refine JC.block ?_))
  refine JC.loopH (ι := Nat × Nat × Value × SHeap × List Nat) ⟨fun z => [(7, nv z.1), (6, nv z.2.1), (5, z.2.2.1), (0, v), (1, u)], fun z => z.2.2.2.1 ++ [],
    fun z => z.2.2.2.2.length = z.1 ∧ (z.1 ≤ M ∨ z.1 = M + 1 ∧ z.2.1 = 0) ∧ z.2.1 ≤ 1 ∧ OwnN z.2.2.2.1 z.2.2.1 z.1 z.2.2.2.2 ∧ (∀ x ∈ z.2.2.2.2, x < B16) ∧ val B16 z.2.2.2.2 + B16 ^ z.1 * z.2.1 = val B16 (xs.take z.1) + val B16 (ys.take z.1), fun z => M + 2 - z.1⟩
    (0, 0, _, [], []) ⟨rfl, .inl (Nat.zero_le _), Nat.zero_le _, OwnN.nil, fun _ h => absurd h List.not_mem_nil, by simp [val]⟩ (by repeat first | exact trivial | refine ⟨rfl, ?_⟩) (by exact HSub.nil _) (fun z hz => ?_)
  obtain ⟨i, c, vo, N, zs⟩ := z
  obtain ⟨hlz, hi, hc1, hO, hz, hval⟩ := hz
  dsimp only at hlz hi hc1 hO hz hval ⊢
  have hxi : xs.getD i 0 < 65536 := mem_getD_lt (b := B16) (by decide) hx i
  have hyi : ys.getD i 0 < 65536 := mem_getD_lt (b := B16) (by decide) hy i
  by_cases hin : i < n
  · by_cases hik : i < k
    · (repeat' (first | refine JC.seq ?_ | refine JC.ops ?_ | refine JO.nil ?_ | refine JX.thenN ?_ | (apply r_move; (iterate 3 exact rfl)) | (apply r_assign; (iterate 3 exact rfl)) | (apply r_idxN; (iterate 4 exact rfl); (first | assumption | exact WN.rd (by assumption) rfl [] | exact OwnN.rd (by assumption)); (first | assumption | omega)) | (apply r_ldN; (iterate 4 exact rfl); (first | assumption | exact WN.rd (by assumption) rfl [] | exact OwnN.rd (by assumption)); (repeat' first | exact HSub.nil _ | exact HSub.hd | exact HSub.in0 | exact HSub.refl _ | refine HSub.skip ?_ | refine HSub.skipN ?_); (first | assumption | omega)) | (apply r_lenN; (iterate 3 exact rfl); (first | assumption | exact WN.rd (by assumption) rfl [] | exact OwnN.rd (by assumption))) | (apply r_modN (j := 65536); (iterate 4 exact rfl); omega) | (apply r_addN; (iterate 4 exact rfl); omega) | (apply r_pickT; (iterate 4 exact rfl)) | (apply r_lss; (iterate 4 exact rfl); all_goals intro hc; all_goals try (exfalso; omega)) | (apply r_build1; (iterate 5 exact rfl); (repeat first | exact trivial | refine ⟨rfl, ?_⟩); decide; decide; intro _) | refine JC.skip ?_ | refine JC.condT rfl ?_ | refine JC.block ?_ | (apply r_skip; exact rfl; exact rfl; (first | (intro h; cases h; done) | (intro _; rfl)))))
      rename_i b2
      refine r_appendN (A := [_]) hO (own_lit b2 1 [(c + xs.getD i 0 + ys.getD i 0) % 65536] _ rfl rfl (by decide)).rd (by (repeat' first | exact HSub.nil _ | exact HSub.hd | exact HSub.in0 | exact HSub.refl _ | refine HSub.skip ?_ | refine HSub.skipN ?_)) rfl trivial rfl rfl rfl rfl (by omega) (fun v' N' hO' => ?_)
      (repeat' (first | refine JC.ops ?_ | refine JO.nil ?_ | refine JX.thenN ?_ | (apply r_move; (iterate 3 exact rfl)) | (apply r_assign; (iterate 3 exact rfl)) | (apply r_divN (j := 65536); (iterate 4 exact rfl); omega) | (apply r_add1; (iterate 4 exact rfl); omega) | refine JX.blockN ?_))
      refine JX.roundH (i + 1, (c + xs.getD i 0 + ys.getD i 0) / 65536, v', N', zs ++ [(c + xs.getD i 0 + ys.getD i 0) % 65536]) ⟨by simp only [List.length_append, List.length_singleton]; omega, by dsimp only; omega, by dsimp only; omega, hO', snoc_lt hz (Nat.mod_lt _ (by decide)), ?_⟩ (by dsimp only; omega) (by repeat first | exact trivial | refine ⟨rfl, ?_⟩) (by (repeat' first | exact HSub.refl _ | exact HSub.nil _ | refine HSub.at 0 rfl ?_ | refine HSub.at 1 rfl ?_ | refine HSub.at 2 rfl ?_ | refine HSub.at 3 rfl ?_ | refine HSub.at 4 rfl ?_ | refine HSub.at 5 rfl ?_ | refine HSub.at 6 rfl ?_ | refine HSub.at 7 rfl ?_ | refine HSub.at 8 rfl ?_ | refine HSub.at 9 rfl ?_ | refine HSub.at 10 rfl ?_ | refine HSub.at 11 rfl ?_ | refine HSub.at 12 rfl ?_ | refine HSub.at 13 rfl ?_ | refine HSub.at 14 rfl ?_ | refine HSub.at 15 rfl ?_ | refine HSub.at 16 rfl ?_ | refine HSub.at 17 rfl ?_ | refine HSub.at 18 rfl ?_ | refine HSub.at 19 rfl ?_ | refine HSub.segH ?_ | refine HSub.skip ?_ | refine HSub.skipN ?_))
      dsimp only
      rw [val_snoc, hlz, val_take, val_take, Nat.pow_succ]
      have h := add_round (b := B16) (P := B16 ^ i) (c := c) (s := c + xs.getD i 0 + ys.getD i 0) (x := xs.getD i 0) (y := ys.getD i 0) (by omega) hval
      rw [Nat.add_add_add_comm, ← Nat.add_assoc]
      exact h
    · have hy0 : ys.getD i 0 = 0 := getD_ge (by omega)
      (repeat' (first | refine JC.seq ?_ | refine JC.ops ?_ | refine JO.nil ?_ | refine JX.thenN ?_ | (apply r_move; (iterate 3 exact rfl)) | (apply r_assign; (iterate 3 exact rfl)) | (apply r_idxN; (iterate 4 exact rfl); (first | assumption | exact WN.rd (by assumption) rfl [] | exact OwnN.rd (by assumption)); (first | assumption | omega)) | (apply r_ldN; (iterate 4 exact rfl); (first | assumption | exact WN.rd (by assumption) rfl [] | exact OwnN.rd (by assumption)); (repeat' first | exact HSub.nil _ | exact HSub.hd | exact HSub.in0 | exact HSub.refl _ | refine HSub.skip ?_ | refine HSub.skipN ?_); (first | assumption | omega)) | (apply r_lenN; (iterate 3 exact rfl); (first | assumption | exact WN.rd (by assumption) rfl [] | exact OwnN.rd (by assumption))) | (apply r_modN (j := 65536); (iterate 4 exact rfl); omega) | (apply r_addN; (iterate 4 exact rfl); omega) | (apply r_pickT; (iterate 4 exact rfl)) | (apply r_lss; (iterate 4 exact rfl); all_goals intro hc; all_goals try (exfalso; omega)) | (apply r_build1; (iterate 5 exact rfl); (repeat first | exact trivial | refine ⟨rfl, ?_⟩); decide; decide; intro _) | refine JC.skip ?_ | refine JC.condT rfl ?_ | refine JC.condF rfl ?_ | refine JC.block ?_ | (apply r_skip; exact rfl; exact rfl; (first | (intro h; cases h; done) | (intro _; rfl)))))
      rename_i b2
      refine r_appendN (A := [_]) hO (own_lit b2 1 [(c + xs.getD i 0) % 65536] _ rfl rfl (by decide)).rd (by (repeat' first | exact HSub.nil _ | exact HSub.hd | exact HSub.in0 | exact HSub.refl _ | refine HSub.skip ?_ | refine HSub.skipN ?_)) rfl trivial rfl rfl rfl rfl (by omega) (fun v' N' hO' => ?_)
      (repeat' (first | refine JC.ops ?_ | refine JO.nil ?_ | refine JX.thenN ?_ | (apply r_move; (iterate 3 exact rfl)) | (apply r_assign; (iterate 3 exact rfl)) | (apply r_divN (j := 65536); (iterate 4 exact rfl); omega) | (apply r_add1; (iterate 4 exact rfl); omega) | refine JX.blockN ?_))
      refine JX.roundH (i + 1, (c + xs.getD i 0) / 65536, v', N', zs ++ [(c + xs.getD i 0) % 65536]) ⟨by simp only [List.length_append, List.length_singleton]; omega, by dsimp only; omega, by dsimp only; omega, hO', snoc_lt hz (Nat.mod_lt _ (by decide)), ?_⟩ (by dsimp only; omega) (by repeat first | exact trivial | refine ⟨rfl, ?_⟩) (by (repeat' first | exact HSub.refl _ | exact HSub.nil _ | refine HSub.at 0 rfl ?_ | refine HSub.at 1 rfl ?_ | refine HSub.at 2 rfl ?_ | refine HSub.at 3 rfl ?_ | refine HSub.at 4 rfl ?_ | refine HSub.at 5 rfl ?_ | refine HSub.at 6 rfl ?_ | refine HSub.at 7 rfl ?_ | refine HSub.at 8 rfl ?_ | refine HSub.at 9 rfl ?_ | refine HSub.at 10 rfl ?_ | refine HSub.at 11 rfl ?_ | refine HSub.at 12 rfl ?_ | refine HSub.at 13 rfl ?_ | refine HSub.at 14 rfl ?_ | refine HSub.at 15 rfl ?_ | refine HSub.at 16 rfl ?_ | refine HSub.at 17 rfl ?_ | refine HSub.at 18 rfl ?_ | refine HSub.at 19 rfl ?_ | refine HSub.segH ?_ | refine HSub.skip ?_ | refine HSub.skipN ?_))
      dsimp only
      rw [val_snoc, hlz, val_take, val_take, Nat.pow_succ]
      have h := add_round (b := B16) (P := B16 ^ i) (c := c) (s := c + xs.getD i 0) (x := xs.getD i 0) (y := ys.getD i 0) (by omega) hval
      rw [Nat.add_add_add_comm, ← Nat.add_assoc]
      exact h
  · have hx0 : xs.getD i 0 = 0 := getD_ge (by omega)
    by_cases hik : i < k
    · (repeat' (first | refine JC.seq ?_ | refine JC.ops ?_ | refine JO.nil ?_ | refine JX.thenN ?_ | (apply r_move; (iterate 3 exact rfl)) | (apply r_assign; (iterate 3 exact rfl)) | (apply r_idxN; (iterate 4 exact rfl); (first | assumption | exact WN.rd (by assumption) rfl [] | exact OwnN.rd (by assumption)); (first | assumption | omega)) | (apply r_ldN; (iterate 4 exact rfl); (first | assumption | exact WN.rd (by assumption) rfl [] | exact OwnN.rd (by assumption)); (repeat' first | exact HSub.nil _ | exact HSub.hd | exact HSub.in0 | exact HSub.refl _ | refine HSub.skip ?_ | refine HSub.skipN ?_); (first | assumption | omega)) | (apply r_lenN; (iterate 3 exact rfl); (first | assumption | exact WN.rd (by assumption) rfl [] | exact OwnN.rd (by assumption))) | (apply r_modN (j := 65536); (iterate 4 exact rfl); omega) | (apply r_addN; (iterate 4 exact rfl); omega) | (apply r_pickT; (iterate 4 exact rfl)) | (apply r_pickF; (iterate 4 exact rfl)) | (apply r_lss; (iterate 4 exact rfl); all_goals intro hc; all_goals try (exfalso; omega)) | (apply r_build1; (iterate 5 exact rfl); (repeat first | exact trivial | refine ⟨rfl, ?_⟩); decide; decide; intro _) | refine JC.skip ?_ | refine JC.condT rfl ?_ | refine JC.condF rfl ?_ | refine JC.block ?_ | (apply r_skip; exact rfl; exact rfl; (first | (intro h; cases h; done) | (intro _; rfl)))))
      rename_i b2
      refine r_appendN (A := [_]) hO (own_lit b2 1 [(c + ys.getD i 0) % 65536] _ rfl rfl (by decide)).rd (by (repeat' first | exact HSub.nil _ | exact HSub.hd | exact HSub.in0 | exact HSub.refl _ | refine HSub.skip ?_ | refine HSub.skipN ?_)) rfl trivial rfl rfl rfl rfl (by omega) (fun v' N' hO' => ?_)
      (repeat' (first | refine JC.ops ?_ | refine JO.nil ?_ | refine JX.thenN ?_ | (apply r_move; (iterate 3 exact rfl)) | (apply r_assign; (iterate 3 exact rfl)) | (apply r_divN (j := 65536); (iterate 4 exact rfl); omega) | (apply r_add1; (iterate 4 exact rfl); omega) | refine JX.blockN ?_))
      refine JX.roundH (i + 1, (c + ys.getD i 0) / 65536, v', N', zs ++ [(c + ys.getD i 0) % 65536]) ⟨by simp only [List.length_append, List.length_singleton]; omega, by dsimp only; omega, by dsimp only; omega, hO', snoc_lt hz (Nat.mod_lt _ (by decide)), ?_⟩ (by dsimp only; omega) (by repeat first | exact trivial | refine ⟨rfl, ?_⟩) (by (repeat' first | exact HSub.refl _ | exact HSub.nil _ | refine HSub.at 0 rfl ?_ | refine HSub.at 1 rfl ?_ | refine HSub.at 2 rfl ?_ | refine HSub.at 3 rfl ?_ | refine HSub.at 4 rfl ?_ | refine HSub.at 5 rfl ?_ | refine HSub.at 6 rfl ?_ | refine HSub.at 7 rfl ?_ | refine HSub.at 8 rfl ?_ | refine HSub.at 9 rfl ?_ | refine HSub.at 10 rfl ?_ | refine HSub.at 11 rfl ?_ | refine HSub.at 12 rfl ?_ | refine HSub.at 13 rfl ?_ | refine HSub.at 14 rfl ?_ | refine HSub.at 15 rfl ?_ | refine HSub.at 16 rfl ?_ | refine HSub.at 17 rfl ?_ | refine HSub.at 18 rfl ?_ | refine HSub.at 19 rfl ?_ | refine HSub.segH ?_ | refine HSub.skip ?_ | refine HSub.skipN ?_))
      dsimp only
      rw [val_snoc, hlz, val_take, val_take, Nat.pow_succ]
      have h := add_round (b := B16) (P := B16 ^ i) (c := c) (s := c + ys.getD i 0) (x := xs.getD i 0) (y := ys.getD i 0) (by omega) hval
      rw [Nat.add_add_add_comm, ← Nat.add_assoc]
      exact h
    · have hy0 : ys.getD i 0 = 0 := getD_ge (by omega)
      by_cases hc0 : 0 < c
      · (repeat' (first | refine JC.seq ?_ | refine JC.ops ?_ | refine JO.nil ?_ | refine JX.thenN ?_ | (apply r_move; (iterate 3 exact rfl)) | (apply r_assign; (iterate 3 exact rfl)) | (apply r_lenN; (iterate 3 exact rfl); (first | assumption | exact WN.rd (by assumption) rfl [] | exact OwnN.rd (by assumption))) | (apply r_modN (j := 65536); (iterate 4 exact rfl); omega) | (apply r_pickF; (iterate 4 exact rfl)) | (apply r_lss; (iterate 4 exact rfl); all_goals intro hc; all_goals try (exfalso; omega)) | (apply r_gtr; (iterate 4 exact rfl); all_goals intro hc; all_goals try (exfalso; omega)) | (apply r_build1; (iterate 5 exact rfl); (repeat first | exact trivial | refine ⟨rfl, ?_⟩); decide; decide; intro _) | refine JC.skip ?_ | refine JC.condT rfl ?_ | refine JC.condF rfl ?_ | refine JC.block ?_))
        rename_i b2
        refine r_appendN (A := [_]) hO (own_lit b2 1 [(c) % 65536] _ rfl rfl (by decide)).rd (by (repeat' first | exact HSub.nil _ | exact HSub.hd | exact HSub.in0 | exact HSub.refl _ | refine HSub.skip ?_ | refine HSub.skipN ?_)) rfl trivial rfl rfl rfl rfl (by omega) (fun v' N' hO' => ?_)
        (repeat' (first | refine JC.ops ?_ | refine JO.nil ?_ | refine JX.thenN ?_ | (apply r_move; (iterate 3 exact rfl)) | (apply r_assign; (iterate 3 exact rfl)) | (apply r_divN (j := 65536); (iterate 4 exact rfl); omega) | (apply r_add1; (iterate 4 exact rfl); omega) | refine JX.blockN ?_))
        refine JX.roundH (i + 1, (c) / 65536, v', N', zs ++ [(c) % 65536]) ⟨by simp only [List.length_append, List.length_singleton]; omega, by dsimp only; omega, by dsimp only; omega, hO', snoc_lt hz (Nat.mod_lt _ (by decide)), ?_⟩ (by dsimp only; omega) (by repeat first | exact trivial | refine ⟨rfl, ?_⟩) (by (repeat' first | exact HSub.refl _ | exact HSub.nil _ | refine HSub.at 0 rfl ?_ | refine HSub.at 1 rfl ?_ | refine HSub.at 2 rfl ?_ | refine HSub.at 3 rfl ?_ | refine HSub.at 4 rfl ?_ | refine HSub.at 5 rfl ?_ | refine HSub.at 6 rfl ?_ | refine HSub.at 7 rfl ?_ | refine HSub.at 8 rfl ?_ | refine HSub.at 9 rfl ?_ | refine HSub.at 10 rfl ?_ | refine HSub.at 11 rfl ?_ | refine HSub.at 12 rfl ?_ | refine HSub.at 13 rfl ?_ | refine HSub.at 14 rfl ?_ | refine HSub.at 15 rfl ?_ | refine HSub.at 16 rfl ?_ | refine HSub.at 17 rfl ?_ | refine HSub.at 18 rfl ?_ | refine HSub.at 19 rfl ?_ | refine HSub.segH ?_ | refine HSub.skip ?_ | refine HSub.skipN ?_))
        dsimp only
        rw [val_snoc, hlz, val_take, val_take, Nat.pow_succ]
        have h := add_round (b := B16) (P := B16 ^ i) (c := c) (s := c) (x := xs.getD i 0) (y := ys.getD i 0) (by omega) hval
        rw [Nat.add_add_add_comm, ← Nat.add_assoc]
        exact h
      · (repeat' (first | refine JC.seq ?_ | refine JC.ops ?_ | refine JO.nil ?_ | refine JX.thenN ?_ | (apply r_move; (iterate 3 exact rfl)) | (apply r_assign; (iterate 3 exact rfl)) | (apply r_lenN; (iterate 3 exact rfl); (first | assumption | exact WN.rd (by assumption) rfl [] | exact OwnN.rd (by assumption))) | (apply r_pickF; (iterate 4 exact rfl)) | (apply r_lss; (iterate 4 exact rfl); all_goals intro hc; all_goals try (exfalso; omega)) | (apply r_gtr; (iterate 4 exact rfl); all_goals intro hc; all_goals try (exfalso; omega)) | refine JX.thenE ?_ | refine JC.exit ?_ | refine JC.ret ?_ | refine JC.condF rfl ?_ | refine JX.blockE ?_))
        obtain rfl : c = 0 := by omega
        rw [Nat.mul_zero, Nat.add_zero, List.take_of_length_le (by omega), List.take_of_length_le (by omega)] at hval
        exact JX.ret1 rfl (fun a w' st => ⟨st.kp, N, zs, st.newOf rfl (by (repeat' first | exact HSub.nil _ | exact HSub.hd | exact HSub.in0 | exact HSub.refl _ | refine HSub.skip ?_ | refine HSub.skipN ?_)), by rw [hlz]; exact hO, hz, hval, by omega⟩)


theorem sub_roundR {b P c x y d c' v a a' : Nat} (hs : d + (c + y) = x + b * c') (h : v + a = a' + P * c) : v + P * d + (a + P * y) = (a' + P * x) + P * b * c' := by
  have e : P * d + (P * c + P * y) = P * x + P * b * c' := by rw [← Nat.mul_add, ← Nat.mul_add, hs, Nat.mul_add, Nat.mul_assoc]
  omega

set_option maxHeartbeats 8000000 in
theorem c_minus (w : World) (v u : Value) (n k : Nat) (xs ys : List Nat) (hv : WN w v n xs) (hu : WN w u k ys) (hx : ∀ x ∈ xs, x < B16) (hy : ∀ x ∈ ys, x < B16) (hn : n ≤ 10000000000) (hkn : k ≤ n) (hle : val B16 ys ≤ val B16 xs) :
    Calls Tryd.prog 60 #[v, u] w (Ret fun v w' => Kp [] w w' ∧ NewD w w' v (val B16 xs - val B16 ys)) := by
  have hlx := hv.len
  have hly := hu.len
  refine calls_of_S [] [] (by simp) [] Tryd.func60 rfl mixed (by kernel_rfl) Tryd.ntmps60 Tryd.results60 rfl ⟨by simp, by simp⟩ (by simp) ?_
  simp only [toS, textOps, toSOp, kindAt, kindOf, odAt, sopsAt, ordOf, zipF]
  (repeat' (first | refine JC.seq ?_ | refine JC.ops ?_ | refine JO.nil ?_ | refine JX.thenN ?_ | (apply r_assign; (iterate 3 exact rfl)) | refine JC.block ?_))
  refine JC.loopH (ι := Nat × Nat × Value × SHeap × List Nat) ⟨fun z => [(7, nv z.1), (6, nv z.2.1), (5, z.2.2.1), (0, v), (1, u)], fun z => z.2.2.2.1 ++ [],
    fun z => z.2.2.2.2.length = z.1 ∧ z.1 ≤ n ∧ z.2.1 ≤ 1 ∧ OwnN z.2.2.2.1 z.2.2.1 z.1 z.2.2.2.2 ∧ (∀ x ∈ z.2.2.2.2, x < B16) ∧ val B16 z.2.2.2.2 + val B16 (ys.take z.1) = val B16 (xs.take z.1) + B16 ^ z.1 * z.2.1, fun z => n - z.1⟩
    (0, 0, _, [], []) ⟨rfl, Nat.zero_le _, Nat.zero_le _, OwnN.nil, fun _ h => absurd h List.not_mem_nil, by simp [val]⟩ (by repeat first | exact trivial | refine ⟨rfl, ?_⟩) (by exact HSub.nil _) (fun z hz => ?_)
  obtain ⟨i, c, vo, N, zs⟩ := z
  obtain ⟨hlz, hi, hc1, hO, hz, hval⟩ := hz
  dsimp only at hlz hi hc1 hO hz hval ⊢
  have hxi : xs.getD i 0 < 65536 := mem_getD_lt (b := B16) (by decide) hx i
  have hyi : ys.getD i 0 < 65536 := mem_getD_lt (b := B16) (by decide) hy i
  by_cases hin : i < n
  · by_cases hik : i < k
    · by_cases hd : xs.getD i 0 < c + ys.getD i 0
      · have hD : ∃ q : Nat, q = xs.getD i 0 + 65536 - (c + ys.getD i 0) ∧ q < 65536 := ⟨_, rfl, by omega⟩
        obtain ⟨q, hq, hq2⟩ := hD
        (repeat' (first | refine JC.seq ?_ | refine JC.ops ?_ | refine JO.nil ?_ | refine JX.thenN ?_ | (apply r_move; (iterate 3 exact rfl)) | (apply r_assign; (iterate 3 exact rfl)) | (apply r_idxN; (iterate 4 exact rfl); (first | assumption | exact WN.rd (by assumption) rfl [] | exact OwnN.rd (by assumption)); (first | assumption | omega)) | (apply r_ldN; (iterate 4 exact rfl); (first | assumption | exact WN.rd (by assumption) rfl [] | exact OwnN.rd (by assumption)); (repeat' first | exact HSub.nil _ | exact HSub.hd | exact HSub.in0 | exact HSub.refl _ | refine HSub.skip ?_ | refine HSub.skipN ?_); (first | assumption | omega)) | (apply r_lenN; (iterate 3 exact rfl); (first | assumption | exact WN.rd (by assumption) rfl [] | exact OwnN.rd (by assumption))) | (apply r_add; (iterate 4 exact rfl); omega) | (apply r_sub; (iterate 4 exact rfl); omega) | (apply r_lss; (iterate 4 exact rfl); all_goals intro hc; all_goals try (exfalso; omega)) | (apply r_build1; (iterate 5 exact rfl); (repeat first | exact trivial | refine ⟨rfl, ?_⟩); decide; decide; intro _) | refine JC.skip ?_ | refine JC.condT rfl ?_ | refine JC.block ?_))
        have e : Value.int .i64 ((xs.getD i 0 : Int) - c - (ys.getD i 0 : Int) + 65536) = nv q := by
          show iv _ = iv _
          congr 1
          omega
        rw [e]
        rename_i b2
        refine r_appendN (A := [_]) hO (own_lit b2 1 [q] _ rfl rfl (by decide)).rd (by (repeat' first | exact HSub.nil _ | exact HSub.hd | exact HSub.in0 | exact HSub.refl _ | refine HSub.skip ?_ | refine HSub.skipN ?_)) rfl trivial rfl rfl rfl rfl (by omega) (fun v' N' hO' => ?_)
        (repeat' (first | refine JC.ops ?_ | refine JO.nil ?_ | refine JX.thenN ?_ | (apply r_move; (iterate 3 exact rfl)) | (apply r_assign; (iterate 3 exact rfl)) | (apply r_add1; (iterate 4 exact rfl); omega) | refine JX.blockN ?_))
        refine JX.roundH (i + 1, 1, v', N', zs ++ [q]) ⟨by simp only [List.length_append, List.length_singleton]; omega, by dsimp only; omega, by dsimp only; omega, hO', snoc_lt hz hq2, ?_⟩ (by dsimp only; omega) (by repeat first | exact trivial | refine ⟨rfl, ?_⟩) (by (repeat' first | exact HSub.refl _ | exact HSub.nil _ | refine HSub.at 0 rfl ?_ | refine HSub.at 1 rfl ?_ | refine HSub.at 2 rfl ?_ | refine HSub.at 3 rfl ?_ | refine HSub.at 4 rfl ?_ | refine HSub.at 5 rfl ?_ | refine HSub.at 6 rfl ?_ | refine HSub.at 7 rfl ?_ | refine HSub.at 8 rfl ?_ | refine HSub.at 9 rfl ?_ | refine HSub.at 10 rfl ?_ | refine HSub.at 11 rfl ?_ | refine HSub.at 12 rfl ?_ | refine HSub.at 13 rfl ?_ | refine HSub.at 14 rfl ?_ | refine HSub.at 15 rfl ?_ | refine HSub.at 16 rfl ?_ | refine HSub.at 17 rfl ?_ | refine HSub.at 18 rfl ?_ | refine HSub.at 19 rfl ?_ | refine HSub.segH ?_ | refine HSub.skip ?_ | refine HSub.skipN ?_))
        dsimp only
        rw [val_snoc, hlz, val_take, val_take, Nat.pow_succ]
        exact sub_roundR (b := B16) (c := c) (c' := 1) (by show q + _ = _ + 65536 * _; omega) hval
      · have hD : ∃ q : Nat, q = xs.getD i 0 - (c + ys.getD i 0) ∧ q < 65536 := ⟨_, rfl, by omega⟩
        obtain ⟨q, hq, hq2⟩ := hD
        (repeat' (first | refine JC.seq ?_ | refine JC.ops ?_ | refine JO.nil ?_ | refine JX.thenN ?_ | (apply r_move; (iterate 3 exact rfl)) | (apply r_assign; (iterate 3 exact rfl)) | (apply r_idxN; (iterate 4 exact rfl); (first | assumption | exact WN.rd (by assumption) rfl [] | exact OwnN.rd (by assumption)); (first | assumption | omega)) | (apply r_ldN; (iterate 4 exact rfl); (first | assumption | exact WN.rd (by assumption) rfl [] | exact OwnN.rd (by assumption)); (repeat' first | exact HSub.nil _ | exact HSub.hd | exact HSub.in0 | exact HSub.refl _ | refine HSub.skip ?_ | refine HSub.skipN ?_); (first | assumption | omega)) | (apply r_lenN; (iterate 3 exact rfl); (first | assumption | exact WN.rd (by assumption) rfl [] | exact OwnN.rd (by assumption))) | (apply r_subN; (iterate 4 exact rfl); omega) | (apply r_lss; (iterate 4 exact rfl); all_goals intro hc; all_goals try (exfalso; omega)) | (apply r_build1; (iterate 5 exact rfl); (repeat first | exact trivial | refine ⟨rfl, ?_⟩); decide; decide; intro _) | refine JC.skip ?_ | refine JC.condT rfl ?_ | refine JC.condF rfl ?_ | refine JC.block ?_))
        have e : Value.int .i64 ((xs.getD i 0 - c - ys.getD i 0 : Nat) : Int) = nv q := by
          show iv _ = iv _
          congr 1
          omega
        rw [e]
        rename_i b2
        refine r_appendN (A := [_]) hO (own_lit b2 1 [q] _ rfl rfl (by decide)).rd (by (repeat' first | exact HSub.nil _ | exact HSub.hd | exact HSub.in0 | exact HSub.refl _ | refine HSub.skip ?_ | refine HSub.skipN ?_)) rfl trivial rfl rfl rfl rfl (by omega) (fun v' N' hO' => ?_)
        (repeat' (first | refine JC.ops ?_ | refine JO.nil ?_ | refine JX.thenN ?_ | (apply r_move; (iterate 3 exact rfl)) | (apply r_assign; (iterate 3 exact rfl)) | (apply r_add1; (iterate 4 exact rfl); omega) | refine JX.blockN ?_))
        refine JX.roundH (i + 1, 0, v', N', zs ++ [q]) ⟨by simp only [List.length_append, List.length_singleton]; omega, by dsimp only; omega, by dsimp only; omega, hO', snoc_lt hz hq2, ?_⟩ (by dsimp only; omega) (by repeat first | exact trivial | refine ⟨rfl, ?_⟩) (by (repeat' first | exact HSub.refl _ | exact HSub.nil _ | refine HSub.at 0 rfl ?_ | refine HSub.at 1 rfl ?_ | refine HSub.at 2 rfl ?_ | refine HSub.at 3 rfl ?_ | refine HSub.at 4 rfl ?_ | refine HSub.at 5 rfl ?_ | refine HSub.at 6 rfl ?_ | refine HSub.at 7 rfl ?_ | refine HSub.at 8 rfl ?_ | refine HSub.at 9 rfl ?_ | refine HSub.at 10 rfl ?_ | refine HSub.at 11 rfl ?_ | refine HSub.at 12 rfl ?_ | refine HSub.at 13 rfl ?_ | refine HSub.at 14 rfl ?_ | refine HSub.at 15 rfl ?_ | refine HSub.at 16 rfl ?_ | refine HSub.at 17 rfl ?_ | refine HSub.at 18 rfl ?_ | refine HSub.at 19 rfl ?_ | refine HSub.segH ?_ | refine HSub.skip ?_ | refine HSub.skipN ?_))
        dsimp only
        rw [val_snoc, hlz, val_take, val_take, Nat.pow_succ]
        exact sub_roundR (b := B16) (c := c) (c' := 0) (by show q + _ = _ + 65536 * _; omega) hval
    · have hy0 : ys.getD i 0 = 0 := getD_ge (by omega)
      by_cases hd : xs.getD i 0 < c
      · have hD : ∃ q : Nat, q = xs.getD i 0 + 65536 - (c + 0) ∧ q < 65536 := ⟨_, rfl, by omega⟩
        obtain ⟨q, hq, hq2⟩ := hD
        (repeat' (first | refine JC.seq ?_ | refine JC.ops ?_ | refine JO.nil ?_ | refine JX.thenN ?_ | (apply r_move; (iterate 3 exact rfl)) | (apply r_assign; (iterate 3 exact rfl)) | (apply r_idxN; (iterate 4 exact rfl); (first | assumption | exact WN.rd (by assumption) rfl [] | exact OwnN.rd (by assumption)); (first | assumption | omega)) | (apply r_ldN; (iterate 4 exact rfl); (first | assumption | exact WN.rd (by assumption) rfl [] | exact OwnN.rd (by assumption)); (repeat' first | exact HSub.nil _ | exact HSub.hd | exact HSub.in0 | exact HSub.refl _ | refine HSub.skip ?_ | refine HSub.skipN ?_); (first | assumption | omega)) | (apply r_lenN; (iterate 3 exact rfl); (first | assumption | exact WN.rd (by assumption) rfl [] | exact OwnN.rd (by assumption))) | (apply r_add; (iterate 4 exact rfl); omega) | (apply r_sub; (iterate 4 exact rfl); omega) | (apply r_lss; (iterate 4 exact rfl); all_goals intro hc; all_goals try (exfalso; omega)) | (apply r_build1; (iterate 5 exact rfl); (repeat first | exact trivial | refine ⟨rfl, ?_⟩); decide; decide; intro _) | refine JC.skip ?_ | refine JC.condT rfl ?_ | refine JC.condF rfl ?_ | refine JC.block ?_))
        have e : Value.int .i64 ((xs.getD i 0 : Int) - c + 65536) = nv q := by
          show iv _ = iv _
          congr 1
          omega
        rw [e]
        rename_i b2
        refine r_appendN (A := [_]) hO (own_lit b2 1 [q] _ rfl rfl (by decide)).rd (by (repeat' first | exact HSub.nil _ | exact HSub.hd | exact HSub.in0 | exact HSub.refl _ | refine HSub.skip ?_ | refine HSub.skipN ?_)) rfl trivial rfl rfl rfl rfl (by omega) (fun v' N' hO' => ?_)
        (repeat' (first | refine JC.ops ?_ | refine JO.nil ?_ | refine JX.thenN ?_ | (apply r_move; (iterate 3 exact rfl)) | (apply r_assign; (iterate 3 exact rfl)) | (apply r_add1; (iterate 4 exact rfl); omega) | refine JX.blockN ?_))
        refine JX.roundH (i + 1, 1, v', N', zs ++ [q]) ⟨by simp only [List.length_append, List.length_singleton]; omega, by dsimp only; omega, by dsimp only; omega, hO', snoc_lt hz hq2, ?_⟩ (by dsimp only; omega) (by repeat first | exact trivial | refine ⟨rfl, ?_⟩) (by (repeat' first | exact HSub.refl _ | exact HSub.nil _ | refine HSub.at 0 rfl ?_ | refine HSub.at 1 rfl ?_ | refine HSub.at 2 rfl ?_ | refine HSub.at 3 rfl ?_ | refine HSub.at 4 rfl ?_ | refine HSub.at 5 rfl ?_ | refine HSub.at 6 rfl ?_ | refine HSub.at 7 rfl ?_ | refine HSub.at 8 rfl ?_ | refine HSub.at 9 rfl ?_ | refine HSub.at 10 rfl ?_ | refine HSub.at 11 rfl ?_ | refine HSub.at 12 rfl ?_ | refine HSub.at 13 rfl ?_ | refine HSub.at 14 rfl ?_ | refine HSub.at 15 rfl ?_ | refine HSub.at 16 rfl ?_ | refine HSub.at 17 rfl ?_ | refine HSub.at 18 rfl ?_ | refine HSub.at 19 rfl ?_ | refine HSub.segH ?_ | refine HSub.skip ?_ | refine HSub.skipN ?_))
        dsimp only
        rw [val_snoc, hlz, val_take, val_take, Nat.pow_succ]
        exact sub_roundR (b := B16) (c := c) (c' := 1) (by show q + _ = _ + 65536 * _; omega) hval
      · have hD : ∃ q : Nat, q = xs.getD i 0 - (c + 0) ∧ q < 65536 := ⟨_, rfl, by omega⟩
        obtain ⟨q, hq, hq2⟩ := hD
        (repeat' (first | refine JC.seq ?_ | refine JC.ops ?_ | refine JO.nil ?_ | refine JX.thenN ?_ | (apply r_move; (iterate 3 exact rfl)) | (apply r_assign; (iterate 3 exact rfl)) | (apply r_idxN; (iterate 4 exact rfl); (first | assumption | exact WN.rd (by assumption) rfl [] | exact OwnN.rd (by assumption)); (first | assumption | omega)) | (apply r_ldN; (iterate 4 exact rfl); (first | assumption | exact WN.rd (by assumption) rfl [] | exact OwnN.rd (by assumption)); (repeat' first | exact HSub.nil _ | exact HSub.hd | exact HSub.in0 | exact HSub.refl _ | refine HSub.skip ?_ | refine HSub.skipN ?_); (first | assumption | omega)) | (apply r_lenN; (iterate 3 exact rfl); (first | assumption | exact WN.rd (by assumption) rfl [] | exact OwnN.rd (by assumption))) | (apply r_subN; (iterate 4 exact rfl); omega) | (apply r_lss; (iterate 4 exact rfl); all_goals intro hc; all_goals try (exfalso; omega)) | (apply r_build1; (iterate 5 exact rfl); (repeat first | exact trivial | refine ⟨rfl, ?_⟩); decide; decide; intro _) | refine JC.skip ?_ | refine JC.condT rfl ?_ | refine JC.condF rfl ?_ | refine JC.block ?_))
        have e : Value.int .i64 ((xs.getD i 0 - c : Nat) : Int) = nv q := by
          show iv _ = iv _
          congr 1
          omega
        rw [e]
        rename_i b2
        refine r_appendN (A := [_]) hO (own_lit b2 1 [q] _ rfl rfl (by decide)).rd (by (repeat' first | exact HSub.nil _ | exact HSub.hd | exact HSub.in0 | exact HSub.refl _ | refine HSub.skip ?_ | refine HSub.skipN ?_)) rfl trivial rfl rfl rfl rfl (by omega) (fun v' N' hO' => ?_)
        (repeat' (first | refine JC.ops ?_ | refine JO.nil ?_ | refine JX.thenN ?_ | (apply r_move; (iterate 3 exact rfl)) | (apply r_assign; (iterate 3 exact rfl)) | (apply r_add1; (iterate 4 exact rfl); omega) | refine JX.blockN ?_))
        refine JX.roundH (i + 1, 0, v', N', zs ++ [q]) ⟨by simp only [List.length_append, List.length_singleton]; omega, by dsimp only; omega, by dsimp only; omega, hO', snoc_lt hz hq2, ?_⟩ (by dsimp only; omega) (by repeat first | exact trivial | refine ⟨rfl, ?_⟩) (by (repeat' first | exact HSub.refl _ | exact HSub.nil _ | refine HSub.at 0 rfl ?_ | refine HSub.at 1 rfl ?_ | refine HSub.at 2 rfl ?_ | refine HSub.at 3 rfl ?_ | refine HSub.at 4 rfl ?_ | refine HSub.at 5 rfl ?_ | refine HSub.at 6 rfl ?_ | refine HSub.at 7 rfl ?_ | refine HSub.at 8 rfl ?_ | refine HSub.at 9 rfl ?_ | refine HSub.at 10 rfl ?_ | refine HSub.at 11 rfl ?_ | refine HSub.at 12 rfl ?_ | refine HSub.at 13 rfl ?_ | refine HSub.at 14 rfl ?_ | refine HSub.at 15 rfl ?_ | refine HSub.at 16 rfl ?_ | refine HSub.at 17 rfl ?_ | refine HSub.at 18 rfl ?_ | refine HSub.at 19 rfl ?_ | refine HSub.segH ?_ | refine HSub.skip ?_ | refine HSub.skipN ?_))
        dsimp only
        rw [val_snoc, hlz, val_take, val_take, Nat.pow_succ]
        exact sub_roundR (b := B16) (c := c) (c' := 0) (by show q + _ = _ + 65536 * _; omega) hval
  · (repeat' (first | refine JC.seq ?_ | refine JC.ops ?_ | refine JO.nil ?_ | refine JX.thenN ?_ | (apply r_move; (iterate 3 exact rfl)) | (apply r_lenN; (iterate 3 exact rfl); (first | assumption | exact WN.rd (by assumption) rfl [] | exact OwnN.rd (by assumption))) | (apply r_lss; (iterate 4 exact rfl); all_goals intro hc; all_goals try (exfalso; omega)) | refine JX.thenE ?_ | refine JC.exit ?_ | refine JC.condF rfl ?_ | refine JX.blockE ?_))
    obtain rfl : i = n := by omega
    rw [List.take_of_length_le (by omega), List.take_of_length_le (by omega)] at hval
    have hc0 : c = 0 := by
      rcases Nat.eq_zero_or_pos c with h | h
      · exact h
      · have h1 : B16 ^ i ≤ B16 ^ i * c := Nat.le_mul_of_pos_right _ h
        have h2 := val_lt hz
        rw [hlz] at h2
        omega
    subst hc0
    rw [Nat.mul_zero, Nat.add_zero] at hval
    obtain ⟨A, cap, rfl⟩ := hO.form
    refine r_call0 trivial rfl rfl rfl (fun w hk hs => c_trim w _ _ _ _ (hO.rd.at hk hs (by (repeat' first | exact HSub.nil _ | exact HSub.hd | exact HSub.in0 | exact HSub.refl _ | refine HSub.skip ?_ | refine HSub.skipN ?_))) (by omega)) fun w v w' _ _ _ hR => ?_
    obtain ⟨q, hq, rfl, hnq⟩ := hR
    (repeat' (first | refine JO.nil ?_ | refine JX.thenN ?_ | (apply r_assign; (iterate 3 exact rfl)) | refine JC.ret ?_))
    have hown := hO.hd hq
    rw [← hnq] at hown
    have hql : (nrm zs).length = q := hown.len
    refine JX.ret1 rfl (fun a w' st => ⟨st.kp, N, nrm zs, st.newOf rfl (by (repeat' first | exact HSub.nil _ | exact HSub.hd | exact HSub.in0 | exact HSub.refl _ | refine HSub.skip ?_ | refine HSub.skipN ?_)), by rw [hql]; exact hown, Dig.of hz, ?_⟩)
    rw [val_nrm]
    omega


set_option maxHeartbeats 8000000 in
theorem c_compare (w : World) (v u : Value) (n k : Nat) (xs ys : List Nat) (hv : WN w v n xs) (hu : WN w u k ys) (hx : Dig B16 xs) (hy : Dig B16 ys) (hn : n ≤ 10000000000) (hk : k ≤ 10000000000) :
    Calls Tryd.prog 64 #[v, u] w (Ret fun v w' => Kp [] w w' ∧ v = iv (cmpV (val B16 xs) (val B16 ys))) := by
  have hlx := hv.len
  have hly := hu.len
  refine calls_of_S [⟨8, 1, [], []⟩, ⟨9, 1, [], []⟩] [] (by simp) [] Tryd.func64 rfl mixed (by kernel_rfl) Tryd.ntmps64 Tryd.results64 rfl ⟨by simp, by simp⟩ (by simp) ?_
  simp only [toS, textOps, toSOp, kindAt, kindOf, odAt, sopsAt, ordOf, zipF]
  rcases Nat.lt_trichotomy n k with h | h | h
  · have hcc := len_cmp (by decide) hx hy (by omega)
    (repeat' (first | refine JC.seq ?_ | refine JC.ops ?_ | refine JO.nil ?_ | refine JX.thenN ?_ | (apply r_move; (iterate 3 exact rfl)) | (apply r_assign; (iterate 3 exact rfl)) | (apply r_lenN; (iterate 3 exact rfl); (first | assumption | exact WN.rd (by assumption) rfl [] | exact OwnN.rd (by assumption))) | (apply r_lss; (iterate 4 exact rfl); all_goals intro hc; all_goals try (exfalso; omega)) | (apply r_neq; (iterate 4 exact rfl); all_goals intro hc; all_goals try (exfalso; omega)) | refine JX.thenR ?_ | refine JC.ret ?_ | refine JC.condT rfl ?_))
    exact JX.ret1 rfl (fun a w' st => ⟨st.kp, by unfold cmpV; rw [if_pos hcc]⟩)
  · (repeat' (first | refine JC.seq ?_ | refine JC.ops ?_ | refine JO.nil ?_ | refine JX.thenN ?_ | (apply r_move; (iterate 3 exact rfl)) | (apply r_assign; (iterate 3 exact rfl)) | (apply r_lenN; (iterate 3 exact rfl); (first | assumption | exact WN.rd (by assumption) rfl [] | exact OwnN.rd (by assumption))) | (apply r_sub; (iterate 4 exact rfl); omega) | (apply r_neq; (iterate 4 exact rfl); all_goals intro hc; all_goals try (exfalso; omega)) | refine JC.skip ?_ | refine JC.condF rfl ?_ | refine JC.block ?_))
    refine JC.loopH (ι := Nat) ⟨fun q => [(5, iv ((q : Int) - 1)), (0, v), (1, u)], fun _ => [], fun q => q ≤ n ∧ xs.drop q = ys.drop q, fun q => q⟩ n ⟨Nat.le_refl _, by rw [List.drop_eq_nil_of_le (by omega), List.drop_eq_nil_of_le (by omega)]⟩ (by repeat first | exact trivial | refine ⟨rfl, ?_⟩) (by (first | exact HSub.refl _ | (repeat' first | exact HSub.nil _ | exact HSub.refl _ | refine HSub.at 0 rfl ?_ | refine HSub.at 1 rfl ?_ | refine HSub.at 2 rfl ?_ | refine HSub.at 3 rfl ?_ | refine HSub.at 4 rfl ?_ | refine HSub.at 5 rfl ?_ | refine HSub.at 6 rfl ?_ | refine HSub.at 7 rfl ?_))) (fun q hq => ?_)
    obtain ⟨hqn, hd⟩ := hq
    dsimp only at hqn hd ⊢
    rcases q with _ | q
    · (repeat' (first | refine JC.seq ?_ | refine JC.ops ?_ | refine JO.nil ?_ | refine JX.thenN ?_ | (apply r_move; (iterate 3 exact rfl)) | (apply r_assign; (iterate 3 exact rfl)) | (apply r_geq; (iterate 4 exact rfl); all_goals intro hc; all_goals try (exfalso; omega)) | refine JX.thenE ?_ | refine JC.exit ?_ | refine JC.ret ?_ | refine JC.condF rfl ?_ | refine JX.blockE ?_))
      have : xs = ys := hd
      exact JX.ret1 rfl (fun a w' st => ⟨st.kp, by unfold cmpV; rw [this, if_neg (Nat.lt_irrefl _), if_neg (Nat.lt_irrefl _)]⟩)
    · have hiv : iv (((q + 1 : Nat) : Int) - 1) = nv q := by
        show iv _ = iv _
        congr 1
        omega
      rw [hiv]
      rcases Nat.lt_trichotomy (xs.getD q 0) (ys.getD q 0) with h1 | h1 | h1
      · have hcc := val_cmp (b := B16) (by omega) (by omega) hx.lt h1 hd
        (repeat' (first | refine JC.seq ?_ | refine JC.ops ?_ | refine JC.opsD ?_ | refine JO.nil ?_ | refine JX.thenN ?_ | (apply r_move; (iterate 3 exact rfl)) | (apply r_assign; (iterate 3 exact rfl)) | (apply r_idxN; (iterate 4 exact rfl); (first | assumption | exact WN.rd (by assumption) rfl [] | exact OwnN.rd (by assumption)); (first | assumption | omega)) | (apply r_ldN; (iterate 4 exact rfl); (first | assumption | exact WN.rd (by assumption) rfl [] | exact OwnN.rd (by assumption)); (repeat' first | exact HSub.nil _ | exact HSub.hd | exact HSub.in0 | exact HSub.refl _ | refine HSub.skip ?_ | refine HSub.skipN ?_); (first | assumption | omega)) | (apply r_lss; (iterate 4 exact rfl); all_goals intro hc; all_goals try (exfalso; omega)) | (apply r_geq; (iterate 4 exact rfl); all_goals intro hc; all_goals try (exfalso; omega)) | (apply r_neq; (iterate 4 exact rfl); all_goals intro hc; all_goals try (exfalso; omega)) | refine JX.thenR ?_ | refine JC.skip ?_ | refine JC.ret ?_ | refine JC.condT rfl ?_ | refine JC.block ?_ | refine JX.blockR ?_))
        exact JX.ret1 rfl (fun a w' st => ⟨st.kp, by unfold cmpV; rw [if_pos hcc]⟩)
      · (repeat' (first | refine JC.seq ?_ | refine JC.ops ?_ | refine JC.opsD ?_ | refine JO.nil ?_ | refine JX.thenN ?_ | (apply r_move; (iterate 3 exact rfl)) | (apply r_assign; (iterate 3 exact rfl)) | (apply r_idxN; (iterate 4 exact rfl); (first | assumption | exact WN.rd (by assumption) rfl [] | exact OwnN.rd (by assumption)); (first | assumption | omega)) | (apply r_ldN; (iterate 4 exact rfl); (first | assumption | exact WN.rd (by assumption) rfl [] | exact OwnN.rd (by assumption)); (repeat' first | exact HSub.nil _ | exact HSub.hd | exact HSub.in0 | exact HSub.refl _ | refine HSub.skip ?_ | refine HSub.skipN ?_); (first | assumption | omega)) | (apply r_sub; (iterate 4 exact rfl); omega) | (apply r_geq; (iterate 4 exact rfl); all_goals intro hc; all_goals try (exfalso; omega)) | (apply r_neq; (iterate 4 exact rfl); all_goals intro hc; all_goals try (exfalso; omega)) | refine JC.skip ?_ | refine JC.condT rfl ?_ | refine JC.condF rfl ?_ | refine JC.block ?_ | refine JX.blockN ?_))
        refine JX.roundH q ⟨by omega, ?_⟩ (by dsimp only; omega) (by repeat first | exact trivial | refine ⟨rfl, ?_⟩) (by (first | exact HSub.refl _ | (repeat' first | exact HSub.nil _ | exact HSub.refl _ | refine HSub.at 0 rfl ?_ | refine HSub.at 1 rfl ?_ | refine HSub.at 2 rfl ?_ | refine HSub.at 3 rfl ?_ | refine HSub.at 4 rfl ?_ | refine HSub.at 5 rfl ?_ | refine HSub.at 6 rfl ?_ | refine HSub.at 7 rfl ?_)))
        rw [List.drop_eq_getElem_cons (show q < xs.length by omega), List.drop_eq_getElem_cons (show q < ys.length by omega), hd]
        have e : xs[q]'(by omega) = ys[q]'(by omega) := by
          simpa [List.getD, List.getElem?_eq_getElem (show q < xs.length by omega), List.getElem?_eq_getElem (show q < ys.length by omega)] using h1
        rw [e]
      · have hcc := val_cmp (b := B16) (by omega) (by omega) hy.lt h1 hd.symm
        (repeat' (first | refine JC.seq ?_ | refine JC.ops ?_ | refine JC.opsD ?_ | refine JO.nil ?_ | refine JX.thenN ?_ | (apply r_move; (iterate 3 exact rfl)) | (apply r_assign; (iterate 3 exact rfl)) | (apply r_idxN; (iterate 4 exact rfl); (first | assumption | exact WN.rd (by assumption) rfl [] | exact OwnN.rd (by assumption)); (first | assumption | omega)) | (apply r_ldN; (iterate 4 exact rfl); (first | assumption | exact WN.rd (by assumption) rfl [] | exact OwnN.rd (by assumption)); (repeat' first | exact HSub.nil _ | exact HSub.hd | exact HSub.in0 | exact HSub.refl _ | refine HSub.skip ?_ | refine HSub.skipN ?_); (first | assumption | omega)) | (apply r_lss; (iterate 4 exact rfl); all_goals intro hc; all_goals try (exfalso; omega)) | (apply r_geq; (iterate 4 exact rfl); all_goals intro hc; all_goals try (exfalso; omega)) | (apply r_neq; (iterate 4 exact rfl); all_goals intro hc; all_goals try (exfalso; omega)) | refine JX.thenR ?_ | refine JC.skip ?_ | refine JC.ret ?_ | refine JC.condT rfl ?_ | refine JC.condF rfl ?_ | refine JC.block ?_ | refine JX.blockR ?_))
        exact JX.ret1 rfl (fun a w' st => ⟨st.kp, by unfold cmpV; rw [if_neg (by omega), if_pos hcc]⟩)
  · have hcc := len_cmp (by decide) hy hx (by omega)
    (repeat' (first | refine JC.seq ?_ | refine JC.ops ?_ | refine JO.nil ?_ | refine JX.thenN ?_ | (apply r_move; (iterate 3 exact rfl)) | (apply r_assign; (iterate 3 exact rfl)) | (apply r_lenN; (iterate 3 exact rfl); (first | assumption | exact WN.rd (by assumption) rfl [] | exact OwnN.rd (by assumption))) | (apply r_lss; (iterate 4 exact rfl); all_goals intro hc; all_goals try (exfalso; omega)) | (apply r_neq; (iterate 4 exact rfl); all_goals intro hc; all_goals try (exfalso; omega)) | refine JX.thenR ?_ | refine JC.skip ?_ | refine JC.ret ?_ | refine JC.condT rfl ?_ | refine JC.condF rfl ?_))
    exact JX.ret1 rfl (fun a w' st => ⟨st.kp, by unfold cmpV; rw [if_neg (by omega), if_pos hcc]⟩)


theorem mul_bound16 {x y : Nat} (hx : x < 65536) (hy : y < 65536) : x * y ≤ 4294836225 := by
  have := Nat.mul_le_mul (show x ≤ 65535 by omega) (show y ≤ 65535 by omega)
  omega

set_option maxHeartbeats 8000000 in
theorem c_times (w : World) (v u : Value) (n k : Nat) (xs ys : List Nat) (hv : WN w v n xs) (hu : WN w u k ys) (hx : ∀ x ∈ xs, x < B16) (hy : ∀ x ∈ ys, x < B16) (hn : n ≤ 10000000000) (hk : k ≤ 10000000000) :
    Calls Tryd.prog 65 #[v, u] w (Ret fun v w' => Kp [] w w' ∧ ∃ N zs, New N w w' ∧ OwnN N v zs.length zs ∧ Dig B16 zs ∧ val B16 zs = val B16 xs * val B16 ys ∧ zs.length ≤ n + k) := by
  have hlx := hv.len
  have hly := hu.len
  refine calls_of_S [⟨9, 1, [], []⟩] [] (by simp) [] Tryd.func65 rfl mixed (by kernel_rfl) Tryd.ntmps65 Tryd.results65 rfl ⟨by simp, by simp⟩ (by simp) ?_
  simp only [toS, textOps, toSOp, kindAt, kindOf, odAt, sopsAt, ordOf, zipF]
  (repeat' (first | refine JC.seq ?_ | refine JC.ops ?_ | refine JO.nil ?_ | refine JX.thenN ?_ | (apply r_move; (iterate 3 exact rfl)) | (apply r_assign; (iterate 3 exact rfl)) | (apply r_lenN; (iterate 3 exact rfl); (first | assumption | exact WN.rd (by assumption) rfl [] | exact OwnN.rd (by assumption))) | (apply r_addN; (iterate 4 exact rfl); omega)))
  refine r_make (n := n + k) rfl rfl rfl rfl rfl (by omega) (by omega) (fun b5 => ?_)
  have hO := own_zeros b5 (n + k) (by simp only [maxLen]; omega)
  (repeat' (first | refine JC.seq ?_ | refine JC.ops ?_ | refine JO.nil ?_ | refine JX.thenN ?_ | (apply r_assign; (iterate 3 exact rfl)) | refine JC.block ?_))
  refine JC.loopH (ι := Nat × SHeap × List Nat) ⟨fun z => [(6, nv z.1), (5, .slice (some ⟨b5, 0, none⟩) (n + k) (n + k)), (0, v), (1, u)], fun z => z.2.1 ++ [],
    fun z => z.1 ≤ n ∧ OwnN z.2.1 (.slice (some ⟨b5, 0, none⟩) (n + k) (n + k)) (n + k) z.2.2 ∧ (∀ x ∈ z.2.2, x < B16) ∧ val B16 z.2.2 = val B16 (xs.take z.1) * val B16 ys ∧ ∀ j, z.1 + k ≤ j → z.2.2.getD j 0 = 0, fun z => n - z.1⟩
    (0, _, _) ⟨Nat.zero_le _, hO, fun x hx => by obtain ⟨a, _, rfl⟩ := List.mem_map.1 hx; decide, by show val B16 (tab (n + k) fun _ => 0) = _; rw [val_zeros]; simp [val], fun j _ => tab_zero _ j⟩ (by repeat first | exact trivial | refine ⟨rfl, ?_⟩) (by (first | exact HSub.refl _ | (repeat' first | exact HSub.nil _ | exact HSub.refl _ | refine HSub.at 0 rfl ?_ | refine HSub.at 1 rfl ?_ | refine HSub.at 2 rfl ?_ | refine HSub.at 3 rfl ?_ | refine HSub.at 4 rfl ?_ | refine HSub.at 5 rfl ?_ | refine HSub.at 6 rfl ?_ | refine HSub.at 7 rfl ?_))) (fun z hz => ?_)
  clear hO
  obtain ⟨i, N, zs⟩ := z
  obtain ⟨hi, hO, hz, hval, hzero⟩ := hz
  dsimp only at hi hO hz hval hzero ⊢
  have hlz := hO.len
  by_cases hin : i < n
  · have hxi : xs.getD i 0 < 65536 := mem_getD_lt (b := B16) (by decide) hx i
    (repeat' (first | refine JC.seq ?_ | refine JC.ops ?_ | refine JO.nil ?_ | refine JX.thenN ?_ | (apply r_move; (iterate 3 exact rfl)) | (apply r_assign; (iterate 3 exact rfl)) | (apply r_lenN; (iterate 3 exact rfl); (first | assumption | exact WN.rd (by assumption) rfl [] | exact OwnN.rd (by assumption))) | (apply r_lss; (iterate 4 exact rfl); all_goals intro hc; all_goals try (exfalso; omega)) | refine JC.skip ?_ | refine JC.condT rfl ?_ | refine JC.block ?_))
    refine JC.loopH (ι := Nat × Nat × SHeap × List Nat) ⟨fun y => [(8, nv y.1), (7, nv y.2.1), (6, nv i), (5, .slice (some ⟨b5, 0, none⟩) (n + k) (n + k)), (0, v), (1, u)], fun y => y.2.2.1 ++ [],
      fun y => y.1 ≤ k ∧ OwnN y.2.2.1 (.slice (some ⟨b5, 0, none⟩) (n + k) (n + k)) (n + k) y.2.2.2 ∧ (∀ x ∈ y.2.2.2, x < B16) ∧ y.2.1 < 65536 ∧ val B16 y.2.2.2 + B16 ^ (i + y.1) * y.2.1 = val B16 (xs.take i) * val B16 ys + B16 ^ i * (xs.getD i 0 * val B16 (ys.take y.1)) ∧ ∀ j, i + k ≤ j → y.2.2.2.getD j 0 = 0, fun y => k - y.1⟩
      (0, 0, _, _) ⟨Nat.zero_le _, hO, hz, by show (0 : Nat) < 65536; decide, by simp [hval, val], hzero⟩ (by repeat first | exact trivial | refine ⟨rfl, ?_⟩) (by (first | exact HSub.refl _ | (repeat' first | exact HSub.nil _ | exact HSub.refl _ | refine HSub.at 0 rfl ?_ | refine HSub.at 1 rfl ?_ | refine HSub.at 2 rfl ?_ | refine HSub.at 3 rfl ?_ | refine HSub.at 4 rfl ?_ | refine HSub.at 5 rfl ?_ | refine HSub.at 6 rfl ?_ | refine HSub.at 7 rfl ?_))) (fun y hyy => ?_)
    clear hO hz hval hzero hlz
    obtain ⟨q, c, M, us⟩ := y
    obtain ⟨hq, hO, hz, hc1, hval, hzero⟩ := hyy
    dsimp only at hq hO hz hc1 hval hzero ⊢
    have hlz := hO.len
    by_cases hqk : q < k
    · have hyq : ys.getD q 0 < 65536 := mem_getD_lt (b := B16) (by decide) hy q
      have huq : us.getD (i + q) 0 < 65536 := mem_getD_lt (b := B16) (by decide) hz (i + q)
      have hxy := mul_bound16 hxi hyq
      (repeat' (first | refine JC.seq ?_ | refine JC.ops ?_ | refine JC.opsD ?_ | refine JO.nil ?_ | refine JX.thenN ?_ | (apply r_move; (iterate 3 exact rfl)) | (apply r_assign; (iterate 3 exact rfl)) | (apply r_idxN; (iterate 4 exact rfl); (first | assumption | exact WN.rd (by assumption) rfl [] | exact OwnN.rd (by assumption)); (first | assumption | omega)) | (apply r_ldN; (iterate 4 exact rfl); (first | assumption | exact WN.rd (by assumption) rfl [] | exact OwnN.rd (by assumption)); (repeat' first | exact HSub.nil _ | exact HSub.hd | exact HSub.in0 | exact HSub.refl _ | refine HSub.skip ?_ | refine HSub.skipN ?_); (first | assumption | omega)) | (apply r_lenN; (iterate 3 exact rfl); (first | assumption | exact WN.rd (by assumption) rfl [] | exact OwnN.rd (by assumption))) | (apply r_modN (j := 65536); (iterate 4 exact rfl); omega) | (apply r_addN; (iterate 4 exact rfl); omega) | (apply r_mulN; (iterate 4 exact rfl); (first | assumption | omega)) | (apply r_lss; (iterate 4 exact rfl); all_goals intro hc; all_goals try (exfalso; omega)) | refine JC.skip ?_ | refine JC.condT rfl ?_ | refine JC.block ?_))
      refine r_stN (A := []) hO rfl rfl trivial rfl rfl (by omega) (fun M' hO' => ?_)
      (repeat' (first | refine JC.ops ?_ | refine JO.nil ?_ | refine JX.thenN ?_ | (apply r_move; (iterate 3 exact rfl)) | (apply r_assign; (iterate 3 exact rfl)) | (apply r_divN (j := 65536); (iterate 4 exact rfl); omega) | (apply r_add1; (iterate 4 exact rfl); omega) | refine JX.blockN ?_))
      refine JX.roundH (q + 1, _, M', _) ⟨by dsimp only; omega, hO', set_lt hz (Nat.mod_lt _ (by decide)), ?_, ?_, fun j hj => ?_⟩ (by dsimp only; omega) (by repeat first | exact trivial | refine ⟨rfl, ?_⟩) (by (first | exact HSub.refl _ | (repeat' first | exact HSub.nil _ | exact HSub.refl _ | refine HSub.at 0 rfl ?_ | refine HSub.at 1 rfl ?_ | refine HSub.at 2 rfl ?_ | refine HSub.at 3 rfl ?_ | refine HSub.at 4 rfl ?_ | refine HSub.at 5 rfl ?_ | refine HSub.at 6 rfl ?_ | refine HSub.at 7 rfl ?_)))
      · dsimp only; omega
      · dsimp only
        have e := val_set (b := B16) (l := us) (j := i + q) (u := (us.getD (i + q) 0 + xs.getD i 0 * ys.getD q 0 + c) % B16) (by omega)
        have := mul_round e rfl hval
        rw [val_take, Nat.mul_add, Nat.mul_add, ← Nat.add_assoc (_ * _), ← Nat.add_assoc i q 1, Nat.pow_succ]
        have e3 : B16 ^ i * (xs.getD i 0 * (B16 ^ q * ys.getD q 0)) = B16 ^ (i + q) * (xs.getD i 0 * ys.getD q 0) := by
          rw [Nat.pow_add]
          simp only [Nat.mul_left_comm, Nat.mul_assoc]
        rw [e3]
        exact this
      · dsimp only at hj ⊢
        rw [getD_set_ne (by omega)]
        exact hzero j (by omega)
    · obtain rfl : q = k := by omega
      (repeat' (first | refine JC.seq ?_ | refine JC.ops ?_ | refine JO.nil ?_ | refine JX.thenN ?_ | (apply r_move; (iterate 3 exact rfl)) | (apply r_idxN; (iterate 4 exact rfl); (first | assumption | exact WN.rd (by assumption) rfl [] | exact OwnN.rd (by assumption)); (first | assumption | omega)) | (apply r_lenN; (iterate 3 exact rfl); (first | assumption | exact WN.rd (by assumption) rfl [] | exact OwnN.rd (by assumption))) | (apply r_addN; (iterate 4 exact rfl); omega) | (apply r_lss; (iterate 4 exact rfl); all_goals intro hc; all_goals try (exfalso; omega)) | refine JX.thenE ?_ | refine JC.exit ?_ | refine JC.condF rfl ?_ | refine JX.blockE ?_))
      refine r_stN (A := []) hO rfl rfl trivial rfl rfl (by omega) (fun M' hO' => ?_)
      (repeat' (first | refine JC.ops ?_ | refine JO.nil ?_ | refine JX.thenN ?_ | (apply r_move; (iterate 3 exact rfl)) | (apply r_assign; (iterate 3 exact rfl)) | (apply r_add1; (iterate 4 exact rfl); omega) | refine JX.blockN ?_))
      refine JX.roundH (i + 1, M', _) ⟨by dsimp only; omega, hO', set_lt hz hc1, ?_, fun j hj => ?_⟩ (by dsimp only; omega) (by repeat first | exact trivial | refine ⟨rfl, ?_⟩) (by (first | exact HSub.refl _ | (repeat' first | exact HSub.nil _ | exact HSub.refl _ | refine HSub.at 0 rfl ?_ | refine HSub.at 1 rfl ?_ | refine HSub.at 2 rfl ?_ | refine HSub.at 3 rfl ?_ | refine HSub.at 4 rfl ?_ | refine HSub.at 5 rfl ?_ | refine HSub.at 6 rfl ?_ | refine HSub.at 7 rfl ?_)))
      · dsimp only
        have e := val_set (b := B16) (l := us) (j := i + q) (u := c) (by omega)
        rw [hzero (i + q) (Nat.le_refl _), Nat.mul_zero, Nat.add_zero, hval] at e
        rw [e, val_take, Nat.add_mul, List.take_of_length_le (l := ys) (i := q) (by omega), Nat.mul_assoc]
      · dsimp only at hj ⊢
        rw [getD_set_ne (by omega)]
        exact hzero j (by omega)
  · (repeat' (first | refine JC.seq ?_ | refine JC.ops ?_ | refine JO.nil ?_ | refine JX.thenN ?_ | (apply r_move; (iterate 3 exact rfl)) | (apply r_lenN; (iterate 3 exact rfl); (first | assumption | exact WN.rd (by assumption) rfl [] | exact OwnN.rd (by assumption))) | (apply r_lss; (iterate 4 exact rfl); all_goals intro hc; all_goals try (exfalso; omega)) | refine JX.thenE ?_ | refine JC.exit ?_ | refine JC.condF rfl ?_ | refine JX.blockE ?_))
    refine r_call0 trivial rfl rfl rfl (fun w hk hs => c_trim w _ _ _ _ (hO.rd.at hk hs (by (repeat' first | exact HSub.nil _ | exact HSub.hd | exact HSub.in0 | exact HSub.refl _ | refine HSub.skip ?_ | refine HSub.skipN ?_))) (by omega)) fun w v w' _ _ _ hR => ?_
    obtain ⟨q, hq, rfl, hnq⟩ := hR
    (repeat' (first | refine JO.nil ?_ | refine JX.thenN ?_ | (apply r_assign; (iterate 3 exact rfl)) | refine JC.ret ?_))
    have hown := hO.hd hq
    rw [← hnq] at hown
    have hql : (nrm zs).length = q := hown.len
    refine JX.ret1 rfl (fun a w' st => ⟨st.kp, N, nrm zs, st.newOf rfl (by (repeat' first | exact HSub.nil _ | exact HSub.hd | exact HSub.in0 | exact HSub.refl _ | refine HSub.skip ?_ | refine HSub.skipN ?_)), by rw [hql]; exact hown, Dig.of hz, ?_, by rw [hql]; exact hq⟩)
    rw [val_nrm, hval, List.take_of_length_le (by omega)]


set_option maxHeartbeats 8000000 in
theorem c_by (w : World) (v : Value) (n : Nat) (xs : List Nat) (d : Nat) (hv : WN w v n xs) (hx : ∀ x ∈ xs, x < B16) (hn : n ≤ 9000000000) (hd : d < B16) :
    Calls Tryd.prog 86 #[v, nv d] w (Ret fun v w' => Kp [] w w' ∧ ∃ N zs, New N w w' ∧ OwnN N v zs.length zs ∧ Dig B16 zs ∧ val B16 zs = val B16 xs * d ∧ zs.length ≤ n + 1) := by
  have hlx := hv.len
  refine calls_of_S [] [] (by simp) [] Tryd.func86 rfl mixed (by kernel_rfl) Tryd.ntmps86 Tryd.results86 rfl ⟨by simp, by simp⟩ (by simp) ?_
  simp only [toS, textOps, toSOp, kindAt, kindOf, odAt, sopsAt, ordOf, zipF]
  (repeat' (first | refine JC.seq ?_ | refine JC.ops ?_ | refine JO.nil ?_ | refine JX.thenN ?_ | (apply r_move; (iterate 3 exact rfl)) | (apply r_assign; (iterate 3 exact rfl)) | (apply r_build1; (iterate 5 exact rfl); (repeat first | exact trivial | refine ⟨rfl, ?_⟩); decide; decide; intro _)))
  rename_i b1
  have hL : OwnN [(b1, .cells ⟨[nv d]⟩ 3)] (.slice (some ⟨b1, 0, none⟩) 1 1) 1 [d] := own_lit b1 1 [d] _ rfl rfl (by decide)
  refine r_callA (A := []) rfl trivial rfl rfl rfl (fun w hk hs => c_times w _ _ _ _ xs [d] (hv.mono hk) (hL.rd.at hk hs (by (repeat' first | exact HSub.nil _ | exact HSub.hd | exact HSub.in0 | exact HSub.refl _ | refine HSub.skip ?_ | refine HSub.skipN ?_))) hx (fun x hx => by rw [List.mem_singleton.1 hx]; exact hd) (by omega) (by decide)) fun w v w' _ _ _ hR => ?_
  obtain ⟨N1, zs1, hN1, hO1, hz1, hval1, hl1⟩ := hR
  refine ⟨N1, hN1, ?_⟩
  (repeat' (first | refine JO.nil ?_ | refine JX.thenN ?_ | (apply r_assign; (iterate 3 exact rfl)) | refine JC.ret ?_))
  exact JX.ret1 rfl (fun a w' st => ⟨st.kp, N1, zs1, st.newOf rfl (by (repeat' first | exact HSub.nil _ | exact HSub.hd | exact HSub.in0 | exact HSub.refl _ | refine HSub.skip ?_ | refine HSub.skipN ?_)), hO1, hz1, by rw [hval1, val, val, Nat.mul_zero, Nat.add_zero], hl1⟩)

theorem len_of_lt {l r : List Nat} (hl : Dig B16 l) (hr : Dig B16 r) (h : val B16 l ≤ val B16 r) : l.length ≤ r.length := by
  refine Decidable.byContradiction fun h2 => ?_
  have := len_cmp (b := B16) (by decide) hr hl (by omega)
  omega
theorem cmpV_le {a b : Nat} : cmpV a b ≤ 0 ↔ a ≤ b := by
  unfold cmpV
  split
  · simp_all; omega
  · split <;> simp_all
theorem over_round {R x r D y V low b : Nat} (h1 : R = x + b * r) (h2 : D = y * V + r) (h3 : y * low ≤ R) : x + b * D = y * (low + b * V) + (R - y * low) := by
  have e1 : b * D = b * (y * V) + b * r := by rw [h2, Nat.mul_add]
  have e2 : y * (low + b * V) = y * low + b * (y * V) := by rw [Nat.mul_add, Nat.mul_left_comm y b V]
  omega

def GivesO (X Y : Nat) (w : World) (r : Value) (w' : World) : Prop := ∃ N1 N2 v1 v2 qs rs, r = .tuple #[v1, v2] ∧ New (N1 ++ N2) w w' ∧ OwnN N1 v1 qs.length qs ∧ OwnN N2 v2 rs.length rs ∧ Dig B16 qs ∧ Dig B16 rs ∧ X = Y * val B16 qs + val B16 rs ∧ val B16 rs < Y

set_option maxHeartbeats 8000000 in
theorem c_overR (w : World) (v u : Value) (n k : Nat) (xs ys : List Nat) (hv : WN w v n xs) (hu : WN w u k ys) (hx : ∀ x ∈ xs, x < B16) (hy : Dig B16 ys) (h0 : 0 < val B16 ys) (hn : n ≤ 1000000000) (hk : k ≤ 1000000000) :
    Calls Tryd.prog 57 #[v, u] w (Ret fun r w' => Kp [] w w' ∧ GivesO (val B16 xs) (val B16 ys) w r w') := by
  have hlx := hv.len
  have hly := hu.len
  refine calls_of_S [] [] (by simp) [] Tryd.func57 rfl mixed (by kernel_rfl) Tryd.ntmps57 Tryd.results57 rfl ⟨by simp, by simp⟩ (by simp) ?_
  simp only [toS, textOps, toSOp, kindAt, kindOf, odAt, sopsAt, ordOf, zipF]
  (repeat' (first | refine JC.seq ?_ | refine JC.ops ?_ | refine JO.nil ?_ | refine JX.thenN ?_ | (apply r_move; (iterate 3 exact rfl)) | (apply r_assign; (iterate 3 exact rfl)) | (apply r_lenN; (iterate 3 exact rfl); (first | assumption | exact WN.rd (by assumption) rfl [] | exact OwnN.rd (by assumption)))))
  refine r_make (n := n) rfl rfl rfl rfl rfl (by omega) (by omega) (fun b5 => ?_)
  have hO := own_zeros b5 n (by simp only [maxLen]; omega)
  (repeat' (first | refine JC.seq ?_ | refine JC.ops ?_ | refine JO.nil ?_ | refine JX.thenN ?_ | (apply r_move; (iterate 3 exact rfl)) | (apply r_assign; (iterate 3 exact rfl)) | (apply r_lenN; (iterate 3 exact rfl); (first | assumption | exact WN.rd (by assumption) rfl [] | exact OwnN.rd (by assumption))) | (apply r_sub; (iterate 4 exact rfl); omega) | refine JC.block ?_))
  refine JC.loopH (ι := Nat × Value × SHeap × List Nat × SHeap × List Nat) ⟨fun z => [(8, iv ((z.1 : Int) - 1)), (7, z.2.1), (6, .slice (some ⟨b5, 0, none⟩) n n), (0, v), (1, u)], fun z => z.2.2.1 ++ (z.2.2.2.2.1 ++ []),
    fun z => z.1 ≤ n ∧ OwnN z.2.2.1 z.2.1 z.2.2.2.1.length z.2.2.2.1 ∧ Dig B16 z.2.2.2.1 ∧ OwnN z.2.2.2.2.1 (.slice (some ⟨b5, 0, none⟩) n n) n z.2.2.2.2.2 ∧ (∀ x ∈ z.2.2.2.2.2, x < B16) ∧ val B16 z.2.2.2.1 < val B16 ys ∧ val B16 (xs.drop z.1) = val B16 ys * val B16 (z.2.2.2.2.2.drop z.1) + val B16 z.2.2.2.1, fun z => z.1⟩
    (n, .slice none 0 0, [], [], _, _) ⟨Nat.le_refl _, OwnN.nil, Dig.nil _, hO, fun x hx => by obtain ⟨a, _, rfl⟩ := List.mem_map.1 hx; decide, h0, by
      dsimp only
      rw [val_drop_nil (by omega), val_drop_nil (by simp), Nat.mul_zero]; rfl⟩ (by repeat first | exact trivial | refine ⟨rfl, ?_⟩) (by (first | exact HSub.refl _ | (repeat' first | exact HSub.nil _ | exact HSub.refl _ | refine HSub.at 0 rfl ?_ | refine HSub.at 1 rfl ?_ | refine HSub.at 2 rfl ?_ | refine HSub.at 3 rfl ?_ | refine HSub.at 4 rfl ?_ | refine HSub.at 5 rfl ?_ | refine HSub.at 6 rfl ?_ | refine HSub.at 7 rfl ?_))) (fun z hz => ?_)
  clear hO
  obtain ⟨m, vr, Nr, rs, Nq, qs⟩ := z
  obtain ⟨hm, hOr, hzr, hOq, hzq, hlt, hval⟩ := hz
  dsimp only at hm hOr hzr hOq hzq hlt hval ⊢
  have hlq := hOq.len
  have hrl : rs.length ≤ k := by have := len_of_lt hzr hy (Nat.le_of_lt hlt); omega
  rcases m with _ | i
  · (repeat' (first | refine JC.seq ?_ | refine JC.ops ?_ | refine JO.nil ?_ | refine JX.thenN ?_ | (apply r_move; (iterate 3 exact rfl)) | (apply r_geq; (iterate 4 exact rfl); all_goals intro hc; all_goals try (exfalso; omega)) | refine JX.thenE ?_ | refine JC.exit ?_ | refine JC.condF rfl ?_ | refine JX.blockE ?_))
    refine r_call0 trivial rfl rfl rfl (fun w hk hs => c_trim w _ _ _ _ (hOq.rd.at hk hs (by (repeat' first | exact HSub.nil _ | exact HSub.hd | exact HSub.in0 | exact HSub.refl _ | refine HSub.skip ?_ | refine HSub.skipN ?_))) (by omega)) fun w v w' _ _ _ hR => ?_
    obtain ⟨q, hq, rfl, hnq⟩ := hR
    (repeat' (first | refine JO.nil ?_ | refine JX.thenN ?_ | (apply r_move; (iterate 3 exact rfl)) | (apply r_assign; (iterate 3 exact rfl)) | refine JC.ret ?_))
    have hown := hOq.hd hq
    rw [← hnq] at hown
    have hql : (nrm qs).length = q := hown.len
    refine JX.ret2 rfl rfl (fun a w' st => ⟨st.kp, Nq, Nr, _, _, nrm qs, rs, rfl, st.newOf rfl ?_, by rw [hql]; exact hown, hOr, Dig.of hzq, hzr, ?_, hlt⟩)
    · exact ⟨[], by simpa using List.perm_append_comm⟩
    · rw [List.drop_zero, List.drop_zero] at hval
      rw [val_nrm, hval]
  · have hiv : iv (((i + 1 : Nat) : Int) - 1) = nv i := by
      show iv _ = iv _
      congr 1
      omega
    rw [hiv]
    have hxi : xs.getD i 0 < 65536 := mem_getD_lt (b := B16) (by decide) hx i
    generalize hxe : xs.getD i 0 = x at hxi
    have hxv : val B16 (xs.drop i) = x + 65536 * val B16 (xs.drop (i + 1)) := by rw [val_drop (show i < xs.length by omega), hxe]
    (repeat' (first | refine JC.seq ?_ | refine JC.ops ?_ | refine JO.nil ?_ | refine JX.thenN ?_ | (apply r_move; (iterate 3 exact rfl)) | (apply r_idxN; (iterate 4 exact rfl); (first | assumption | exact WN.rd (by assumption) rfl [] | exact OwnN.rd (by assumption)); (first | assumption | omega)) | (apply r_ldN; (iterate 4 exact rfl); (first | assumption | exact WN.rd (by assumption) rfl [] | exact OwnN.rd (by assumption)); (repeat' first | exact HSub.nil _ | exact HSub.hd | exact HSub.in0 | exact HSub.refl _ | refine HSub.skip ?_ | refine HSub.skipN ?_); (first | assumption | omega)) | (apply r_geq; (iterate 4 exact rfl); all_goals intro hc; all_goals try (exfalso; omega)) | (apply r_build1; (iterate 5 exact rfl); (repeat first | exact trivial | refine ⟨rfl, ?_⟩); decide; decide; intro _) | refine JC.skip ?_ | refine JC.condT rfl ?_ | refine JC.block ?_))
    rename_i b2
    rw [hxe]
    refine r_appendN (A := []) (N := [(b2, _)]) (own_lit b2 1 [x] _ rfl rfl (by decide)) hOr.rd (by (repeat' first | exact HSub.nil _ | exact HSub.hd | exact HSub.in0 | exact HSub.refl _ | refine HSub.skip ?_ | refine HSub.skipN ?_)) rfl trivial rfl rfl rfl rfl (by omega) (fun v' N' hO' => ?_)
    obtain ⟨A', cap', rfl⟩ := hO'.form
    skip
    refine r_call0 trivial rfl rfl rfl (fun w hk hs => c_trim w _ _ _ _ (hO'.rd.at hk hs (by (repeat' first | exact HSub.nil _ | exact HSub.hd | exact HSub.in0 | exact HSub.refl _ | refine HSub.skip ?_ | refine HSub.skipN ?_))) (by omega)) fun w v w' _ _ _ hR => ?_
    obtain ⟨q, hq, rfl, hnq⟩ := hR
    have hR1 := hO'.hd hq
    rw [← hnq] at hR1
    have hz1 : Dig B16 (nrm ([x] ++ rs)) := Dig.of fun y hy2 => by
      rcases List.mem_append.1 hy2 with h | h
      · rw [List.mem_singleton.1 h]; exact hxi
      · exact hzr.lt y h
    have hv1 : val B16 (nrm ([x] ++ rs)) = x + 65536 * val B16 rs := by rw [val_nrm]; rfl
    have hq1 := hR1.len
    generalize nrm ([x] ++ rs) = r1 at hR1 hz1 hv1 hq1
    have hbig : val B16 r1 < val B16 ys * 65536 := by omega
    clear hnq
    (repeat' (first | refine JC.seq ?_ | refine JC.ops ?_ | refine JO.nil ?_ | refine JX.thenN ?_ | (apply r_move; (iterate 3 exact rfl)) | (apply r_assign; (iterate 3 exact rfl))))
    refine r_call0 trivial rfl rfl rfl (fun w hk hs => c_compare w _ _ _ _ r1 ys (hR1.rd.at hk hs (by (repeat' first | exact HSub.nil _ | exact HSub.hd | exact HSub.in0 | exact HSub.refl _ | refine HSub.skip ?_ | refine HSub.skipN ?_))) (hu.mono hk) hz1 hy (by omega) (by omega)) fun w v w' _ _ _ hR => ?_
    subst hR
    by_cases hcmp : val B16 r1 < val B16 ys
    · have hc0 := cmpV_neg.2 hcmp
      (repeat' (first | refine JC.seq ?_ | refine JC.ops ?_ | refine JO.nil ?_ | refine JX.thenN ?_ | (apply r_assign; (iterate 3 exact rfl)) | (apply r_lss; (iterate 4 exact rfl); all_goals intro hc; all_goals try (exfalso; omega)) | refine JC.condT rfl ?_ | refine JC.block ?_))
      refine JC.loopH (ι := Nat × Nat) ⟨fun z => [(10, nv z.2), (9, nv z.1), (8, nv i), (7, .slice A' q cap'), (6, .slice (some ⟨b5, 0, none⟩) n n), (0, v), (1, u)], fun _ => N' ++ (Nq ++ []),
        fun z => z.1 < z.2 ∧ z.2 ≤ 65536 ∧ val B16 ys * z.1 ≤ val B16 r1 ∧ val B16 r1 < val B16 ys * z.2, fun z => z.2 - z.1⟩ (0, 1) ⟨by decide, by decide, by rw [Nat.mul_zero]; exact Nat.zero_le _, by rw [Nat.mul_one]; exact hcmp⟩ (by repeat first | exact trivial | refine ⟨rfl, ?_⟩) (by (repeat' first | exact HSub.refl _ | exact HSub.nil _ | refine HSub.at 0 rfl ?_ | refine HSub.at 1 rfl ?_ | refine HSub.at 2 rfl ?_ | refine HSub.at 3 rfl ?_ | refine HSub.at 4 rfl ?_ | refine HSub.at 5 rfl ?_ | refine HSub.at 6 rfl ?_ | refine HSub.at 7 rfl ?_ | refine HSub.at 8 rfl ?_ | refine HSub.at 9 rfl ?_ | refine HSub.at 10 rfl ?_ | refine HSub.at 11 rfl ?_ | refine HSub.at 12 rfl ?_ | refine HSub.at 13 rfl ?_ | refine HSub.at 14 rfl ?_ | refine HSub.at 15 rfl ?_ | refine HSub.at 16 rfl ?_ | refine HSub.at 17 rfl ?_ | refine HSub.at 18 rfl ?_ | refine HSub.at 19 rfl ?_ | refine HSub.segH ?_ | refine HSub.skip ?_ | refine HSub.skipN ?_)) (fun z hz => ?_)
      obtain ⟨low, high⟩ := z
      obtain ⟨hlh, hhb, hlow, hhigh⟩ := hz
      dsimp only at hlh hhb hlow hhigh ⊢
      by_cases hgo : 1 < high - low
      · (repeat' (first | refine JC.seq ?_ | refine JC.ops ?_ | refine JO.nil ?_ | refine JX.thenN ?_ | (apply r_move; (iterate 3 exact rfl)) | (apply r_assign; (iterate 3 exact rfl)) | (apply r_divN (j := 2); (iterate 4 exact rfl); omega) | (apply r_addN; (iterate 4 exact rfl); omega) | (apply r_subN; (iterate 4 exact rfl); omega) | (apply r_gtr; (iterate 4 exact rfl); all_goals intro hc; all_goals try (exfalso; omega)) | refine JC.skip ?_ | refine JC.condT rfl ?_ | refine JC.block ?_))
        have hmb : (low + high) / 2 < 65536 := by omega
        refine r_callA (A := []) rfl trivial rfl rfl rfl (fun w hk hs => c_by w _ _ ys ((low + high) / 2) (hu.mono hk) hy.lt (by omega) hmb) fun w v w' _ _ _ hR => ?_
        obtain ⟨N3, zs3, hN3, hO3, hz3, hval3, hl3⟩ := hR
        refine ⟨N3, hN3, ?_⟩
        (repeat' (first | (apply r_move; (iterate 3 exact rfl))))
        refine r_call0 trivial rfl rfl rfl (fun w hk hs => c_compare w _ _ _ _ zs3 r1 (hO3.rd.at hk hs (by (repeat' first | exact HSub.nil _ | exact HSub.hd | exact HSub.in0 | exact HSub.refl _ | refine HSub.skip ?_ | refine HSub.skipN ?_))) (hR1.rd.at hk hs (by (repeat' first | exact HSub.nil _ | exact HSub.hd | exact HSub.in0 | exact HSub.refl _ | refine HSub.skip ?_ | refine HSub.skipN ?_))) hz3 hz1 (by omega) (by omega)) fun w v w' _ _ _ hR => ?_
        subst hR
        by_cases hle : val B16 zs3 ≤ val B16 r1
        · have hc9 := cmpV_le.2 hle
          (repeat' (first | refine JC.ops ?_ | refine JO.nil ?_ | refine JX.thenN ?_ | (apply r_move; (iterate 3 exact rfl)) | (apply r_assign; (iterate 3 exact rfl)) | (apply r_leq; (iterate 4 exact rfl); all_goals intro hc; all_goals try (exfalso; omega)) | refine JC.condT rfl ?_ | refine JX.blockN ?_))
          refine JX.roundH ((low + high) / 2, high) ⟨by dsimp only; omega, hhb, by rw [← hval3]; exact hle, hhigh⟩ (by dsimp only; omega) (by repeat first | exact trivial | refine ⟨rfl, ?_⟩) (by (repeat' first | exact HSub.refl _ | exact HSub.nil _ | refine HSub.at 0 rfl ?_ | refine HSub.at 1 rfl ?_ | refine HSub.at 2 rfl ?_ | refine HSub.at 3 rfl ?_ | refine HSub.at 4 rfl ?_ | refine HSub.at 5 rfl ?_ | refine HSub.at 6 rfl ?_ | refine HSub.at 7 rfl ?_ | refine HSub.at 8 rfl ?_ | refine HSub.at 9 rfl ?_ | refine HSub.at 10 rfl ?_ | refine HSub.at 11 rfl ?_ | refine HSub.at 12 rfl ?_ | refine HSub.at 13 rfl ?_ | refine HSub.at 14 rfl ?_ | refine HSub.at 15 rfl ?_ | refine HSub.at 16 rfl ?_ | refine HSub.at 17 rfl ?_ | refine HSub.at 18 rfl ?_ | refine HSub.at 19 rfl ?_ | refine HSub.segH ?_ | refine HSub.skip ?_ | refine HSub.skipN ?_))
        · have hc9 : ¬ cmpV (val B16 zs3) (val B16 r1) ≤ 0 := fun h => hle (cmpV_le.1 h)
          (repeat' (first | refine JC.ops ?_ | refine JO.nil ?_ | refine JX.thenN ?_ | (apply r_move; (iterate 3 exact rfl)) | (apply r_assign; (iterate 3 exact rfl)) | (apply r_leq; (iterate 4 exact rfl); all_goals intro hc; all_goals try (exfalso; omega)) | refine JC.condF rfl ?_ | refine JX.blockN ?_))
          refine JX.roundH (low, (low + high) / 2) ⟨by dsimp only; omega, by dsimp only; omega, hlow, by dsimp only; rw [← hval3]; omega⟩ (by dsimp only; omega) (by repeat first | exact trivial | refine ⟨rfl, ?_⟩) (by (repeat' first | exact HSub.refl _ | exact HSub.nil _ | refine HSub.at 0 rfl ?_ | refine HSub.at 1 rfl ?_ | refine HSub.at 2 rfl ?_ | refine HSub.at 3 rfl ?_ | refine HSub.at 4 rfl ?_ | refine HSub.at 5 rfl ?_ | refine HSub.at 6 rfl ?_ | refine HSub.at 7 rfl ?_ | refine HSub.at 8 rfl ?_ | refine HSub.at 9 rfl ?_ | refine HSub.at 10 rfl ?_ | refine HSub.at 11 rfl ?_ | refine HSub.at 12 rfl ?_ | refine HSub.at 13 rfl ?_ | refine HSub.at 14 rfl ?_ | refine HSub.at 15 rfl ?_ | refine HSub.at 16 rfl ?_ | refine HSub.at 17 rfl ?_ | refine HSub.at 18 rfl ?_ | refine HSub.at 19 rfl ?_ | refine HSub.segH ?_ | refine HSub.skip ?_ | refine HSub.skipN ?_))
      · (repeat' (first | refine JC.seq ?_ | refine JC.ops ?_ | refine JO.nil ?_ | refine JX.thenN ?_ | (apply r_move; (iterate 3 exact rfl)) | (apply r_idxN; (iterate 4 exact rfl); (first | assumption | exact WN.rd (by assumption) rfl [] | exact OwnN.rd (by assumption)); (first | assumption | omega)) | (apply r_subN; (iterate 4 exact rfl); omega) | (apply r_gtr; (iterate 4 exact rfl); all_goals intro hc; all_goals try (exfalso; omega)) | refine JX.thenE ?_ | refine JC.exit ?_ | refine JC.condF rfl ?_ | refine JX.blockE ?_))
        refine r_stN (A := N') hOq rfl rfl trivial rfl rfl (by omega) (fun Nq' hOq' => ?_)
        (repeat' (first | refine JC.ops ?_ | refine JO.nil ?_ | refine JX.thenN ?_ | (apply r_move; (iterate 3 exact rfl))))
        refine r_callA (A := []) rfl trivial rfl rfl rfl (fun w hk hs => c_by w _ _ ys low (hu.mono hk) hy.lt (by omega) (by show low < 65536; omega)) fun w v w' _ _ _ hR => ?_
        obtain ⟨N4, zs4, hN4, hO4, hz4, hval4, hl4⟩ := hR
        refine ⟨N4, hN4, ?_⟩
        skip
        have hle4 : val B16 zs4 ≤ val B16 r1 := by rw [hval4]; exact hlow
        have hll4 := len_of_lt hz4 hz1 hle4
        refine r_callA (A := []) rfl trivial rfl rfl rfl (fun w hk hs => c_minus w _ _ _ _ r1 zs4 (hR1.rd.at hk hs (by (repeat' first | exact HSub.nil _ | exact HSub.hd | exact HSub.in0 | exact HSub.refl _ | refine HSub.skip ?_ | refine HSub.skipN ?_))) (hO4.rd.at hk hs (by (repeat' first | exact HSub.nil _ | exact HSub.hd | exact HSub.in0 | exact HSub.refl _ | refine HSub.skip ?_ | refine HSub.skipN ?_))) hz1.lt hz4.lt (by omega) (by omega) hle4) fun w v w' _ _ _ hR => ?_
        obtain ⟨N5, zs5, hN5, hO5, hz5, hval5⟩ := hR
        refine ⟨N5, hN5, ?_⟩
        have hhl : high = low + 1 := by omega
        subst hhl
        rw [Nat.mul_add, Nat.mul_one] at hhigh
        (repeat' (first | refine JC.ops ?_ | refine JO.nil ?_ | refine JX.thenN ?_ | (apply r_move; (iterate 3 exact rfl)) | (apply r_assign; (iterate 3 exact rfl)) | (apply r_sub; (iterate 4 exact rfl); omega) | refine JX.blockN ?_))
        refine JX.roundH (i, _, N5, zs5, Nq', qs.set i low) ⟨by dsimp only; omega, hO5, hz5, hOq', set_lt hzq (by show low < 65536; omega), by dsimp only; omega, ?_⟩ (by dsimp only; omega) (by repeat first | exact trivial | refine ⟨rfl, ?_⟩) (by (repeat' first | exact HSub.refl _ | exact HSub.nil _ | refine HSub.at 0 rfl ?_ | refine HSub.at 1 rfl ?_ | refine HSub.at 2 rfl ?_ | refine HSub.at 3 rfl ?_ | refine HSub.at 4 rfl ?_ | refine HSub.at 5 rfl ?_ | refine HSub.at 6 rfl ?_ | refine HSub.at 7 rfl ?_ | refine HSub.at 8 rfl ?_ | refine HSub.at 9 rfl ?_ | refine HSub.at 10 rfl ?_ | refine HSub.at 11 rfl ?_ | refine HSub.at 12 rfl ?_ | refine HSub.at 13 rfl ?_ | refine HSub.at 14 rfl ?_ | refine HSub.at 15 rfl ?_ | refine HSub.at 16 rfl ?_ | refine HSub.at 17 rfl ?_ | refine HSub.at 18 rfl ?_ | refine HSub.at 19 rfl ?_ | refine HSub.segH ?_ | refine HSub.skip ?_ | refine HSub.skipN ?_))
        dsimp only
        rw [hxv, val_drop (l := qs.set i low) (show i < (qs.set i low).length by simp; omega), getD_set_self (by omega), drop_set, hval5, hval4]
        exact over_round hv1 hval hlow
    · have hc0 : ¬ cmpV (val B16 r1) (val B16 ys) < 0 := fun h => hcmp (cmpV_neg.1 h)
      (repeat' (first | refine JC.seq ?_ | refine JO.nil ?_ | refine JX.thenN ?_ | (apply r_lss; (iterate 4 exact rfl); all_goals intro hc; all_goals try (exfalso; omega)) | refine JC.skip ?_ | refine JC.condF rfl ?_ | refine JC.block ?_))
      refine JC.loopH (ι := Nat × Nat) ⟨fun z => [(10, nv z.2), (9, nv z.1), (8, nv i), (7, .slice A' q cap'), (6, .slice (some ⟨b5, 0, none⟩) n n), (0, v), (1, u)], fun _ => N' ++ (Nq ++ []),
        fun z => z.1 < z.2 ∧ z.2 ≤ 65536 ∧ val B16 ys * z.1 ≤ val B16 r1 ∧ val B16 r1 < val B16 ys * z.2, fun z => z.2 - z.1⟩ (0, 65536) ⟨by decide, by decide, by rw [Nat.mul_zero]; exact Nat.zero_le _, hbig⟩ (by repeat first | exact trivial | refine ⟨rfl, ?_⟩) (by (repeat' first | exact HSub.refl _ | exact HSub.nil _ | refine HSub.at 0 rfl ?_ | refine HSub.at 1 rfl ?_ | refine HSub.at 2 rfl ?_ | refine HSub.at 3 rfl ?_ | refine HSub.at 4 rfl ?_ | refine HSub.at 5 rfl ?_ | refine HSub.at 6 rfl ?_ | refine HSub.at 7 rfl ?_ | refine HSub.at 8 rfl ?_ | refine HSub.at 9 rfl ?_ | refine HSub.at 10 rfl ?_ | refine HSub.at 11 rfl ?_ | refine HSub.at 12 rfl ?_ | refine HSub.at 13 rfl ?_ | refine HSub.at 14 rfl ?_ | refine HSub.at 15 rfl ?_ | refine HSub.at 16 rfl ?_ | refine HSub.at 17 rfl ?_ | refine HSub.at 18 rfl ?_ | refine HSub.at 19 rfl ?_ | refine HSub.segH ?_ | refine HSub.skip ?_ | refine HSub.skipN ?_)) (fun z hz => ?_)
      obtain ⟨low, high⟩ := z
      obtain ⟨hlh, hhb, hlow, hhigh⟩ := hz
      dsimp only at hlh hhb hlow hhigh ⊢
      by_cases hgo : 1 < high - low
      · (repeat' (first | refine JC.seq ?_ | refine JC.ops ?_ | refine JO.nil ?_ | refine JX.thenN ?_ | (apply r_move; (iterate 3 exact rfl)) | (apply r_assign; (iterate 3 exact rfl)) | (apply r_divN (j := 2); (iterate 4 exact rfl); omega) | (apply r_addN; (iterate 4 exact rfl); omega) | (apply r_subN; (iterate 4 exact rfl); omega) | (apply r_gtr; (iterate 4 exact rfl); all_goals intro hc; all_goals try (exfalso; omega)) | refine JC.skip ?_ | refine JC.condT rfl ?_ | refine JC.block ?_))
        have hmb : (low + high) / 2 < 65536 := by omega
        refine r_callA (A := []) rfl trivial rfl rfl rfl (fun w hk hs => c_by w _ _ ys ((low + high) / 2) (hu.mono hk) hy.lt (by omega) hmb) fun w v w' _ _ _ hR => ?_
        obtain ⟨N3, zs3, hN3, hO3, hz3, hval3, hl3⟩ := hR
        refine ⟨N3, hN3, ?_⟩
        (repeat' (first | (apply r_move; (iterate 3 exact rfl))))
        refine r_call0 trivial rfl rfl rfl (fun w hk hs => c_compare w _ _ _ _ zs3 r1 (hO3.rd.at hk hs (by (repeat' first | exact HSub.nil _ | exact HSub.hd | exact HSub.in0 | exact HSub.refl _ | refine HSub.skip ?_ | refine HSub.skipN ?_))) (hR1.rd.at hk hs (by (repeat' first | exact HSub.nil _ | exact HSub.hd | exact HSub.in0 | exact HSub.refl _ | refine HSub.skip ?_ | refine HSub.skipN ?_))) hz3 hz1 (by omega) (by omega)) fun w v w' _ _ _ hR => ?_
        subst hR
        by_cases hle : val B16 zs3 ≤ val B16 r1
        · have hc9 := cmpV_le.2 hle
          (repeat' (first | refine JC.ops ?_ | refine JO.nil ?_ | refine JX.thenN ?_ | (apply r_move; (iterate 3 exact rfl)) | (apply r_assign; (iterate 3 exact rfl)) | (apply r_leq; (iterate 4 exact rfl); all_goals intro hc; all_goals try (exfalso; omega)) | refine JC.condT rfl ?_ | refine JX.blockN ?_))
          refine JX.roundH ((low + high) / 2, high) ⟨by dsimp only; omega, hhb, by rw [← hval3]; exact hle, hhigh⟩ (by dsimp only; omega) (by repeat first | exact trivial | refine ⟨rfl, ?_⟩) (by (repeat' first | exact HSub.refl _ | exact HSub.nil _ | refine HSub.at 0 rfl ?_ | refine HSub.at 1 rfl ?_ | refine HSub.at 2 rfl ?_ | refine HSub.at 3 rfl ?_ | refine HSub.at 4 rfl ?_ | refine HSub.at 5 rfl ?_ | refine HSub.at 6 rfl ?_ | refine HSub.at 7 rfl ?_ | refine HSub.at 8 rfl ?_ | refine HSub.at 9 rfl ?_ | refine HSub.at 10 rfl ?_ | refine HSub.at 11 rfl ?_ | refine HSub.at 12 rfl ?_ | refine HSub.at 13 rfl ?_ | refine HSub.at 14 rfl ?_ | refine HSub.at 15 rfl ?_ | refine HSub.at 16 rfl ?_ | refine HSub.at 17 rfl ?_ | refine HSub.at 18 rfl ?_ | refine HSub.at 19 rfl ?_ | refine HSub.segH ?_ | refine HSub.skip ?_ | refine HSub.skipN ?_))
        · have hc9 : ¬ cmpV (val B16 zs3) (val B16 r1) ≤ 0 := fun h => hle (cmpV_le.1 h)
          (repeat' (first | refine JC.ops ?_ | refine JO.nil ?_ | refine JX.thenN ?_ | (apply r_move; (iterate 3 exact rfl)) | (apply r_assign; (iterate 3 exact rfl)) | (apply r_leq; (iterate 4 exact rfl); all_goals intro hc; all_goals try (exfalso; omega)) | refine JC.condF rfl ?_ | refine JX.blockN ?_))
          refine JX.roundH (low, (low + high) / 2) ⟨by dsimp only; omega, by dsimp only; omega, hlow, by dsimp only; rw [← hval3]; omega⟩ (by dsimp only; omega) (by repeat first | exact trivial | refine ⟨rfl, ?_⟩) (by (repeat' first | exact HSub.refl _ | exact HSub.nil _ | refine HSub.at 0 rfl ?_ | refine HSub.at 1 rfl ?_ | refine HSub.at 2 rfl ?_ | refine HSub.at 3 rfl ?_ | refine HSub.at 4 rfl ?_ | refine HSub.at 5 rfl ?_ | refine HSub.at 6 rfl ?_ | refine HSub.at 7 rfl ?_ | refine HSub.at 8 rfl ?_ | refine HSub.at 9 rfl ?_ | refine HSub.at 10 rfl ?_ | refine HSub.at 11 rfl ?_ | refine HSub.at 12 rfl ?_ | refine HSub.at 13 rfl ?_ | refine HSub.at 14 rfl ?_ | refine HSub.at 15 rfl ?_ | refine HSub.at 16 rfl ?_ | refine HSub.at 17 rfl ?_ | refine HSub.at 18 rfl ?_ | refine HSub.at 19 rfl ?_ | refine HSub.segH ?_ | refine HSub.skip ?_ | refine HSub.skipN ?_))
      · (repeat' (first | refine JC.seq ?_ | refine JC.ops ?_ | refine JO.nil ?_ | refine JX.thenN ?_ | (apply r_move; (iterate 3 exact rfl)) | (apply r_idxN; (iterate 4 exact rfl); (first | assumption | exact WN.rd (by assumption) rfl [] | exact OwnN.rd (by assumption)); (first | assumption | omega)) | (apply r_subN; (iterate 4 exact rfl); omega) | (apply r_gtr; (iterate 4 exact rfl); all_goals intro hc; all_goals try (exfalso; omega)) | refine JX.thenE ?_ | refine JC.exit ?_ | refine JC.condF rfl ?_ | refine JX.blockE ?_))
        refine r_stN (A := N') hOq rfl rfl trivial rfl rfl (by omega) (fun Nq' hOq' => ?_)
        (repeat' (first | refine JC.ops ?_ | refine JO.nil ?_ | refine JX.thenN ?_ | (apply r_move; (iterate 3 exact rfl))))
        refine r_callA (A := []) rfl trivial rfl rfl rfl (fun w hk hs => c_by w _ _ ys low (hu.mono hk) hy.lt (by omega) (by show low < 65536; omega)) fun w v w' _ _ _ hR => ?_
        obtain ⟨N4, zs4, hN4, hO4, hz4, hval4, hl4⟩ := hR
        refine ⟨N4, hN4, ?_⟩
        skip
        have hle4 : val B16 zs4 ≤ val B16 r1 := by rw [hval4]; exact hlow
        have hll4 := len_of_lt hz4 hz1 hle4
        refine r_callA (A := []) rfl trivial rfl rfl rfl (fun w hk hs => c_minus w _ _ _ _ r1 zs4 (hR1.rd.at hk hs (by (repeat' first | exact HSub.nil _ | exact HSub.hd | exact HSub.in0 | exact HSub.refl _ | refine HSub.skip ?_ | refine HSub.skipN ?_))) (hO4.rd.at hk hs (by (repeat' first | exact HSub.nil _ | exact HSub.hd | exact HSub.in0 | exact HSub.refl _ | refine HSub.skip ?_ | refine HSub.skipN ?_))) hz1.lt hz4.lt (by omega) (by omega) hle4) fun w v w' _ _ _ hR => ?_
        obtain ⟨N5, zs5, hN5, hO5, hz5, hval5⟩ := hR
        refine ⟨N5, hN5, ?_⟩
        have hhl : high = low + 1 := by omega
        subst hhl
        rw [Nat.mul_add, Nat.mul_one] at hhigh
        (repeat' (first | refine JC.ops ?_ | refine JO.nil ?_ | refine JX.thenN ?_ | (apply r_move; (iterate 3 exact rfl)) | (apply r_assign; (iterate 3 exact rfl)) | (apply r_sub; (iterate 4 exact rfl); omega) | refine JX.blockN ?_))
        refine JX.roundH (i, _, N5, zs5, Nq', qs.set i low) ⟨by dsimp only; omega, hO5, hz5, hOq', set_lt hzq (by show low < 65536; omega), by dsimp only; omega, ?_⟩ (by dsimp only; omega) (by repeat first | exact trivial | refine ⟨rfl, ?_⟩) (by (repeat' first | exact HSub.refl _ | exact HSub.nil _ | refine HSub.at 0 rfl ?_ | refine HSub.at 1 rfl ?_ | refine HSub.at 2 rfl ?_ | refine HSub.at 3 rfl ?_ | refine HSub.at 4 rfl ?_ | refine HSub.at 5 rfl ?_ | refine HSub.at 6 rfl ?_ | refine HSub.at 7 rfl ?_ | refine HSub.at 8 rfl ?_ | refine HSub.at 9 rfl ?_ | refine HSub.at 10 rfl ?_ | refine HSub.at 11 rfl ?_ | refine HSub.at 12 rfl ?_ | refine HSub.at 13 rfl ?_ | refine HSub.at 14 rfl ?_ | refine HSub.at 15 rfl ?_ | refine HSub.at 16 rfl ?_ | refine HSub.at 17 rfl ?_ | refine HSub.at 18 rfl ?_ | refine HSub.at 19 rfl ?_ | refine HSub.segH ?_ | refine HSub.skip ?_ | refine HSub.skipN ?_))
        dsimp only
        rw [hxv, val_drop (l := qs.set i low) (show i < (qs.set i low).length by simp; omega), getD_set_self (by omega), drop_set, hval5, hval4]
        exact over_round hv1 hval hlow


theorem WN.hd {w : World} {A : Option Addr} {n k cap : Nat} {xs : List Nat} (hv : WN w (.slice A n cap) n xs) (hk : k ≤ n) : WN w (.slice A k cap) k (xs.take k) := by
  have hl := hv.len
  obtain ⟨h1, A', cap', h2, h3, h4⟩ := hv
  simp only [Value.slice.injEq] at h2
  obtain ⟨rfl, _, rfl⟩ := h2
  refine ⟨by simp; omega, A, cap, rfl, by omega, fun h0 => ⟨(h4 (by omega)).1, fun j u hu => ?_⟩⟩
  obtain ⟨⟨b, o, rfl⟩, h5⟩ := h4 (by omega)
  refine h5 j u ?_
  rw [List.map_take, List.getElem?_take] at hu
  split at hu
  · exact hu
  · cases hu
theorem lead {p : Bool} {l : List UInt8} {V : Nat} (h1 : (bts l).getD 0 0 ≠ 0) (h2 : bval (bts l) = V) : wv p l = Wv (sgn p V) := by
  have hl : l.dropWhile (· == 0) = l := by
    cases l with
    | nil => rfl
    | cons a l =>
      have : (a == 0) = false := by
        simp only [beq_eq_false_iff_ne]
        intro e
        subst e
        exact h1 rfl
      rw [List.dropWhile, this]
  have hm := magU_of (l := l)
  rw [hl, h2] at hm
  rw [Wv_sgn, ← hm]
  have hne : l ≠ [] := fun e => by subst e; exact h1 rfl
  rw [decide_eq_true hne, Bool.and_true]

theorem getD_snoc0 {l : List Nat} {x : Nat} (h : l.getD 0 0 ≠ 0) : (l ++ [x]).getD 0 0 ≠ 0 := by
  cases l with
  | nil => exact absurd rfl h
  | cons a l => exact h
theorem top_ne {l : List Nat} {i : Nat} (h : nrm l = l) (hi : l.length = i + 1) : l.getD i 0 ≠ 0 := by
  intro h0
  have e : l = l.take i ++ [0] := by
    conv => lhs; rw [← List.take_append_drop i l, List.drop_eq_getElem_cons (show i < l.length by omega), List.drop_eq_nil_of_le (by omega)]
    rw [List.getD, List.getElem?_eq_getElem (show i < l.length by omega)] at h0
    rw [show l[i]'(by omega) = 0 from h0]
  have h2 := congrArg List.length h
  rw [e, nrm_snoc0] at h2
  have h3 : ∀ r : List Nat, (nrm r).length ≤ r.length := fun r => by
    induction r with
    | nil => exact Nat.le_refl _
    | cons x r ih =>
      rw [nrm]
      cases hn : nrm r with
      | nil => by_cases hx : x = 0 <;> simp [hx]
      | cons y s => rw [hn] at ih; simp at ih ⊢; exact ih
  have h4 := h3 (l.take i)
  simp at h2 h4
  omega

set_option maxHeartbeats 8000000 in
theorem c_wideR (w : World) (v : Value) (n : Nat) (xs : List Nat) (p : Bool) (hv : WN w v n xs) (hx : ∀ x ∈ xs, x < B16) (hn : n ≤ 1000000000) :
    Calls Tryd.prog 61 #[.bool p, v] w (Ret fun r w' => Kp [] w w' ∧ r = Wv (sgn p (val B16 xs))) := by
  obtain ⟨A, cap, rfl⟩ := hv.form
  refine calls_of_S [⟨11, 0, [], [(2, .seq)]⟩] [] (by simp) [] Tryd.func61 rfl mixed (by kernel_rfl) Tryd.ntmps61 Tryd.results61 rfl ⟨by simp, by simp⟩ (by simp) ?_
  simp only [toS, textOps, toSOp, kindAt, kindOf, odAt, sopsAt, ordOf, zipF]
  (repeat' (first | refine JC.seq ?_ | refine JC.ops ?_ | refine JO.nil ?_ | refine JX.thenN ?_ | (apply r_move; (iterate 3 exact rfl)) | (apply r_allocZ; (iterate 3 exact rfl); intro _)))
  rename_i b4
  refine r_call0 trivial rfl rfl rfl (fun w hk hs => c_trim w _ _ _ _ (hv.mono hk) (by omega)) fun w v w' _ _ _ hR => ?_
  obtain ⟨k, hkn, rfl, hnk⟩ := hR
  have hvk := hv.hd hkn
  rw [← hnk] at hvk
  have hlk : (nrm xs).length = k := hvk.len
  have hval0 : val B16 xs = val B16 (nrm xs) := (val_nrm _ _).symm
  have hxl : ∀ x ∈ nrm xs, x < B16 := fun x h => hx x (nrm_mem x h)
  have hnn := nrm_nrm xs
  rw [hval0]
  generalize nrm xs = zs at hvk hlk hxl hnn
  by_cases hk0 : k = 0
  · (repeat' (first | refine JC.seq ?_ | refine JC.ops ?_ | refine JO.nil ?_ | refine JX.thenN ?_ | (apply r_move; (iterate 3 exact rfl)) | (apply r_assign; (iterate 3 exact rfl)) | (apply r_len; (iterate 3 exact rfl)) | (apply r_storeN; exact rfl; (first | exact trivial | exact ⟨rfl, rfl⟩); exact rfl; exact rfl; exact at0; (iterate 3 exact rfl)) | (apply r_eql; (iterate 4 exact rfl); all_goals intro hc; all_goals try (exfalso; omega)) | (apply r_buildL; (iterate 5 exact rfl)) | (apply r_storeN; exact rfl; (first | exact trivial | exact ⟨rfl, rfl⟩); exact rfl; exact rfl; exact at0; (iterate 3 exact rfl)) | refine JX.thenR ?_ | refine JC.ret ?_ | refine JC.condT rfl ?_))
    obtain rfl : zs = [] := List.eq_nil_of_length_eq_zero (by omega)
    exact JX.retC 0 rfl rfl rfl (fun a w' st => ⟨st.kp, by rw [show val B16 [] = 0 from rfl, sgn_zero]; rfl⟩)
  · (repeat' (first | refine JC.seq ?_ | refine JC.ops ?_ | refine JO.nil ?_ | refine JX.thenN ?_ | (apply r_move; (iterate 3 exact rfl)) | (apply r_assign; (iterate 3 exact rfl)) | (apply r_len; (iterate 3 exact rfl)) | (apply r_sub1; (iterate 4 exact rfl); omega) | (apply r_eql; (iterate 4 exact rfl); all_goals intro hc; all_goals try (exfalso; omega)) | refine JC.skip ?_ | refine JC.condF rfl ?_ | refine JC.block ?_))
    have e0 : Value.int .i64 ((k - 1 : Nat) : Int) = iv ((k : Int) - 1) := by
      show iv _ = iv _
      congr 1
      omega
    rw [e0]
    refine JC.loopH (ι := Nat × Value × SHeap × List Nat) ⟨fun z => [(6, iv ((z.1 : Int) - 1)), (5, z.2.1), (4, .pointer (some ⟨b4, 0, none⟩)), (1, .slice A k cap), (0, .bool p)], fun z => (b4, .cells #[.bool false, .string ⟨#[]⟩] 56) :: (z.2.2.1 ++ []),
      fun z => z.1 ≤ k ∧ OwnY z.2.2.1 z.2.1 z.2.2.2.length z.2.2.2 ∧ (∀ x ∈ z.2.2.2, x < 256) ∧ z.2.2.2.length ≤ 2 * (k - z.1) ∧ bval z.2.2.2 = val B16 (zs.drop z.1) ∧ (z.1 < k → z.2.2.2.getD 0 0 ≠ 0) ∧ (z.1 = k → z.2.2.2 = []), fun z => z.1⟩
      (k, _, [], []) ⟨Nat.le_refl _, OwnY.nil, fun _ h => absurd h List.not_mem_nil, by simp, by dsimp only; rw [val_drop_nil (by omega)]; rfl, fun h => absurd h (Nat.lt_irrefl _), fun _ => rfl⟩ (by repeat first | exact trivial | refine ⟨rfl, ?_⟩) (by (repeat' first | exact HSub.refl _ | exact HSub.nil _ | refine HSub.at 0 rfl ?_ | refine HSub.at 1 rfl ?_ | refine HSub.at 2 rfl ?_ | refine HSub.at 3 rfl ?_ | refine HSub.at 4 rfl ?_ | refine HSub.at 5 rfl ?_ | refine HSub.at 6 rfl ?_ | refine HSub.at 7 rfl ?_ | refine HSub.at 8 rfl ?_ | refine HSub.at 9 rfl ?_ | refine HSub.at 10 rfl ?_ | refine HSub.at 11 rfl ?_ | refine HSub.at 12 rfl ?_ | refine HSub.at 13 rfl ?_ | refine HSub.at 14 rfl ?_ | refine HSub.at 15 rfl ?_ | refine HSub.at 16 rfl ?_ | refine HSub.at 17 rfl ?_ | refine HSub.at 18 rfl ?_ | refine HSub.at 19 rfl ?_ | refine HSub.segH ?_ | refine HSub.skip ?_ | refine HSub.skipN ?_)) (fun z hz => ?_)
    obtain ⟨m, vb, Nb, bs⟩ := z
    obtain ⟨hm, hO, hbs, hbl, hval, hhd, hnil⟩ := hz
    dsimp only at hm hO hbs hbl hval hhd hnil ⊢
    rcases m with _ | i
    · (repeat' (first | refine JC.seq ?_ | refine JC.ops ?_ | refine JO.nil ?_ | refine JX.thenN ?_ | (apply r_move; (iterate 3 exact rfl)) | (apply r_geq; (iterate 4 exact rfl); all_goals intro hc; all_goals try (exfalso; omega)) | refine JX.thenE ?_ | refine JC.exit ?_ | refine JC.condF rfl ?_ | refine JX.blockE ?_))
      refine r_toStr hbs hO.rd (by (repeat' first | exact HSub.nil _ | exact HSub.hd | exact HSub.in0 | exact HSub.refl _ | refine HSub.skip ?_ | refine HSub.skipN ?_)) trivial rfl rfl rfl (fun l hl => ?_)
      (repeat' (first | refine JO.nil ?_ | refine JX.thenN ?_ | (apply r_storeN; exact rfl; (first | exact trivial | exact ⟨rfl, rfl⟩); exact rfl; exact rfl; exact at0; (iterate 3 exact rfl)) | (apply r_buildL; (iterate 5 exact rfl)) | (apply r_storeN; exact rfl; (first | exact trivial | exact ⟨rfl, rfl⟩); exact rfl; exact rfl; exact at0; (iterate 3 exact rfl)) | refine JC.ret ?_))
      rw [List.drop_zero] at hval
      have hfin := lead (p := p) (l := l) (V := val B16 zs) (by rw [hl]; exact hhd (by omega)) (by rw [hl]; exact hval)
      exact JX.retC 0 rfl rfl rfl (fun a w' st => ⟨st.kp, hfin⟩)
    · have hiv : iv (((i + 1 : Nat) : Int) - 1) = nv i := by
        show iv _ = iv _
        congr 1
        omega
      rw [hiv]
      have hxi : zs.getD i 0 < 65536 := mem_getD_lt (b := B16) (by decide) hxl i
      have hxv : val B16 (zs.drop i) = zs.getD i 0 + 65536 * val B16 (zs.drop (i + 1)) := val_drop (show i < zs.length by omega)
      by_cases h1 : i < k - 1
      · (repeat' (first | refine JC.seq ?_ | refine JC.ops ?_ | refine JO.nil ?_ | refine JX.thenN ?_ | (apply r_move; (iterate 3 exact rfl)) | (apply r_idxN; (iterate 4 exact rfl); (first | assumption | exact WN.rd (by assumption) rfl [] | exact OwnN.rd (by assumption)); (first | assumption | omega)) | (apply r_ldN; (iterate 4 exact rfl); (first | assumption | exact WN.rd (by assumption) rfl [] | exact OwnN.rd (by assumption)); (repeat' first | exact HSub.nil _ | exact HSub.hd | exact HSub.in0 | exact HSub.refl _ | refine HSub.skip ?_ | refine HSub.skipN ?_); (first | assumption | omega)) | (apply r_len; (iterate 3 exact rfl)) | (apply r_divN (j := 256); (iterate 4 exact rfl); omega) | (apply r_sub1; (iterate 4 exact rfl); omega) | (apply r_pickT; (iterate 4 exact rfl)) | (apply r_toU8; (iterate 3 exact rfl)) | (apply r_lss; (iterate 4 exact rfl); all_goals intro hc; all_goals try (exfalso; omega)) | (apply r_geq; (iterate 4 exact rfl); all_goals intro hc; all_goals try (exfalso; omega)) | (apply r_build1; (iterate 5 exact rfl); (repeat first | exact trivial | refine ⟨rfl, ?_⟩); decide; decide; intro _) | refine JC.skip ?_ | refine JC.condT rfl ?_ | refine JC.block ?_ | (apply r_skip; exact rfl; exact rfl; (first | (intro h; cases h; done) | (intro _; rfl)))))
        rename_i c2
        refine r_appendY (A := [_, _]) hO (own_litY c2 1 [zs.getD i 0 / 256 % 256] _ rfl rfl (by decide)).rd (by (repeat' first | exact HSub.nil _ | exact HSub.hd | exact HSub.in0 | exact HSub.refl _ | refine HSub.skip ?_ | refine HSub.skipN ?_)) rfl trivial rfl rfl rfl rfl (by omega) (fun v1 N1 hO1 => ?_)
        (repeat' (first | refine JC.ops ?_ | refine JO.nil ?_ | refine JX.thenN ?_ | (apply r_move; (iterate 3 exact rfl)) | (apply r_assign; (iterate 3 exact rfl)) | (apply r_idxN; (iterate 4 exact rfl); (first | assumption | exact WN.rd (by assumption) rfl [] | exact OwnN.rd (by assumption)); (first | assumption | omega)) | (apply r_ldN; (iterate 4 exact rfl); (first | assumption | exact WN.rd (by assumption) rfl [] | exact OwnN.rd (by assumption)); (repeat' first | exact HSub.nil _ | exact HSub.hd | exact HSub.in0 | exact HSub.refl _ | refine HSub.skip ?_ | refine HSub.skipN ?_); (first | assumption | omega)) | (apply r_modN (j := 256); (iterate 4 exact rfl); omega) | (apply r_toU8; (iterate 3 exact rfl)) | (apply r_build1; (iterate 5 exact rfl); (repeat first | exact trivial | refine ⟨rfl, ?_⟩); decide; decide; intro _)))
        rename_i c3
        refine r_appendY (A := [_, _, _]) hO1 (own_litY c3 1 [zs.getD i 0 % 256 % 256] _ rfl rfl (by decide)).rd (by (repeat' first | exact HSub.nil _ | exact HSub.hd | exact HSub.in0 | exact HSub.refl _ | refine HSub.skip ?_ | refine HSub.skipN ?_)) rfl trivial rfl rfl rfl rfl (by omega) (fun v2 N2 hO2 => ?_)
        (repeat' (first | refine JC.ops ?_ | refine JO.nil ?_ | refine JX.thenN ?_ | (apply r_move; (iterate 3 exact rfl)) | (apply r_assign; (iterate 3 exact rfl)) | (apply r_sub; (iterate 4 exact rfl); omega) | refine JX.blockN ?_))
        refine JX.roundH (i, v2, N2, (bs ++ [zs.getD i 0 / 256 % 256]) ++ [zs.getD i 0 % 256 % 256]) ⟨by dsimp only; omega, by simp only [List.length_append, List.length_singleton]; exact hO2, snoc_lt (snoc_lt hbs (Nat.mod_lt _ (by decide))) (Nat.mod_lt _ (by decide)), by simp only [List.length_append, List.length_singleton]; omega, ?_, fun _ => ?_, fun h => ?_⟩ (by dsimp only; omega) (by repeat first | exact trivial | refine ⟨rfl, ?_⟩) (by (repeat' first | exact HSub.refl _ | exact HSub.nil _ | refine HSub.at 0 rfl ?_ | refine HSub.at 1 rfl ?_ | refine HSub.at 2 rfl ?_ | refine HSub.at 3 rfl ?_ | refine HSub.at 4 rfl ?_ | refine HSub.at 5 rfl ?_ | refine HSub.at 6 rfl ?_ | refine HSub.at 7 rfl ?_ | refine HSub.at 8 rfl ?_ | refine HSub.at 9 rfl ?_ | refine HSub.at 10 rfl ?_ | refine HSub.at 11 rfl ?_ | refine HSub.at 12 rfl ?_ | refine HSub.at 13 rfl ?_ | refine HSub.at 14 rfl ?_ | refine HSub.at 15 rfl ?_ | refine HSub.at 16 rfl ?_ | refine HSub.at 17 rfl ?_ | refine HSub.at 18 rfl ?_ | refine HSub.at 19 rfl ?_ | refine HSub.segH ?_ | refine HSub.skip ?_ | refine HSub.skipN ?_))
        · dsimp only
          rw [bval_snoc, bval_snoc, hval, hxv]
          omega
        · exact getD_snoc0 (getD_snoc0 (hhd (by omega)))
        · dsimp only at h; omega
      · have htop := top_ne hnn (i := i) (by omega)
        obtain rfl := hnil (by omega)
        by_cases h2 : 256 ≤ zs.getD i 0
        · (repeat' (first | refine JC.seq ?_ | refine JC.ops ?_ | refine JO.nil ?_ | refine JX.thenN ?_ | (apply r_move; (iterate 3 exact rfl)) | (apply r_idxN; (iterate 4 exact rfl); (first | assumption | exact WN.rd (by assumption) rfl [] | exact OwnN.rd (by assumption)); (first | assumption | omega)) | (apply r_ldN; (iterate 4 exact rfl); (first | assumption | exact WN.rd (by assumption) rfl [] | exact OwnN.rd (by assumption)); (repeat' first | exact HSub.nil _ | exact HSub.hd | exact HSub.in0 | exact HSub.refl _ | refine HSub.skip ?_ | refine HSub.skipN ?_); (first | assumption | omega)) | (apply r_len; (iterate 3 exact rfl)) | (apply r_divN (j := 256); (iterate 4 exact rfl); omega) | (apply r_sub1; (iterate 4 exact rfl); omega) | (apply r_pickF; (iterate 4 exact rfl)) | (apply r_toU8; (iterate 3 exact rfl)) | (apply r_lss; (iterate 4 exact rfl); all_goals intro hc; all_goals try (exfalso; omega)) | (apply r_geq; (iterate 4 exact rfl); all_goals intro hc; all_goals try (exfalso; omega)) | (apply r_build1; (iterate 5 exact rfl); (repeat first | exact trivial | refine ⟨rfl, ?_⟩); decide; decide; intro _) | refine JC.skip ?_ | refine JC.condT rfl ?_ | refine JC.block ?_))
          rename_i c2
          refine r_appendY (A := [_, _]) hO (own_litY c2 1 [zs.getD i 0 / 256 % 256] _ rfl rfl (by decide)).rd (by (repeat' first | exact HSub.nil _ | exact HSub.hd | exact HSub.in0 | exact HSub.refl _ | refine HSub.skip ?_ | refine HSub.skipN ?_)) rfl trivial rfl rfl rfl rfl (by omega) (fun v1 N1 hO1 => ?_)
          (repeat' (first | refine JC.ops ?_ | refine JO.nil ?_ | refine JX.thenN ?_ | (apply r_move; (iterate 3 exact rfl)) | (apply r_assign; (iterate 3 exact rfl)) | (apply r_idxN; (iterate 4 exact rfl); (first | assumption | exact WN.rd (by assumption) rfl [] | exact OwnN.rd (by assumption)); (first | assumption | omega)) | (apply r_ldN; (iterate 4 exact rfl); (first | assumption | exact WN.rd (by assumption) rfl [] | exact OwnN.rd (by assumption)); (repeat' first | exact HSub.nil _ | exact HSub.hd | exact HSub.in0 | exact HSub.refl _ | refine HSub.skip ?_ | refine HSub.skipN ?_); (first | assumption | omega)) | (apply r_modN (j := 256); (iterate 4 exact rfl); omega) | (apply r_toU8; (iterate 3 exact rfl)) | (apply r_build1; (iterate 5 exact rfl); (repeat first | exact trivial | refine ⟨rfl, ?_⟩); decide; decide; intro _)))
          rename_i c3
          refine r_appendY (A := [_, _, _]) hO1 (own_litY c3 1 [zs.getD i 0 % 256 % 256] _ rfl rfl (by decide)).rd (by (repeat' first | exact HSub.nil _ | exact HSub.hd | exact HSub.in0 | exact HSub.refl _ | refine HSub.skip ?_ | refine HSub.skipN ?_)) rfl trivial rfl rfl rfl rfl (by omega) (fun v2 N2 hO2 => ?_)
          (repeat' (first | refine JC.ops ?_ | refine JO.nil ?_ | refine JX.thenN ?_ | (apply r_move; (iterate 3 exact rfl)) | (apply r_assign; (iterate 3 exact rfl)) | (apply r_sub; (iterate 4 exact rfl); omega) | refine JX.blockN ?_))
          refine JX.roundH (i, v2, N2, ([] ++ [zs.getD i 0 / 256 % 256]) ++ [zs.getD i 0 % 256 % 256]) ⟨by dsimp only; omega, by simp only [List.length_append, List.length_singleton]; exact hO2, snoc_lt (snoc_lt hbs (Nat.mod_lt _ (by decide))) (Nat.mod_lt _ (by decide)), by simp only [List.length_append, List.length_singleton]; omega, ?_, fun _ => ?_, fun h => ?_⟩ (by dsimp only; omega) (by repeat first | exact trivial | refine ⟨rfl, ?_⟩) (by (repeat' first | exact HSub.refl _ | exact HSub.nil _ | refine HSub.at 0 rfl ?_ | refine HSub.at 1 rfl ?_ | refine HSub.at 2 rfl ?_ | refine HSub.at 3 rfl ?_ | refine HSub.at 4 rfl ?_ | refine HSub.at 5 rfl ?_ | refine HSub.at 6 rfl ?_ | refine HSub.at 7 rfl ?_ | refine HSub.at 8 rfl ?_ | refine HSub.at 9 rfl ?_ | refine HSub.at 10 rfl ?_ | refine HSub.at 11 rfl ?_ | refine HSub.at 12 rfl ?_ | refine HSub.at 13 rfl ?_ | refine HSub.at 14 rfl ?_ | refine HSub.at 15 rfl ?_ | refine HSub.at 16 rfl ?_ | refine HSub.at 17 rfl ?_ | refine HSub.at 18 rfl ?_ | refine HSub.at 19 rfl ?_ | refine HSub.segH ?_ | refine HSub.skip ?_ | refine HSub.skipN ?_))
          · dsimp only
            rw [bval_snoc, bval_snoc, hval, hxv]
            omega
          · show zs.getD i 0 / 256 % 256 ≠ 0; omega
          · dsimp only at h; omega
        · (repeat' (first | refine JC.seq ?_ | refine JC.ops ?_ | refine JO.nil ?_ | refine JX.thenN ?_ | (apply r_move; (iterate 3 exact rfl)) | (apply r_idxN; (iterate 4 exact rfl); (first | assumption | exact WN.rd (by assumption) rfl [] | exact OwnN.rd (by assumption)); (first | assumption | omega)) | (apply r_ldN; (iterate 4 exact rfl); (first | assumption | exact WN.rd (by assumption) rfl [] | exact OwnN.rd (by assumption)); (repeat' first | exact HSub.nil _ | exact HSub.hd | exact HSub.in0 | exact HSub.refl _ | refine HSub.skip ?_ | refine HSub.skipN ?_); (first | assumption | omega)) | (apply r_len; (iterate 3 exact rfl)) | (apply r_modN (j := 256); (iterate 4 exact rfl); omega) | (apply r_sub1; (iterate 4 exact rfl); omega) | (apply r_pickF; (iterate 4 exact rfl)) | (apply r_toU8; (iterate 3 exact rfl)) | (apply r_lss; (iterate 4 exact rfl); all_goals intro hc; all_goals try (exfalso; omega)) | (apply r_geq; (iterate 4 exact rfl); all_goals intro hc; all_goals try (exfalso; omega)) | (apply r_build1; (iterate 5 exact rfl); (repeat first | exact trivial | refine ⟨rfl, ?_⟩); decide; decide; intro _) | refine JC.skip ?_ | refine JC.condT rfl ?_ | refine JC.condF rfl ?_ | refine JC.block ?_))
          rename_i c3
          refine r_appendY (A := [_, _]) hO (own_litY c3 1 [zs.getD i 0 % 256 % 256] _ rfl rfl (by decide)).rd (by (repeat' first | exact HSub.nil _ | exact HSub.hd | exact HSub.in0 | exact HSub.refl _ | refine HSub.skip ?_ | refine HSub.skipN ?_)) rfl trivial rfl rfl rfl rfl (by omega) (fun v2 N2 hO2 => ?_)
          (repeat' (first | refine JC.ops ?_ | refine JO.nil ?_ | refine JX.thenN ?_ | (apply r_move; (iterate 3 exact rfl)) | (apply r_assign; (iterate 3 exact rfl)) | (apply r_sub; (iterate 4 exact rfl); omega) | refine JX.blockN ?_))
          refine JX.roundH (i, v2, N2, [] ++ [zs.getD i 0 % 256 % 256]) ⟨by dsimp only; omega, by simp only [List.length_append, List.length_singleton]; exact hO2, snoc_lt hbs (Nat.mod_lt _ (by decide)), by simp only [List.length_append, List.length_singleton]; omega, ?_, fun _ => ?_, fun h => ?_⟩ (by dsimp only; omega) (by repeat first | exact trivial | refine ⟨rfl, ?_⟩) (by (repeat' first | exact HSub.refl _ | exact HSub.nil _ | refine HSub.at 0 rfl ?_ | refine HSub.at 1 rfl ?_ | refine HSub.at 2 rfl ?_ | refine HSub.at 3 rfl ?_ | refine HSub.at 4 rfl ?_ | refine HSub.at 5 rfl ?_ | refine HSub.at 6 rfl ?_ | refine HSub.at 7 rfl ?_ | refine HSub.at 8 rfl ?_ | refine HSub.at 9 rfl ?_ | refine HSub.at 10 rfl ?_ | refine HSub.at 11 rfl ?_ | refine HSub.at 12 rfl ?_ | refine HSub.at 13 rfl ?_ | refine HSub.at 14 rfl ?_ | refine HSub.at 15 rfl ?_ | refine HSub.at 16 rfl ?_ | refine HSub.at 17 rfl ?_ | refine HSub.at 18 rfl ?_ | refine HSub.at 19 rfl ?_ | refine HSub.segH ?_ | refine HSub.skip ?_ | refine HSub.skipN ?_))
          · dsimp only
            rw [bval_nil] at hval
            rw [bval_snoc, bval_nil, hxv]
            omega
          · show zs.getD i 0 % 256 % 256 ≠ 0; omega
          · dsimp only at h; omega


theorem words16_le {zs : List Nat} {l : List UInt8} {k : Nat} (hz : Dig B16 zs) (hv : val B16 zs = bval (bts l)) (hl : l.length ≤ k) : zs.length ≤ k := by
  refine hz.len_le (by decide) ?_
  rw [hv]
  exact Nat.lt_of_lt_of_le (bval_bts_lt hl) (Nat.pow_le_pow_left (by decide) k)

set_option maxHeartbeats 4000000 in
theorem c_AddR (w : World) (v u : Value) (a b : Int) (k : Nat) (hv : IsZ v a k) (hu : IsZ u b k) (hk : k ≤ 100000000) :
    Calls Tryd.prog 39 #[v, u] w (Ret fun r w' => Kp [] w w' ∧ r = Wv (a + b)) := by
  obtain ⟨p, l, rfl, hl1, rfl⟩ := hv
  obtain ⟨q, l', rfl, hl2, rfl⟩ := hu
  refine calls_of_S [⟨4, 2, [], []⟩, ⟨6, 2, [], []⟩, ⟨7, 2, [], []⟩] [] (by simp) [] Tryd.func39 rfl mixed (by kernel_rfl) Tryd.ntmps39 Tryd.results39 rfl ⟨by simp, by simp⟩ (by simp) ?_
  simp only [toS, textOps, toSOp, kindAt, kindOf, odAt, sopsAt, ordOf, zipF]
  (repeat' (first | refine JC.seq ?_ | refine JC.ops ?_ | refine JO.nil ?_ | refine JX.thenN ?_ | (apply r_loadN; (iterate 4 exact rfl); exact at2; exact rfl) | (apply r_allocZ; (iterate 3 exact rfl); intro _) | (apply r_boxA; (iterate 4 exact rfl); intro _)))
  refine r_callA (A := [_, _, _]) rfl trivial rfl rfl rfl (fun w hk hs => c_digits w p l (by omega)) fun w v w' _ _ _ hR => ?_
  obtain ⟨N1, zs1, hN1, hO1, hz1, hval1⟩ := hR
  refine ⟨N1, hN1, ?_⟩
  have hzl1 := words16_le hz1 hval1 hl1
  (repeat' (first | refine JC.seq ?_ | refine JC.ops ?_ | refine JO.nil ?_ | refine JX.thenN ?_ | (apply r_assign; (iterate 3 exact rfl)) | (apply r_loadN; (iterate 4 exact rfl); exact at1; exact rfl)))
  refine r_callA (A := [_, _, _]) rfl trivial rfl rfl rfl (fun w hk hs => c_digits w q l' (by omega)) fun w v w' _ _ _ hR => ?_
  obtain ⟨N2, zs2, hN2, hO2, hz2, hval2⟩ := hR
  refine ⟨N2, hN2, ?_⟩
  have hzl2 := words16_le hz2 hval2 hl2
  by_cases hpq : p = q
  · subst hpq
    (repeat' (first | refine JC.seq ?_ | refine JC.ops ?_ | refine JC.opsD ?_ | refine JO.nil ?_ | refine JX.thenN ?_ | (apply r_move; (iterate 3 exact rfl)) | (apply r_fieldAddr; (iterate 3 exact rfl)) | (apply r_assign; (iterate 3 exact rfl)) | (apply r_load; (iterate 4 exact rfl); (first | exact at1 | exact at2); exact rfl) | (apply r_eqBS; (iterate 4 exact rfl)) | refine JC.condT rfl ?_))
    refine r_callA (A := [_, _, _]) rfl trivial rfl rfl rfl (fun w hk hs => c_plus w _ _ _ _ _ _ (hO1.rd.at hk hs (by (repeat' first | exact HSub.nil _ | exact HSub.hd | exact HSub.in0 | exact HSub.refl _ | refine HSub.skip ?_ | refine HSub.skipN ?_))) (hO2.rd.at hk hs (by (repeat' first | exact HSub.nil _ | exact HSub.hd | exact HSub.in0 | exact HSub.refl _ | refine HSub.skip ?_ | refine HSub.skipN ?_))) hz1.lt hz2.lt (by omega) (by omega)) fun w v w' _ _ _ hR => ?_
    obtain ⟨N3, zs3, hN3, hO3, hz3, hval3, hzl3⟩ := hR
    refine ⟨N3, hN3, ?_⟩
    rw [hval1, hval2] at hval3
    skip
    refine r_call0 trivial rfl rfl rfl (fun w hk hs => c_wideR w _ _ zs3 p (hO3.rd.at hk hs (by (repeat' first | exact HSub.nil _ | exact HSub.hd | exact HSub.in0 | exact HSub.refl _ | refine HSub.skip ?_ | refine HSub.skipN ?_))) hz3 (by omega)) fun w v w' _ _ _ hR => ?_
    subst hR
    (repeat' (first | refine JO.nil ?_ | refine JX.thenN ?_ | (apply r_storeN; exact rfl; (first | exact trivial | exact ⟨rfl, rfl⟩); exact rfl; exact rfl; exact at0; (iterate 3 exact rfl)) | (apply r_storeN; exact rfl; (first | exact trivial | exact ⟨rfl, rfl⟩); exact rfl; exact rfl; exact at0; (iterate 3 exact rfl)) | refine JX.thenR ?_ | refine JC.ret ?_))
    exact JX.retC 0 rfl rfl rfl (fun a w' st => ⟨st.kp, by show Wv (sgn p (val B16 zs3)) = _; rw [hval3, sgn_add]⟩)
  have hpq' : (p == q) = false := by simpa using hpq
  (repeat' (first | refine JC.seq ?_ | refine JC.ops ?_ | refine JO.nil ?_ | refine JX.thenN ?_ | (apply r_fieldAddr; (iterate 3 exact rfl)) | (apply r_assign; (iterate 3 exact rfl)) | (apply r_load; (iterate 4 exact rfl); (first | exact at1 | exact at2); exact rfl) | (apply r_eqB; (iterate 4 exact rfl))))
  rw [hpq']
  (repeat' (first | refine JC.seq ?_ | refine JC.ops ?_ | refine JX.thenN ?_ | (apply r_move; (iterate 3 exact rfl)) | refine JC.skip ?_ | refine JC.condF rfl ?_))
  refine r_call0 trivial rfl rfl rfl (fun w hk hs => c_compare w _ _ _ _ _ _ (hO1.rd.at hk hs (by (repeat' first | exact HSub.nil _ | exact HSub.hd | exact HSub.in0 | exact HSub.refl _ | refine HSub.skip ?_ | refine HSub.skipN ?_))) (hO2.rd.at hk hs (by (repeat' first | exact HSub.nil _ | exact HSub.hd | exact HSub.in0 | exact HSub.refl _ | refine HSub.skip ?_ | refine HSub.skipN ?_))) hz1 hz2 (by omega) (by omega)) fun w v w' _ _ _ hR => ?_
  subst hR
  by_cases hlt : val B16 zs1 < val B16 zs2
  · have hneg := cmpV_neg.2 hlt
    have hlen : zs1.length ≤ zs2.length := by
      refine Decidable.byContradiction fun h => ?_
      have := len_cmp (b := B16) (by decide) hz2 hz1 (by omega)
      omega
    (repeat' (first | refine JC.seq ?_ | refine JC.opsD ?_ | refine JO.nil ?_ | refine JX.thenN ?_ | (apply r_move; (iterate 3 exact rfl)) | (apply r_fieldAddr; (iterate 3 exact rfl)) | (apply r_load; (iterate 4 exact rfl); exact at1; exact rfl) | (apply r_geq; (iterate 4 exact rfl); all_goals intro hc; all_goals try (exfalso; omega)) | refine JC.skip ?_ | refine JC.condF rfl ?_))
    refine r_callA (A := [_, _, _]) rfl trivial rfl rfl rfl (fun w hk hs => c_minus w _ _ _ _ _ _ (hO2.rd.at hk hs (by (repeat' first | exact HSub.nil _ | exact HSub.hd | exact HSub.in0 | exact HSub.refl _ | refine HSub.skip ?_ | refine HSub.skipN ?_))) (hO1.rd.at hk hs (by (repeat' first | exact HSub.nil _ | exact HSub.hd | exact HSub.in0 | exact HSub.refl _ | refine HSub.skip ?_ | refine HSub.skipN ?_))) hz2.lt hz1.lt (by omega) hlen (Nat.le_of_lt hlt)) fun w v w' _ _ _ hR => ?_
    obtain ⟨N3, zs3, hN3, hO3, hz3, hval3⟩ := hR
    refine ⟨N3, hN3, ?_⟩
    have hzl3 : zs3.length ≤ k := hz3.len_le (by decide) (Nat.lt_of_le_of_lt (show val B16 zs3 ≤ val B16 zs2 by omega) (by rw [hval2]; exact Nat.lt_of_lt_of_le (bval_bts_lt hl2) (Nat.pow_le_pow_left (by decide) k)))
    rw [hval1, hval2] at hval3
    rw [hval1, hval2] at hlt
    skip
    refine r_call0 trivial rfl rfl rfl (fun w hk hs => c_wideR w _ _ zs3 q (hO3.rd.at hk hs (by (repeat' first | exact HSub.nil _ | exact HSub.hd | exact HSub.in0 | exact HSub.refl _ | refine HSub.skip ?_ | refine HSub.skipN ?_))) hz3.lt (by omega)) fun w v w' _ _ _ hR => ?_
    subst hR
    (repeat' (first | refine JO.nil ?_ | refine JX.thenN ?_ | (apply r_storeN; exact rfl; (first | exact trivial | exact ⟨rfl, rfl⟩); exact rfl; exact rfl; exact at0; (iterate 3 exact rfl)) | (apply r_storeN; exact rfl; (first | exact trivial | exact ⟨rfl, rfl⟩); exact rfl; exact rfl; exact at0; (iterate 3 exact rfl)) | refine JC.ret ?_))
    exact JX.retC 0 rfl rfl rfl (fun a w' st => ⟨st.kp, by show Wv (sgn q (val B16 zs3)) = _; rw [← sgn_sub1 hpq hlt, hval3]⟩)
  · have hneg : ¬ cmpV (val B16 zs1) (val B16 zs2) < 0 := fun h => hlt (cmpV_neg.1 h)
    have hlen : zs2.length ≤ zs1.length := by
      refine Decidable.byContradiction fun h => hlt ?_
      exact len_cmp (b := B16) (by decide) hz1 hz2 (by omega)
    (repeat' (first | refine JC.seq ?_ | refine JC.opsD ?_ | refine JO.nil ?_ | refine JX.thenN ?_ | (apply r_move; (iterate 3 exact rfl)) | (apply r_fieldAddr; (iterate 3 exact rfl)) | (apply r_load; (iterate 4 exact rfl); exact at2; exact rfl) | (apply r_geq; (iterate 4 exact rfl); all_goals intro hc; all_goals try (exfalso; omega)) | refine JC.condT rfl ?_))
    refine r_callA (A := [_, _, _]) rfl trivial rfl rfl rfl (fun w hk hs => c_minus w _ _ _ _ _ _ (hO1.rd.at hk hs (by (repeat' first | exact HSub.nil _ | exact HSub.hd | exact HSub.in0 | exact HSub.refl _ | refine HSub.skip ?_ | refine HSub.skipN ?_))) (hO2.rd.at hk hs (by (repeat' first | exact HSub.nil _ | exact HSub.hd | exact HSub.in0 | exact HSub.refl _ | refine HSub.skip ?_ | refine HSub.skipN ?_))) hz1.lt hz2.lt (by omega) hlen (by omega)) fun w v w' _ _ _ hR => ?_
    obtain ⟨N3, zs3, hN3, hO3, hz3, hval3⟩ := hR
    refine ⟨N3, hN3, ?_⟩
    have hzl3 : zs3.length ≤ k := hz3.len_le (by decide) (Nat.lt_of_le_of_lt (show val B16 zs3 ≤ val B16 zs1 by omega) (by rw [hval1]; exact Nat.lt_of_lt_of_le (bval_bts_lt hl1) (Nat.pow_le_pow_left (by decide) k)))
    rw [hval1, hval2] at hval3
    rw [hval1, hval2] at hlt
    skip
    refine r_call0 trivial rfl rfl rfl (fun w hk hs => c_wideR w _ _ zs3 p (hO3.rd.at hk hs (by (repeat' first | exact HSub.nil _ | exact HSub.hd | exact HSub.in0 | exact HSub.refl _ | refine HSub.skip ?_ | refine HSub.skipN ?_))) hz3.lt (by omega)) fun w v w' _ _ _ hR => ?_
    subst hR
    (repeat' (first | refine JO.nil ?_ | refine JX.thenN ?_ | (apply r_storeN; exact rfl; (first | exact trivial | exact ⟨rfl, rfl⟩); exact rfl; exact rfl; exact at0; (iterate 3 exact rfl)) | (apply r_storeN; exact rfl; (first | exact trivial | exact ⟨rfl, rfl⟩); exact rfl; exact rfl; exact at0; (iterate 3 exact rfl)) | refine JX.thenR ?_ | refine JC.ret ?_))
    exact JX.retC 0 rfl rfl rfl (fun a w' st => ⟨st.kp, by show Wv (sgn p (val B16 zs3)) = _; rw [← sgn_sub2 hpq hlt, hval3]⟩)

set_option maxHeartbeats 2000000 in
theorem c_MulR (w : World) (v u : Value) (a b : Int) (k : Nat) (hv : IsZ v a k) (hu : IsZ u b k) (hk : k ≤ 100000000) :
    Calls Tryd.prog 40 #[v, u] w (Ret fun r w' => Kp [] w w' ∧ r = Wv (a * b)) := by
  obtain ⟨p, l, rfl, hl1, rfl⟩ := hv
  obtain ⟨q, l', rfl, hl2, rfl⟩ := hu
  refine calls_of_S [⟨1, 1, [0, 1, 2, 3, 4, 5, 7, 6, 8, 9, 10, 11], []⟩] [] (by simp) [] Tryd.func40 rfl mixed (by kernel_rfl) Tryd.ntmps40 Tryd.results40 rfl ⟨by simp, by simp⟩ (by simp) ?_
  simp only [toS, textOps, toSOp, kindAt, kindOf, odAt, sopsAt, ordOf, zipF]
  (repeat' (first | refine JC.seq ?_ | refine JC.ops ?_ | refine JC.opsD ?_ | refine JO.nil ?_ | refine JX.thenN ?_ | (apply r_fieldAddr; (iterate 3 exact rfl)) | (apply r_load; (iterate 4 exact rfl); (first | exact at1 | exact at2); exact rfl) | (apply r_loadN; (iterate 4 exact rfl); (first | exact at1 | exact at2); exact rfl) | (apply r_neB; (iterate 4 exact rfl)) | (apply r_allocZ; (iterate 3 exact rfl); intro _) | (apply r_boxA; (iterate 4 exact rfl); intro _)))
  refine r_callA (A := [_, _, _]) rfl trivial rfl rfl rfl (fun w hk hs => c_digits w p l (by omega)) fun w v w' _ _ _ hR => ?_
  obtain ⟨N1, zs1, hN1, hO1, hz1, hval1⟩ := hR
  refine ⟨N1, hN1, ?_⟩
  have hzl1 := words16_le hz1 hval1 hl1
  skip
  refine r_callA (A := [_, _, _]) rfl trivial rfl rfl rfl (fun w hk hs => c_digits w q l' (by omega)) fun w v w' _ _ _ hR => ?_
  obtain ⟨N2, zs2, hN2, hO2, hz2, hval2⟩ := hR
  refine ⟨N2, hN2, ?_⟩
  have hzl2 := words16_le hz2 hval2 hl2
  skip
  refine r_callA (A := [_, _, _]) rfl trivial rfl rfl rfl (fun w hk hs => c_times w _ _ _ _ _ _ (hO1.rd.at hk hs (by (repeat' first | exact HSub.nil _ | exact HSub.hd | exact HSub.in0 | exact HSub.refl _ | refine HSub.skip ?_ | refine HSub.skipN ?_))) (hO2.rd.at hk hs (by (repeat' first | exact HSub.nil _ | exact HSub.hd | exact HSub.in0 | exact HSub.refl _ | refine HSub.skip ?_ | refine HSub.skipN ?_))) hz1.lt hz2.lt (by omega) (by omega)) fun w v w' _ _ _ hR => ?_
  obtain ⟨N3, zs3, hN3, hO3, hz3, hval3, hzl4⟩ := hR
  refine ⟨N3, hN3, ?_⟩
  rw [hval1, hval2] at hval3
  have hzl3 : zs3.length ≤ k + k := by
    refine hz3.len_le (by decide) ?_
    rw [hval3, Nat.pow_add]
    have h1 := Nat.lt_of_lt_of_le (bval_bts_lt hl1) (Nat.pow_le_pow_left (show 256 ≤ B16 by decide) k)
    have h2 := Nat.lt_of_lt_of_le (bval_bts_lt hl2) (Nat.pow_le_pow_left (show 256 ≤ B16 by decide) k)
    exact Nat.mul_lt_mul_of_lt_of_le h1 (Nat.le_of_lt h2) (Nat.pow_pos (by decide))
  skip
  refine r_call0 trivial rfl rfl rfl (fun w hk hs => c_wideR w _ _ zs3 (p != q) (hO3.rd.at hk hs (by (repeat' first | exact HSub.nil _ | exact HSub.hd | exact HSub.in0 | exact HSub.refl _ | refine HSub.skip ?_ | refine HSub.skipN ?_))) hz3.lt (by omega)) fun w v w' _ _ _ hR => ?_
  subst hR
  (repeat' (first | refine JO.nil ?_ | refine JX.thenN ?_ | (apply r_storeN; exact rfl; (first | exact trivial | exact ⟨rfl, rfl⟩); exact rfl; exact rfl; exact at0; (iterate 3 exact rfl)) | (apply r_storeN; exact rfl; (first | exact trivial | exact ⟨rfl, rfl⟩); exact rfl; exact rfl; exact at0; (iterate 3 exact rfl)) | refine JC.ret ?_))
  exact JX.retC 0 rfl rfl rfl (fun a w' st => ⟨st.kp, by show Wv (sgn (p != q) (val B16 zs3)) = _; rw [hval3, sgn_mul]⟩)


set_option maxHeartbeats 4000000 in
theorem c_negR (w : World) (p : Bool) (l : List UInt8) (hl : l.length ≤ 3000000000) :
    Calls Tryd.prog 58 #[wv p l] w (Ret fun v w' => Kp [] w w' ∧ v = .bool (p && decide (bval (bts l) ≠ 0))) := by
  cases p with
  | false =>
    refine calls_of_S [] [] (by simp) [] Tryd.func58 rfl mixed (by kernel_rfl) Tryd.ntmps58 Tryd.results58 rfl ⟨by simp, by simp⟩ (by simp) ?_
    simp only [toS, textOps, toSOp, kindAt, kindOf, odAt, sopsAt, ordOf, zipF]
    (repeat' (first | refine JC.seq ?_ | refine JC.ops ?_ | refine JO.nil ?_ | refine JX.thenN ?_ | (apply r_move; (iterate 3 exact rfl)) | (apply r_fieldAddr; (iterate 3 exact rfl)) | (apply r_assign; (iterate 3 exact rfl)) | (apply r_load; (iterate 4 exact rfl); exact at0; exact rfl) | (apply r_pickF; (iterate 4 exact rfl)) | (apply r_boxA; (iterate 4 exact rfl); intro _) | refine JC.ret ?_ | (apply r_skip; exact rfl; exact rfl; (first | (intro h; cases h; done) | (intro _; rfl)))))
    exact JX.ret1 rfl (fun a w' st => ⟨st.kp, rfl⟩)
  | true =>
    refine calls_of_S [] [] (by simp) [] Tryd.func58 rfl mixed (by kernel_rfl) Tryd.ntmps58 Tryd.results58 rfl ⟨by simp, by simp⟩ (by simp) ?_
    simp only [toS, textOps, toSOp, kindAt, kindOf, odAt, sopsAt, ordOf, zipF]
    (repeat' (first | refine JC.seq ?_ | refine JC.ops ?_ | refine JO.nil ?_ | refine JX.thenN ?_ | (apply r_move; (iterate 3 exact rfl)) | (apply r_fieldAddr; (iterate 3 exact rfl)) | (apply r_assign; (iterate 3 exact rfl)) | (apply r_load; (iterate 4 exact rfl); exact at0; exact rfl) | (apply r_loadN; (iterate 4 exact rfl); exact at0; exact rfl) | (apply r_boxA; (iterate 4 exact rfl); intro _)))
    refine r_callA (A := [_]) rfl (by first | trivial | exact ⟨rfl, rfl⟩) rfl rfl rfl (fun w hk hs => c_digits w true l hl) fun w v w' _ _ _ hR => ?_
    obtain ⟨N1, zs1, hN1, hO1, hz1, hval1⟩ := hR
    refine ⟨N1, hN1, ?_⟩
    have he := hz1.eq_nil (by decide)
    rw [hval1] at he
    by_cases h0 : zs1.length = 0
    · have h1 := he.1 (List.eq_nil_of_length_eq_zero h0)
      rw [h1]
      (repeat' (first | refine JO.nil ?_ | refine JX.thenN ?_ | (apply r_assign; (iterate 3 exact rfl)) | (apply r_lenN; (iterate 3 exact rfl); (first | assumption | exact WN.rd (by assumption) rfl [] | exact OwnN.rd (by assumption))) | (apply r_pickT; (iterate 4 exact rfl)) | (apply r_gtr; (iterate 4 exact rfl); all_goals intro hc; all_goals try (exfalso; omega)) | refine JC.ret ?_))
      exact JX.ret1 rfl (fun a w' st => ⟨st.kp, rfl⟩)
    · have h1 : bval (bts l) ≠ 0 := fun h => h0 (by rw [he.2 h]; rfl)
      rw [decide_eq_true h1]
      (repeat' (first | refine JO.nil ?_ | refine JX.thenN ?_ | (apply r_assign; (iterate 3 exact rfl)) | (apply r_lenN; (iterate 3 exact rfl); (first | assumption | exact WN.rd (by assumption) rfl [] | exact OwnN.rd (by assumption))) | (apply r_pickT; (iterate 4 exact rfl)) | (apply r_gtr; (iterate 4 exact rfl); all_goals intro hc; all_goals try (exfalso; omega)) | refine JC.ret ?_))
      exact JX.ret1 rfl (fun a w' st => ⟨st.kp, rfl⟩)

theorem val_one16 : val B16 [1] = 1 := rfl
theorem sgn_neg0 (p : Bool) (X : Nat) : ∃ p', (p && decide (X ≠ 0)) = p' ∧ sgn p X = sgn p' X := by
  refine ⟨_, rfl, ?_⟩
  by_cases h : X = 0
  · subst h; rw [sgn_zero, sgn_zero]
  · rw [decide_eq_true h, Bool.and_true]

set_option maxHeartbeats 8000000 in
theorem c_QuoR (w : World) (v u : Value) (a b : Int) (k : Nat) (hv : IsZ v a k) (hu : IsZ u b k) (hk : k ≤ 100000000) :
    Calls Tryd.prog 34 #[v, u] w (Ret fun r w' => Kp [] w w' ∧ r = if b = 0 then .tuple #[Wv 0, Wv 0, .bool false] else .tuple #[Wv (a / b), Wv (a % b), .bool true]) := by
  obtain ⟨p, l, rfl, hl1, rfl⟩ := hv
  obtain ⟨q, l', rfl, hl2, rfl⟩ := hu
  obtain ⟨p', hp', hps⟩ := sgn_neg0 p (bval (bts l))
  rw [hps]
  refine calls_of_S [⟨8, 3, [0, 2, 3, 5, 7, 1, 4, 6, 8, 9, 10, 11], []⟩] [] (by simp) [] Tryd.func34 rfl mixed (by kernel_rfl) Tryd.ntmps34 Tryd.results34 rfl ⟨by simp, by simp⟩ (by simp) ?_
  simp only [toS, textOps, toSOp, kindAt, kindOf, odAt, sopsAt, ordOf, zipF]
  (repeat' (first | refine JC.seq ?_ | refine JC.ops ?_ | refine JO.nil ?_ | refine JX.thenN ?_ | (apply r_assign; (iterate 3 exact rfl)) | (apply r_loadN; (iterate 4 exact rfl); exact at2; exact rfl) | (apply r_allocZ; (iterate 3 exact rfl); intro _) | (apply r_boxA; (iterate 4 exact rfl); intro _)))
  refine r_callA (A := [_, _, _, _]) rfl (by first | trivial | exact ⟨rfl, rfl⟩) rfl rfl rfl (fun w hk hs => c_digits w q l' (by omega)) fun w v w' _ _ _ hR => ?_
  obtain ⟨N2, zs2, hN2, hO2, hz2, hval2⟩ := hR
  refine ⟨N2, hN2, ?_⟩
  have hzl2 := words16_le hz2 hval2 hl2
  have he := hz2.eq_nil (by decide)
  rw [hval2] at he
  by_cases h0 : zs2.length = 0
  · have h1 := he.1 (List.eq_nil_of_length_eq_zero h0)
    rw [h1, if_pos (sgn_zero q)]
    (repeat' (first | refine JC.seq ?_ | refine JC.ops ?_ | refine JO.nil ?_ | refine JX.thenN ?_ | (apply r_move; (iterate 3 exact rfl)) | (apply r_assign; (iterate 3 exact rfl)) | (apply r_lenN; (iterate 3 exact rfl); (first | assumption | exact WN.rd (by assumption) rfl [] | exact OwnN.rd (by assumption))) | (apply r_storeN; exact rfl; (first | exact trivial | exact ⟨rfl, rfl⟩); exact rfl; exact rfl; (first | exact at0 | exact at1); (iterate 3 exact rfl)) | (apply r_eql; (iterate 4 exact rfl); all_goals intro hc; all_goals try (exfalso; omega)) | (apply r_buildL; (iterate 5 exact rfl)) | (apply r_storeN; exact rfl; (first | exact trivial | exact ⟨rfl, rfl⟩); exact rfl; exact rfl; (first | exact at0 | exact at1); (iterate 3 exact rfl)) | refine JX.thenR ?_ | refine JC.ret ?_ | refine JC.condT rfl ?_))
    exact JX.retCCT 1 0 rfl rfl rfl rfl rfl rfl rfl (fun a w' st => ⟨st.kp, rfl⟩)
  have hy0 : bval (bts l') ≠ 0 := fun h => h0 (by rw [he.2 h]; rfl)
  rw [if_neg (fun h => hy0 ((sgn_eq_zero _ _).1 h))]
  (repeat' (first | refine JC.seq ?_ | refine JC.ops ?_ | refine JO.nil ?_ | refine JX.thenN ?_ | (apply r_move; (iterate 3 exact rfl)) | (apply r_assign; (iterate 3 exact rfl)) | (apply r_loadN; (iterate 4 exact rfl); exact at3; exact rfl) | (apply r_lenN; (iterate 3 exact rfl); (first | assumption | exact WN.rd (by assumption) rfl [] | exact OwnN.rd (by assumption))) | (apply r_eql; (iterate 4 exact rfl); all_goals intro hc; all_goals try (exfalso; omega)) | refine JC.skip ?_ | refine JC.condF rfl ?_))
  refine r_callA (A := [_, _, _, _]) rfl (by first | trivial | exact ⟨rfl, rfl⟩) rfl rfl rfl (fun w hk hs => c_digits w p l (by omega)) fun w v w' _ _ _ hR => ?_
  obtain ⟨N1, zs1, hN1, hO1, hz1, hval1⟩ := hR
  refine ⟨N1, hN1, ?_⟩
  have hzl1 := words16_le hz1 hval1 hl1
  have hv1 : val B16 zs1 < 256 ^ k := by rw [hval1]; exact bval_bts_lt hl1
  have hv2 : val B16 zs2 < 256 ^ k := by rw [hval2]; exact bval_bts_lt hl2
  have hpw : 256 ^ k ≤ B16 ^ k := Nat.pow_le_pow_left (by decide) k
  have hpk : 0 < 256 ^ k := Nat.pow_pos (by decide)
  (repeat' (first | (apply r_move; (iterate 3 exact rfl))))
  refine r_callA (A := [_, _, _, _]) rfl trivial rfl rfl rfl (fun w hk hs => c_overR w _ _ _ _ _ _ (hO1.rd.at hk hs (by (repeat' first | exact HSub.nil _ | exact HSub.hd | exact HSub.in0 | exact HSub.refl _ | refine HSub.skip ?_ | refine HSub.skipN ?_))) (hO2.rd.at hk hs (by (repeat' first | exact HSub.nil _ | exact HSub.hd | exact HSub.in0 | exact HSub.refl _ | refine HSub.skip ?_ | refine HSub.skipN ?_))) hz1.lt hz2 (by omega) (by omega) (by omega)) fun w v w' _ _ _ hR => ?_
  obtain ⟨N3, N4, v3, v4, zs3, zs4, rfl, hN34, hO3, hO4, hz3, hz4, hval3, hlt4⟩ := hR
  refine ⟨_, hN34, ?_⟩
  rw [List.append_assoc N3 N4]
  have hzl4 : zs4.length ≤ k := hz4.len_le (by decide) (by omega)
  have hq3 : val B16 zs3 ≤ val B16 zs1 := by
    have h1 : val B16 zs3 ≤ val B16 zs2 * val B16 zs3 := Nat.le_mul_of_pos_left _ (by omega)
    omega
  have hzl3 : zs3.length ≤ k := hz3.len_le (by decide) (by omega)
  have hlaw := quo_law p' q (val B16 zs1) (val B16 zs2) (val B16 zs3) (val B16 zs4) (by omega) (by rw [Nat.mul_comm]; exact hval3) hlt4
  rw [hval1, hval2] at hlaw
  have he4 := hz4.eq_nil (by decide)
  have hlaw1 := hlaw.1
  have hlaw2 := hlaw.2
  clear hlaw
  (repeat' (first | refine JC.seq ?_ | refine JC.ops ?_ | refine JO.nil ?_ | refine JX.thenN ?_ | (apply r_move; (iterate 3 exact rfl)) | (apply r_assign; (iterate 3 exact rfl)) | (apply r_loadN; (iterate 4 exact rfl); exact at3; exact rfl) | (apply r_extract; (iterate 4 exact rfl))))
  refine r_call0 trivial rfl rfl rfl (fun w hk hs => c_negR w p l (by omega)) fun w v w' _ _ _ hR => ?_
  rw [hp'] at hR
  subst hR
  by_cases hp : p' = true ∧ 0 < zs4.length
  · obtain ⟨rfl, hp4⟩ := hp
    have hr0 : 0 < val B16 zs4 := Nat.pos_of_ne_zero fun h => by rw [he4.2 h] at hp4; exact absurd hp4 (by simp)
    obtain ⟨hq1, hq2⟩ := hlaw1 ⟨rfl, hr0⟩
    have hlen := len_of_lt hz4 hz2 (Nat.le_of_lt hlt4)
    (repeat' (first | refine JC.seq ?_ | refine JC.ops ?_ | refine JO.nil ?_ | refine JX.thenN ?_ | (apply r_move; (iterate 3 exact rfl)) | (apply r_lenN; (iterate 3 exact rfl); (first | assumption | exact WN.rd (by assumption) rfl [] | exact OwnN.rd (by assumption))) | (apply r_pickT; (iterate 4 exact rfl)) | (apply r_gtr; (iterate 4 exact rfl); all_goals intro hc; all_goals try (exfalso; omega)) | (apply r_build1; (iterate 5 exact rfl); (repeat first | exact trivial | refine ⟨rfl, ?_⟩); decide; decide; intro _) | refine JC.condT rfl ?_))
    rename_i b9
    have hO9 : OwnN [(b9, .cells ⟨[.int .i64 1]⟩ 3)] (.slice (some ⟨b9, 0, none⟩) 1 1) 1 [1] := own_lit b9 1 [1] _ rfl rfl (by omega)
    refine r_callA (A := [_, _, _, _, _]) rfl trivial rfl rfl rfl (fun w hk hs => c_plus w _ _ _ _ _ _ (hO3.rd.at hk hs (by (repeat' first | exact HSub.nil _ | exact HSub.hd | exact HSub.in0 | exact HSub.refl _ | refine HSub.skip ?_ | refine HSub.skipN ?_))) (hO9.rd.at hk hs (by (repeat' first | exact HSub.nil _ | exact HSub.hd | exact HSub.in0 | exact HSub.refl _ | refine HSub.skip ?_ | refine HSub.skipN ?_))) hz3.lt (fun x hx => by rw [List.mem_singleton] at hx; rw [hx]; decide) (by omega) (by omega)) fun w v w' _ _ _ hR => ?_
    obtain ⟨N5, zs5, hN5, hO5, hz5, hval5, hzl5⟩ := hR
    refine ⟨N5, hN5, ?_⟩
    rw [val_one16] at hval5
    (repeat' (first | refine JC.ops ?_ | refine JO.nil ?_ | refine JX.thenN ?_ | (apply r_move; (iterate 3 exact rfl)) | (apply r_assign; (iterate 3 exact rfl))))
    refine r_callA (A := [_, _, _, _, _]) rfl trivial rfl rfl rfl (fun w hk hs => c_minus w _ _ _ _ _ _ (hO2.rd.at hk hs (by (repeat' first | exact HSub.nil _ | exact HSub.hd | exact HSub.in0 | exact HSub.refl _ | refine HSub.skip ?_ | refine HSub.skipN ?_))) (hO4.rd.at hk hs (by (repeat' first | exact HSub.nil _ | exact HSub.hd | exact HSub.in0 | exact HSub.refl _ | refine HSub.skip ?_ | refine HSub.skipN ?_))) hz2.lt hz4.lt (by omega) hlen (by omega)) fun w v w' _ _ _ hR => ?_
    obtain ⟨N6, zs6, hN6, hO6, hz6, hval6⟩ := hR
    refine ⟨N6, hN6, ?_⟩
    have hzl6 : zs6.length ≤ k := hz6.len_le (by decide) (by omega)
    (repeat' (first | refine JC.seq ?_ | refine JC.opsD ?_ | refine JO.nil ?_ | refine JX.thenN ?_ | (apply r_move; (iterate 3 exact rfl)) | (apply r_fieldAddr; (iterate 3 exact rfl)) | (apply r_assign; (iterate 3 exact rfl)) | (apply r_load; (iterate 4 exact rfl); (first | exact at3 | exact at4); exact rfl) | (apply r_loadN; (iterate 4 exact rfl); (first | exact at3 | exact at4); exact rfl)))
    refine r_call0 (by first | trivial | exact ⟨rfl, rfl⟩) rfl rfl rfl (fun w hk hs => c_negR w p l (by omega)) fun w v w' _ _ _ hR => ?_
    rw [hp'] at hR
    subst hR
    (repeat' (first | (apply r_neB; (iterate 4 exact rfl))))
    refine r_call0 (by first | trivial | exact ⟨rfl, rfl⟩) rfl rfl rfl (fun w hk hs => c_wideR w _ _ zs5 (true != q) (hO5.rd.at hk hs (by (repeat' first | exact HSub.nil _ | exact HSub.hd | exact HSub.in0 | exact HSub.refl _ | refine HSub.skip ?_ | refine HSub.skipN ?_))) hz5 (by omega)) fun w v w' _ _ _ hR => ?_
    subst hR
    skip
    refine r_call0 (by first | trivial | exact ⟨rfl, rfl⟩) rfl rfl rfl (fun w hk hs => c_wideR w _ _ zs6 false (hO6.rd.at hk hs (by (repeat' first | exact HSub.nil _ | exact HSub.hd | exact HSub.in0 | exact HSub.refl _ | refine HSub.skip ?_ | refine HSub.skipN ?_))) hz6.lt (by omega)) fun w v w' _ _ _ hR => ?_
    subst hR
    (repeat' (first | refine JO.nil ?_ | refine JX.thenN ?_ | (apply r_assign; (iterate 3 exact rfl)) | (apply r_storeN; exact rfl; (first | exact trivial | exact ⟨rfl, rfl⟩); exact rfl; exact rfl; (first | exact at1 | exact at2); (iterate 3 exact rfl)) | (apply r_storeN; exact rfl; (first | exact trivial | exact ⟨rfl, rfl⟩); exact rfl; exact rfl; (first | exact at1 | exact at2); (iterate 3 exact rfl)) | refine JC.ret ?_))
    refine JX.retCCT 2 1 rfl rfl rfl rfl rfl rfl rfl (fun a w' st => ⟨st.kp, ?_⟩)
    show Value.tuple #[Wv (sgn (true != q) (val B16 zs5)), Wv (sgn false (val B16 zs6)), _] = _
    rw [hval5, hq1, ← hq2, ← hval2, hval6]
    rfl
  have hq := hlaw2 (fun ⟨h1, h2⟩ => hp ⟨h1, by
    refine Nat.pos_of_ne_zero fun h => ?_
    have := List.eq_nil_of_length_eq_zero h
    rw [this] at h2
    exact absurd h2 (by simp [val])⟩)
  obtain ⟨hq1, hq2⟩ := hq
  have hnp : p' = true → zs4.length = 0 := fun h => by
    refine Decidable.byContradiction fun h' => hp ⟨h, by omega⟩
  cases p' with
  | false =>
    (repeat' (first | refine JC.seq ?_ | refine JC.opsD ?_ | refine JO.nil ?_ | refine JX.thenN ?_ | (apply r_move; (iterate 3 exact rfl)) | (apply r_fieldAddr; (iterate 3 exact rfl)) | (apply r_load; (iterate 4 exact rfl); (first | exact at2 | exact at3); exact rfl) | (apply r_loadN; (iterate 4 exact rfl); (first | exact at2 | exact at3); exact rfl) | (apply r_pickF; (iterate 4 exact rfl)) | refine JC.skip ?_ | refine JC.condF rfl ?_ | (apply r_skip; exact rfl; exact rfl; (first | (intro h; cases h; done) | (intro _; rfl)))))
    refine r_call0 (by first | trivial | exact ⟨rfl, rfl⟩) rfl rfl rfl (fun w hk hs => c_negR w p l (by omega)) fun w v w' _ _ _ hR => ?_
    rw [hp'] at hR
    subst hR
    (repeat' (first | (apply r_neB; (iterate 4 exact rfl))))
    refine r_call0 (by first | trivial | exact ⟨rfl, rfl⟩) rfl rfl rfl (fun w hk hs => c_wideR w _ _ zs3 (false != q) (hO3.rd.at hk hs (by (repeat' first | exact HSub.nil _ | exact HSub.hd | exact HSub.in0 | exact HSub.refl _ | refine HSub.skip ?_ | refine HSub.skipN ?_))) hz3.lt (by omega)) fun w v w' _ _ _ hR => ?_
    subst hR
    skip
    refine r_call0 (by first | trivial | exact ⟨rfl, rfl⟩) rfl rfl rfl (fun w hk hs => c_wideR w _ _ zs4 false (hO4.rd.at hk hs (by (repeat' first | exact HSub.nil _ | exact HSub.hd | exact HSub.in0 | exact HSub.refl _ | refine HSub.skip ?_ | refine HSub.skipN ?_))) hz4.lt (by omega)) fun w v w' _ _ _ hR => ?_
    subst hR
    (repeat' (first | refine JO.nil ?_ | refine JX.thenN ?_ | (apply r_assign; (iterate 3 exact rfl)) | (apply r_storeN; exact rfl; (first | exact trivial | exact ⟨rfl, rfl⟩); exact rfl; exact rfl; (first | exact at0 | exact at1); (iterate 3 exact rfl)) | (apply r_storeN; exact rfl; (first | exact trivial | exact ⟨rfl, rfl⟩); exact rfl; exact rfl; (first | exact at0 | exact at1); (iterate 3 exact rfl)) | refine JC.ret ?_))
    refine JX.retCCT 1 0 rfl rfl rfl rfl rfl rfl rfl (fun a w' st => ⟨st.kp, ?_⟩)
    show Value.tuple #[Wv (sgn (false != q) (val B16 zs3)), Wv (sgn false (val B16 zs4)), _] = _
    rw [hq1, ← hq2]
    rfl
  | true =>
    have hz0 := hnp rfl
    (repeat' (first | refine JC.seq ?_ | refine JC.opsD ?_ | refine JO.nil ?_ | refine JX.thenN ?_ | (apply r_move; (iterate 3 exact rfl)) | (apply r_fieldAddr; (iterate 3 exact rfl)) | (apply r_load; (iterate 4 exact rfl); (first | exact at2 | exact at3); exact rfl) | (apply r_loadN; (iterate 4 exact rfl); (first | exact at2 | exact at3); exact rfl) | (apply r_lenN; (iterate 3 exact rfl); (first | assumption | exact WN.rd (by assumption) rfl [] | exact OwnN.rd (by assumption))) | (apply r_pickT; (iterate 4 exact rfl)) | (apply r_gtr; (iterate 4 exact rfl); all_goals intro hc; all_goals try (exfalso; omega)) | refine JC.skip ?_ | refine JC.condF rfl ?_))
    refine r_call0 (by first | trivial | exact ⟨rfl, rfl⟩) rfl rfl rfl (fun w hk hs => c_negR w p l (by omega)) fun w v w' _ _ _ hR => ?_
    rw [hp'] at hR
    subst hR
    (repeat' (first | (apply r_neB; (iterate 4 exact rfl))))
    refine r_call0 (by first | trivial | exact ⟨rfl, rfl⟩) rfl rfl rfl (fun w hk hs => c_wideR w _ _ zs3 (true != q) (hO3.rd.at hk hs (by (repeat' first | exact HSub.nil _ | exact HSub.hd | exact HSub.in0 | exact HSub.refl _ | refine HSub.skip ?_ | refine HSub.skipN ?_))) hz3.lt (by omega)) fun w v w' _ _ _ hR => ?_
    subst hR
    skip
    refine r_call0 (by first | trivial | exact ⟨rfl, rfl⟩) rfl rfl rfl (fun w hk hs => c_wideR w _ _ zs4 false (hO4.rd.at hk hs (by (repeat' first | exact HSub.nil _ | exact HSub.hd | exact HSub.in0 | exact HSub.refl _ | refine HSub.skip ?_ | refine HSub.skipN ?_))) hz4.lt (by omega)) fun w v w' _ _ _ hR => ?_
    subst hR
    (repeat' (first | refine JO.nil ?_ | refine JX.thenN ?_ | (apply r_assign; (iterate 3 exact rfl)) | (apply r_storeN; exact rfl; (first | exact trivial | exact ⟨rfl, rfl⟩); exact rfl; exact rfl; (first | exact at0 | exact at1); (iterate 3 exact rfl)) | (apply r_storeN; exact rfl; (first | exact trivial | exact ⟨rfl, rfl⟩); exact rfl; exact rfl; (first | exact at0 | exact at1); (iterate 3 exact rfl)) | refine JC.ret ?_))
    refine JX.retCCT 1 0 rfl rfl rfl rfl rfl rfl rfl (fun a w' st => ⟨st.kp, ?_⟩)
    show Value.tuple #[Wv (sgn (true != q) (val B16 zs3)), Wv (sgn false (val B16 zs4)), _] = _
    rw [hq1, ← hq2]
    rfl


theorem from_pow {m j : Nat} (h : m < 65536 ^ (4 - j)) (h0 : 0 < m) (hj : j ≤ 4) : j < 4 ∧ m / 65536 < 65536 ^ (4 - (j + 1)) := by
  have hj4 : j < 4 := by
    refine Decidable.byContradiction fun h1 => ?_
    obtain rfl : j = 4 := by omega
    simp at h
    omega
  refine ⟨hj4, ?_⟩
  rw [show 4 - j = 4 - (j + 1) + 1 by omega, Nat.pow_succ] at h
  exact Nat.div_lt_of_lt_mul (by rw [Nat.mul_comm]; exact h)

set_option maxHeartbeats 4000000 in
theorem c_FromR (w : World) (n : Int) (h1 : -9223372036854775808 ≤ n) (h2 : n < 9223372036854775808) :
    Calls Tryd.prog 35 #[iv n] w (Ret fun r w' => Kp [] w w' ∧ r = Wv n) := by
  have hm : n.natAbs ≤ 9223372036854775808 := by omega
  have hm2 : n.natAbs < 18446744073709551616 := by omega
  by_cases hn : n < 0
  · refine calls_of_S [] [] (by simp) [] Tryd.func35 rfl mixed (by kernel_rfl) Tryd.ntmps35 Tryd.results35 rfl ⟨by simp, by simp⟩ (by simp) ?_
    simp only [toS, textOps, toSOp, kindAt, kindOf, odAt, sopsAt, ordOf, zipF]
    (repeat' (first | refine JC.seq ?_ | refine JC.ops ?_ | refine JO.nil ?_ | refine JX.thenN ?_ | (apply r_move; (iterate 3 exact rfl)) | (apply r_assign; (iterate 3 exact rfl)) | (apply r_allocZ; (iterate 3 exact rfl); intro _)))
    rename_i b2
    refine r_i64U (18446744073709551616 - n.natAbs) rfl rfl rfl (by rw [IntKind.wrap_u64]; omega) ?_
    (repeat' (first | refine JC.seq ?_ | refine JC.ops ?_ | refine JO.nil ?_ | refine JX.thenN ?_ | (apply r_move; (iterate 3 exact rfl)) | (apply r_assign; (iterate 3 exact rfl)) | (apply r_lss; (iterate 4 exact rfl); all_goals intro hc; all_goals try (exfalso; omega)) | refine JC.condT rfl ?_))
    refine r_negU rfl rfl rfl (by omega) ?_
    rw [show (18446744073709551616 - (18446744073709551616 - n.natAbs)) % 18446744073709551616 = n.natAbs by omega]
    (repeat' (first | refine JC.seq ?_ | refine JO.nil ?_ | refine JX.thenN ?_ | (apply r_assign; (iterate 3 exact rfl)) | refine JC.block ?_))
    refine JC.loopH (ι := Nat × Value × SHeap × List Nat) ⟨fun z => [(4, uv z.1), (3, z.2.1), (2, .pointer (some ⟨b2, 0, none⟩)), (0, iv n)], fun z => (b2, .cells #[.bool false, .string ⟨#[]⟩] 56) :: (z.2.2.1 ++ []),
      fun z => z.2.2.2.length ≤ 4 ∧ z.1 < 65536 ^ (4 - z.2.2.2.length) ∧ z.1 < 18446744073709551616 ∧ OwnN z.2.2.1 z.2.1 z.2.2.2.length z.2.2.2 ∧ (∀ x ∈ z.2.2.2, x < B16) ∧ val B16 z.2.2.2 + B16 ^ z.2.2.2.length * z.1 = n.natAbs, fun z => z.1⟩
      (n.natAbs, _, [], []) ⟨Nat.zero_le _, by show n.natAbs < 65536 ^ 4; omega, hm2, OwnN.nil, fun _ h => absurd h List.not_mem_nil, by simp [val]⟩ (by repeat first | exact trivial | refine ⟨rfl, ?_⟩) (by (repeat' first | exact HSub.refl _ | exact HSub.nil _ | refine HSub.at 0 rfl ?_ | refine HSub.at 1 rfl ?_ | refine HSub.at 2 rfl ?_ | refine HSub.at 3 rfl ?_ | refine HSub.at 4 rfl ?_ | refine HSub.at 5 rfl ?_ | refine HSub.at 6 rfl ?_ | refine HSub.at 7 rfl ?_ | refine HSub.at 8 rfl ?_ | refine HSub.at 9 rfl ?_ | refine HSub.at 10 rfl ?_ | refine HSub.at 11 rfl ?_ | refine HSub.at 12 rfl ?_ | refine HSub.at 13 rfl ?_ | refine HSub.at 14 rfl ?_ | refine HSub.at 15 rfl ?_ | refine HSub.at 16 rfl ?_ | refine HSub.at 17 rfl ?_ | refine HSub.at 18 rfl ?_ | refine HSub.at 19 rfl ?_ | refine HSub.segH ?_ | refine HSub.skip ?_ | refine HSub.skipN ?_)) (fun z hz => ?_)
    obtain ⟨m, vo, N, zs⟩ := z
    obtain ⟨hl4, hmp, hm64, hO, hz, hval⟩ := hz
    dsimp only at hl4 hmp hm64 hO hz hval ⊢
    by_cases h0 : 0 < m
    · obtain ⟨hj4, hmp'⟩ := from_pow hmp h0 hl4
      (repeat' (first | refine JC.seq ?_ | refine JC.ops ?_ | refine JO.nil ?_ | refine JX.thenN ?_ | (apply r_move; (iterate 3 exact rfl)) | (apply r_gtr; (iterate 4 exact rfl); all_goals intro hc; all_goals try (exfalso; omega)) | refine JC.skip ?_ | refine JC.condT rfl ?_ | refine JC.block ?_))
      refine r_remU (j := 65536) rfl rfl rfl rfl (by omega) ?_
      refine r_convK (k' := .i64) ((m % 65536 : Nat) : Int) rfl rfl rfl (by rw [IntKind.wrap_i64]; omega) ?_
      (repeat' (first | (apply r_build1; (iterate 5 exact rfl); (repeat first | exact trivial | refine ⟨rfl, ?_⟩); decide; decide; intro _)))
      rename_i c2
      refine r_appendN (A := [_, _]) hO (own_lit c2 1 [m % 65536] _ rfl rfl (by decide)).rd (by (repeat' first | exact HSub.nil _ | exact HSub.hd | exact HSub.in0 | exact HSub.refl _ | refine HSub.skip ?_ | refine HSub.skipN ?_)) rfl trivial rfl rfl rfl rfl (by omega) (fun v' N' hO' => ?_)
      (repeat' (first | refine JC.ops ?_ | refine JO.nil ?_ | refine JX.thenN ?_ | (apply r_move; (iterate 3 exact rfl)) | (apply r_assign; (iterate 3 exact rfl))))
      refine r_quoU (j := 65536) rfl rfl rfl rfl (by omega) ?_
      (repeat' (first | refine JO.nil ?_ | (apply r_assign; (iterate 3 exact rfl)) | refine JX.blockN ?_))
      refine JX.roundH (m / 65536, v', N', zs ++ [m % 65536]) ⟨by simp only [List.length_append, List.length_singleton]; omega, by simp only [List.length_append, List.length_singleton]; exact hmp', by dsimp only; omega, by simp only [List.length_append, List.length_singleton]; exact hO', snoc_lt hz (Nat.mod_lt _ (by decide)), ?_⟩ (by dsimp only; omega) (by repeat first | exact trivial | refine ⟨rfl, ?_⟩) (by (repeat' first | exact HSub.refl _ | exact HSub.nil _ | refine HSub.at 0 rfl ?_ | refine HSub.at 1 rfl ?_ | refine HSub.at 2 rfl ?_ | refine HSub.at 3 rfl ?_ | refine HSub.at 4 rfl ?_ | refine HSub.at 5 rfl ?_ | refine HSub.at 6 rfl ?_ | refine HSub.at 7 rfl ?_ | refine HSub.at 8 rfl ?_ | refine HSub.at 9 rfl ?_ | refine HSub.at 10 rfl ?_ | refine HSub.at 11 rfl ?_ | refine HSub.at 12 rfl ?_ | refine HSub.at 13 rfl ?_ | refine HSub.at 14 rfl ?_ | refine HSub.at 15 rfl ?_ | refine HSub.at 16 rfl ?_ | refine HSub.at 17 rfl ?_ | refine HSub.at 18 rfl ?_ | refine HSub.at 19 rfl ?_ | refine HSub.segH ?_ | refine HSub.skip ?_ | refine HSub.skipN ?_))
      dsimp only
      rw [val_snoc, List.length_append, List.length_singleton, Nat.pow_succ, ← hval, Nat.add_assoc, Nat.mul_assoc, ← Nat.mul_add, Nat.mod_add_div]
    · (repeat' (first | refine JC.seq ?_ | refine JC.ops ?_ | refine JO.nil ?_ | refine JX.thenN ?_ | (apply r_move; (iterate 3 exact rfl)) | (apply r_lss; (iterate 4 exact rfl); all_goals intro hc; all_goals try (exfalso; omega)) | (apply r_gtr; (iterate 4 exact rfl); all_goals intro hc; all_goals try (exfalso; omega)) | refine JX.thenE ?_ | refine JC.exit ?_ | refine JC.condF rfl ?_ | refine JX.blockE ?_))
      refine r_call0 trivial rfl rfl rfl (fun w hk hs => c_wideR w _ _ zs true (hO.rd.at hk hs (by (repeat' first | exact HSub.nil _ | exact HSub.hd | exact HSub.in0 | exact HSub.refl _ | refine HSub.skip ?_ | refine HSub.skipN ?_))) hz (by omega)) fun w v w' _ _ _ hR => ?_
      subst hR
      (repeat' (first | refine JO.nil ?_ | refine JX.thenN ?_ | (apply r_storeN; exact rfl; (first | exact trivial | exact ⟨rfl, rfl⟩); exact rfl; exact rfl; exact at0; (iterate 3 exact rfl)) | (apply r_storeN; exact rfl; (first | exact trivial | exact ⟨rfl, rfl⟩); exact rfl; exact rfl; exact at0; (iterate 3 exact rfl)) | refine JC.ret ?_))
      obtain rfl : m = 0 := by omega
      rw [Nat.mul_zero, Nat.add_zero] at hval
      exact JX.retC 0 rfl rfl rfl (fun a w' st => ⟨st.kp, by show Wv (sgn true (val B16 zs)) = _; rw [hval]; congr 1; simp only [sgn, if_true, Bool.false_eq_true, if_false]; omega⟩)
  · refine calls_of_S [] [] (by simp) [] Tryd.func35 rfl mixed (by kernel_rfl) Tryd.ntmps35 Tryd.results35 rfl ⟨by simp, by simp⟩ (by simp) ?_
    simp only [toS, textOps, toSOp, kindAt, kindOf, odAt, sopsAt, ordOf, zipF]
    (repeat' (first | refine JC.seq ?_ | refine JC.ops ?_ | refine JO.nil ?_ | refine JX.thenN ?_ | (apply r_move; (iterate 3 exact rfl)) | (apply r_assign; (iterate 3 exact rfl)) | (apply r_allocZ; (iterate 3 exact rfl); intro _)))
    rename_i b2
    refine r_i64U n.natAbs rfl rfl rfl (by rw [IntKind.wrap_u64]; omega) ?_
    (repeat' (first | refine JC.seq ?_ | refine JC.ops ?_ | refine JO.nil ?_ | refine JX.thenN ?_ | (apply r_move; (iterate 3 exact rfl)) | (apply r_assign; (iterate 3 exact rfl)) | (apply r_lss; (iterate 4 exact rfl); all_goals intro hc; all_goals try (exfalso; omega)) | refine JC.skip ?_ | refine JC.condF rfl ?_ | refine JC.block ?_))
    refine JC.loopH (ι := Nat × Value × SHeap × List Nat) ⟨fun z => [(4, uv z.1), (3, z.2.1), (2, .pointer (some ⟨b2, 0, none⟩)), (0, iv n)], fun z => (b2, .cells #[.bool false, .string ⟨#[]⟩] 56) :: (z.2.2.1 ++ []),
      fun z => z.2.2.2.length ≤ 4 ∧ z.1 < 65536 ^ (4 - z.2.2.2.length) ∧ z.1 < 18446744073709551616 ∧ OwnN z.2.2.1 z.2.1 z.2.2.2.length z.2.2.2 ∧ (∀ x ∈ z.2.2.2, x < B16) ∧ val B16 z.2.2.2 + B16 ^ z.2.2.2.length * z.1 = n.natAbs, fun z => z.1⟩
      (n.natAbs, _, [], []) ⟨Nat.zero_le _, by show n.natAbs < 65536 ^ 4; omega, hm2, OwnN.nil, fun _ h => absurd h List.not_mem_nil, by simp [val]⟩ (by repeat first | exact trivial | refine ⟨rfl, ?_⟩) (by (repeat' first | exact HSub.refl _ | exact HSub.nil _ | refine HSub.at 0 rfl ?_ | refine HSub.at 1 rfl ?_ | refine HSub.at 2 rfl ?_ | refine HSub.at 3 rfl ?_ | refine HSub.at 4 rfl ?_ | refine HSub.at 5 rfl ?_ | refine HSub.at 6 rfl ?_ | refine HSub.at 7 rfl ?_ | refine HSub.at 8 rfl ?_ | refine HSub.at 9 rfl ?_ | refine HSub.at 10 rfl ?_ | refine HSub.at 11 rfl ?_ | refine HSub.at 12 rfl ?_ | refine HSub.at 13 rfl ?_ | refine HSub.at 14 rfl ?_ | refine HSub.at 15 rfl ?_ | refine HSub.at 16 rfl ?_ | refine HSub.at 17 rfl ?_ | refine HSub.at 18 rfl ?_ | refine HSub.at 19 rfl ?_ | refine HSub.segH ?_ | refine HSub.skip ?_ | refine HSub.skipN ?_)) (fun z hz => ?_)
    obtain ⟨m, vo, N, zs⟩ := z
    obtain ⟨hl4, hmp, hm64, hO, hz, hval⟩ := hz
    dsimp only at hl4 hmp hm64 hO hz hval ⊢
    by_cases h0 : 0 < m
    · obtain ⟨hj4, hmp'⟩ := from_pow hmp h0 hl4
      (repeat' (first | refine JC.seq ?_ | refine JC.ops ?_ | refine JO.nil ?_ | refine JX.thenN ?_ | (apply r_move; (iterate 3 exact rfl)) | (apply r_gtr; (iterate 4 exact rfl); all_goals intro hc; all_goals try (exfalso; omega)) | refine JC.skip ?_ | refine JC.condT rfl ?_ | refine JC.block ?_))
      refine r_remU (j := 65536) rfl rfl rfl rfl (by omega) ?_
      refine r_convK (k' := .i64) ((m % 65536 : Nat) : Int) rfl rfl rfl (by rw [IntKind.wrap_i64]; omega) ?_
      (repeat' (first | (apply r_build1; (iterate 5 exact rfl); (repeat first | exact trivial | refine ⟨rfl, ?_⟩); decide; decide; intro _)))
      rename_i c2
      refine r_appendN (A := [_, _]) hO (own_lit c2 1 [m % 65536] _ rfl rfl (by decide)).rd (by (repeat' first | exact HSub.nil _ | exact HSub.hd | exact HSub.in0 | exact HSub.refl _ | refine HSub.skip ?_ | refine HSub.skipN ?_)) rfl trivial rfl rfl rfl rfl (by omega) (fun v' N' hO' => ?_)
      (repeat' (first | refine JC.ops ?_ | refine JO.nil ?_ | refine JX.thenN ?_ | (apply r_move; (iterate 3 exact rfl)) | (apply r_assign; (iterate 3 exact rfl))))
      refine r_quoU (j := 65536) rfl rfl rfl rfl (by omega) ?_
      (repeat' (first | refine JO.nil ?_ | (apply r_assign; (iterate 3 exact rfl)) | refine JX.blockN ?_))
      refine JX.roundH (m / 65536, v', N', zs ++ [m % 65536]) ⟨by simp only [List.length_append, List.length_singleton]; omega, by simp only [List.length_append, List.length_singleton]; exact hmp', by dsimp only; omega, by simp only [List.length_append, List.length_singleton]; exact hO', snoc_lt hz (Nat.mod_lt _ (by decide)), ?_⟩ (by dsimp only; omega) (by repeat first | exact trivial | refine ⟨rfl, ?_⟩) (by (repeat' first | exact HSub.refl _ | exact HSub.nil _ | refine HSub.at 0 rfl ?_ | refine HSub.at 1 rfl ?_ | refine HSub.at 2 rfl ?_ | refine HSub.at 3 rfl ?_ | refine HSub.at 4 rfl ?_ | refine HSub.at 5 rfl ?_ | refine HSub.at 6 rfl ?_ | refine HSub.at 7 rfl ?_ | refine HSub.at 8 rfl ?_ | refine HSub.at 9 rfl ?_ | refine HSub.at 10 rfl ?_ | refine HSub.at 11 rfl ?_ | refine HSub.at 12 rfl ?_ | refine HSub.at 13 rfl ?_ | refine HSub.at 14 rfl ?_ | refine HSub.at 15 rfl ?_ | refine HSub.at 16 rfl ?_ | refine HSub.at 17 rfl ?_ | refine HSub.at 18 rfl ?_ | refine HSub.at 19 rfl ?_ | refine HSub.segH ?_ | refine HSub.skip ?_ | refine HSub.skipN ?_))
      dsimp only
      rw [val_snoc, List.length_append, List.length_singleton, Nat.pow_succ, ← hval, Nat.add_assoc, Nat.mul_assoc, ← Nat.mul_add, Nat.mod_add_div]
    · (repeat' (first | refine JC.seq ?_ | refine JC.ops ?_ | refine JO.nil ?_ | refine JX.thenN ?_ | (apply r_move; (iterate 3 exact rfl)) | (apply r_lss; (iterate 4 exact rfl); all_goals intro hc; all_goals try (exfalso; omega)) | (apply r_gtr; (iterate 4 exact rfl); all_goals intro hc; all_goals try (exfalso; omega)) | refine JX.thenE ?_ | refine JC.exit ?_ | refine JC.condF rfl ?_ | refine JX.blockE ?_))
      refine r_call0 trivial rfl rfl rfl (fun w hk hs => c_wideR w _ _ zs false (hO.rd.at hk hs (by (repeat' first | exact HSub.nil _ | exact HSub.hd | exact HSub.in0 | exact HSub.refl _ | refine HSub.skip ?_ | refine HSub.skipN ?_))) hz (by omega)) fun w v w' _ _ _ hR => ?_
      subst hR
      (repeat' (first | refine JO.nil ?_ | refine JX.thenN ?_ | (apply r_storeN; exact rfl; (first | exact trivial | exact ⟨rfl, rfl⟩); exact rfl; exact rfl; exact at0; (iterate 3 exact rfl)) | (apply r_storeN; exact rfl; (first | exact trivial | exact ⟨rfl, rfl⟩); exact rfl; exact rfl; exact at0; (iterate 3 exact rfl)) | refine JC.ret ?_))
      obtain rfl : m = 0 := by omega
      rw [Nat.mul_zero, Nat.add_zero] at hval
      exact JX.retC 0 rfl rfl rfl (fun a w' st => ⟨st.kp, by show Wv (sgn false (val B16 zs)) = _; rw [hval]; congr 1; simp only [sgn, if_true, Bool.false_eq_true, if_false]; omega⟩)

end Go.Proofs.YtdoogoglfbohaaaDoor

namespace Go.Proofs.YtdoogoglfbohaaaDoor
open Go Go.RowKit Go.Shelf
set_option linter.unusedSimpArgs false
set_option linter.unusedVariables false
set_option linter.unusedSectionVars false

def Cells (H : SHeap) : Prop := ∀ p ∈ H, p.2.isCells = true

theorem Cells.nil : Cells [] := fun _ h => nomatch h
theorem Cells.cons {H : SHeap} {b : Nat} {cs : Array Value} {T : TypeId} {fz : Nat × Nat} (h : Cells H) : Cells ((b, .cells cs T fz) :: H) := fun p hp => by
  rcases List.mem_cons.1 hp with rfl | hp
  · rfl
  · exact h p hp
theorem Cells.app {A B : SHeap} (h : Cells A) (k : Cells B) : Cells (A ++ B) := fun p hp => by
  rcases List.mem_append.1 hp with hp | hp
  · exact h p hp
  · exact k p hp
theorem OwnRow.cells' {e : TypeId} {sz n : Nat} {N : SHeap} {v : Value} {cs : List Value} (h : OwnRow e sz N v n cs) : Cells N := by
  obtain ⟨_, ⟨_, _, rfl⟩ | ⟨b, cap, cur, _, rfl, _⟩⟩ := h
  · exact Cells.nil
  · exact Cells.cons Cells.nil

structure RSt (wb : World) (c : Cx) (H : SHeap) (W : World) : Prop where
  hs : Hsat H W
  wr : ∀ p ∈ H, c.w0.heap.size ≤ p.1 ∨ p.1 ∈ c.M
  kp : Kp c.M c.w0 W
  kb : Kp [] wb W
  ge : ∀ p ∈ H, wb.heap.size ≤ p.1
  cells : Cells H

def RInv {N : Nat} (wb : World) (c : Cx) (n0 : Nat) (Iv : List Nat → SHeap → Prop) (xs : List {i : Nat // i < N}) (W : World) : Prop := n0 ≤ W.heap.size ∧ ∃ H, Iv (xs.map (·.1)) H ∧ RSt wb c H W

theorem RInv.own {N : Nat} {wb : World} {c : Cx} {Iv : List Nat → SHeap → Prop} {B n0 : Nat} (hb : wb.heap.size ≤ B) (hB : c.w0.heap.size ≤ B) : OwnFrom B (RInv (N := N) wb c n0 Iv) := by
  rintro xs W W' row ⟨hn0, H, hi, hs, hwr, hk, hkb, hge, hc⟩ hg hr
  have key : ∀ (k : Nat) (o : Obj), W.heap[k]? = some o → o.isCells = true → W'.heap[k]? = some o := fun k o h hc => by
    refine (hg.block k (Array.getElem?_eq_some_iff.1 h).1 (fun e => ?_)).trans h
    obtain ⟨_, o', h1, h2⟩ := hr k e.symm
    rw [h] at h1
    cases h1
    rw [hc] at h2; cases h2
  have kpx : ∀ (M : List Nat) (w0 : World), w0.heap.size ≤ B → Kp M w0 W → Kp M w0 W' := fun M w0 h0 hk =>
    ⟨hg.os.trans hk.os, hg.tape.trans hk.tape, hg.output.trans hk.output, Nat.le_trans hk.size hg.size, fun k hk' hm => (hg.block k (Nat.lt_of_lt_of_le hk' hk.size) (fun e => by have := (hr k e.symm).1; omega)).trans (hk.block k hk' hm)⟩
  exact ⟨Nat.le_trans hn0 hg.size, H, hi, ⟨hs.nd, fun p hp => key _ _ (hs.blk p hp) (hc p hp)⟩, hwr, kpx _ _ hB hk, kpx _ _ hb hkb, hge, hc⟩

def exH : Option Obj → Nat → SHeap
  | none, _ => []
  | some o, b => [(b, o)]
def exOk (n0 : Nat) (W : World) : Option Obj → Nat → Prop
  | none, _ => True
  | some o, b => W.heap[b]? = some o ∧ n0 ≤ b ∧ o.isCells = true
def AsgX (n n0 : Nat) (FA : Nat → SFrame) (ob : Option Obj) (a : Act) (W : World) : Prop := ∃ b, FrOK n (FA b) a ∧ exOk n0 W ob b
theorem AsgX.own {n n0 B : Nat} {FA : Nat → SFrame} {ob : Option Obj} {a : Act} : OwnFrom B (fun (_ : Unit) W => AsgX n n0 FA ob a W) := by
  rintro _ W W' row ⟨b, hf, hx⟩ hg hr
  refine ⟨b, hf, ?_⟩
  cases ob with
  | none => trivial
  | some o =>
    obtain ⟨h, hb, hc⟩ := hx
    refine ⟨(hg.block b (Array.getElem?_eq_some_iff.1 h).1 (fun e => ?_)).trans h, hb, hc⟩
    obtain ⟨_, o', h1, h2⟩ := hr b e.symm
    rw [h] at h1
    cases h1
    rw [hc] at h2; cases h2
theorem AsgX.le {n n0 n1 : Nat} {FA : Nat → SFrame} {ob : Option Obj} {a : Act} {W : World} (h : AsgX n n0 FA ob a W) (hn : n1 ≤ n0) : AsgX n n1 FA ob a W := by
  obtain ⟨b, hf, hx⟩ := h
  refine ⟨b, hf, ?_⟩
  cases ob with
  | none => trivial
  | some o => exact ⟨hx.1, Nat.le_trans hn hx.2.1, hx.2.2⟩
theorem RSt.ex {wb : World} {c : Cx} {H : SHeap} {W : World} {ob : Option Obj} {b n0 : Nat} (h : RSt wb c H W) (hx : exOk n0 W ob b) (h1 : wb.heap.size ≤ n0) (h2 : c.w0.heap.size ≤ n0) (hd : ∀ o, ob = some o → ∀ p ∈ H, p.2 ≠ o) : RSt wb c (exH ob b ++ H) W := by
  cases ob with
  | none => exact h
  | some o =>
    obtain ⟨hb, hn, hc⟩ := hx
    refine ⟨h.hs.cons hb (fun hm => ?_), fun p hp => ?_, h.kp, h.kb, fun p hp => ?_, fun p hp => ?_⟩
    · obtain ⟨p, hp, e⟩ := List.mem_map.1 hm
      have := h.hs.blk p hp
      rw [e, hb] at this
      exact hd o rfl p hp (Option.some.inj this).symm
    all_goals
      rcases List.mem_cons.1 hp with rfl | hp
    · exact .inl (Nat.le_trans h2 hn)
    · exact h.wr p hp
    · exact Nat.le_trans h1 hn
    · exact h.ge p hp
    · exact hc
    · exact h.cells p hp
theorem RSt.turned {wb : World} {c c2 : Cx} {H H' : SHeap} {W' : World} {a' : Act} {F : SFrame} (B bx : Nat) (box : Obj) (h : RSt wb c H c2.w0) (hM : c2.M = keys H) (st : St c2 F H' a' W') (hc : Cells H') (hb : (bx, box) ∈ H) (hb' : (bx, box) ∈ H') :
    KeepsFrom B c2.w0 W' ∧ KB [bx] c2.w0 W' ∧ RSt wb c H' W' := by
  have hk := st.kp
  have hnm : ∀ q, q < c2.w0.heap.size → (∀ o, c2.w0.heap[q]? = some o → o.isCells = false) → q ∉ keys H := fun q hq ho hm => by
    obtain ⟨p, hp, rfl⟩ := List.mem_map.1 hm
    have h1 := ho _ (h.hs.blk p hp)
    rw [h.cells p hp] at h1; cases h1
  refine ⟨⟨hk.size, fun k o _ ho hcl => (hk.block k (Array.getElem?_eq_some_iff.1 ho).1 ?_).trans ho⟩, fun q hq => ?_, ⟨st.hs, fun p hp => ?_, ?_, ?_, fun p hp => ?_, hc⟩⟩
  · rw [hM]; exact hnm k (Array.getElem?_eq_some_iff.1 ho).1 (fun o' ho' => by rw [ho] at ho'; cases ho'; exact hcl)
  · cases List.mem_singleton.1 hq
    exact (st.hs.blk _ hb').trans (h.hs.blk _ hb).symm
  · rcases st.wr p hp with h1 | h1
    · exact .inl (Nat.le_trans h.kp.size h1)
    · rw [hM] at h1
      obtain ⟨q, hq, e⟩ := List.mem_map.1 h1
      rw [← e]; exact h.wr q hq
  · refine ⟨hk.os.trans h.kp.os, hk.tape.trans h.kp.tape, hk.output.trans h.kp.output, Nat.le_trans h.kp.size hk.size, fun q hq hm => (hk.block q (Nat.lt_of_lt_of_le hq h.kp.size) ?_).trans (h.kp.block q hq hm)⟩
    rw [hM]
    intro hq2
    obtain ⟨p, hp, rfl⟩ := List.mem_map.1 hq2
    rcases h.wr p hp with h1 | h1
    · omega
    · exact hm h1
  · refine ⟨hk.os.trans h.kb.os, hk.tape.trans h.kb.tape, hk.output.trans h.kb.output, Nat.le_trans h.kb.size hk.size, fun q hq _ => (hk.block q (Nat.lt_of_lt_of_le hq h.kb.size) ?_).trans (h.kb.block q hq (by simp))⟩
    rw [hM]
    intro hq2
    obtain ⟨p, hp, rfl⟩ := List.mem_map.1 hq2
    have := h.ge p hp
    omega
  · rcases st.wr p hp with h1 | h1
    · exact Nat.le_trans h.kb.size h1
    · rw [hM] at h1
      obtain ⟨q, hq, e⟩ := List.mem_map.1 h1
      rw [← e]; exact h.ge q hq

theorem St.heap {c : Cx} {F : SFrame} {H H' : SHeap} {a : Act} {w : World} (h : St c F H a w) (hh : HSub H' H) : St c F H' a w :=
  ⟨h.fr, h.kp, hh.hsat h.hs, fun p hp => h.wr p (hh.mem p hp)⟩

section
variable {c : Cx} {Q : Exit → Act → World → Prop} {F : SFrame} {H : SHeap} {g : Operand} {p1 p2 : Tmp} {assign body tail : Code} {gf : Nat} {lb : Array Value} {u v : Nat → Value} {N bx : Nat} {box : Obj} {fn : Func} {R : Ending → World → Prop}

end

end Go.Proofs.YtdoogoglfbohaaaDoor

