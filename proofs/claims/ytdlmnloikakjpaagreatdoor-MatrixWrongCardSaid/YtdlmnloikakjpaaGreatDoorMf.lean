import Derived.Test.YtdlmnloikakjpaaGreatDoorMe
import Derived.Test.YtdlmnloikakjpaaGreatDoorMd
namespace Go.Proofs.YtdlmnloikakjpaaGreatDoor
open Go Go.RowKit
set_option linter.unusedSimpArgs false
set_option linter.unusedVariables false
set_option linter.unusedSectionVars false

theorem Qaq {l : List Nat} {i : Nat} (h : ¬ i < l.length) : l.getD i 0 = 0 := by rw [List.getD, List.getElem?_eq_none (by omega)]; rfl

set_option maxHeartbeats 8000000 in
theorem Qk2 (w : World) (v u : Value) (n k : Nat) (xs ys : List Nat) (hv : WN w v n xs) (hu : WN w u k ys) (hx : ∀ x ∈ xs, x < B16) (hy : ∀ x ∈ ys, x < B16) (hn : n ≤ 10000000000) (hk : k ≤ 10000000000) :
  Calls Tryz.prog 74 #[v, u] w (Ret fun v w' => Kp [] w w' ∧ NewR w w' v (val B16 xs + val B16 ys) (n + k + 1)) := by
 have hlx := hv.len
 have hly := hu.len
 obtain ⟨M, hM1, hM2, hM3⟩ : ∃ M, n ≤ M ∧ k ≤ M ∧ (M = n ∨ M = k) := ⟨max n k, by omega, by omega, by omega⟩
 refine Q0a [] [] (by simp) [] Tryz.func74 rfl mixed (by kernel_rfl) Tryz.ntmps74 Tryz.results74 rfl ⟨by simp, by simp⟩ (by simp) ?_
 simp only [toS, textOps, toSOp, kindAt, kindOf, odAt, sopsAt, ordOf, zipF]
 (repeat' (first | refine JC.seq ?_ | refine JC.ops ?_ | refine JO.nil ?_ | refine Q00 ?_ | (apply Q02; (iterate 3 exact rfl)) | refine JC.block ?_))
 refine Q0k (ι := Nat × Nat × Value × SHeap × List Nat) ⟨fun z => [(7, nv z.1), (6, nv z.2.1), (5, z.2.2.1), (0, v), (1, u)], fun z => z.2.2.2.1 ++ [],
  fun z => z.2.2.2.2.length = z.1 ∧ (z.1 ≤ M ∨ z.1 = M + 1 ∧ z.2.1 = 0) ∧ z.2.1 ≤ 1 ∧ OwnN z.2.2.2.1 z.2.2.1 z.1 z.2.2.2.2 ∧ (∀ x ∈ z.2.2.2.2, x < B16) ∧ val B16 z.2.2.2.2 + B16 ^ z.1 * z.2.1 = val B16 (xs.take z.1) + val B16 (ys.take z.1), fun z => M + 2 - z.1⟩
  (0, 0, _, [], []) ⟨rfl, .inl (Nat.zero_le _), Nat.zero_le _, OwnN.nil, fun _ h => absurd h List.not_mem_nil, by simp [val]⟩ (by repeat first | exact trivial | refine ⟨rfl, ?_⟩) (by exact HSub.nil _) (fun z hz => ?_)
 obtain ⟨i, c, vo, N, zs⟩ := z
 obtain ⟨hlz, hi, hc1, hO, hz, hval⟩ := hz
 dsimp only at hlz hi hc1 hO hz hval ⊢
 have hxi : xs.getD i 0 < 65536 := Q0s (b := B16) (by decide) hx i
 have hyi : ys.getD i 0 < 65536 := Q0s (b := B16) (by decide) hy i
 by_cases hin : i < n
 ·by_cases hik : i < k
  ·(repeat' (first | refine JC.seq ?_ | refine JC.ops ?_ | refine JO.nil ?_ | refine Q00 ?_ | (apply Q04; (iterate 3 exact rfl)) | (apply Q02; (iterate 3 exact rfl)) | (apply Q26; (iterate 4 exact rfl); (first | assumption | exact WN.rd (by assumption) rfl [] | exact OwnN.rd (by assumption)); (first | assumption | omega)) | (apply Q4i; (iterate 4 exact rfl); (first | assumption | exact WN.rd (by assumption) rfl [] | exact OwnN.rd (by assumption)); (repeat' first | exact HSub.nil _ | exact HSub.hd | exact Q03 | exact HSub.refl _ | refine HSub.skip ?_ | refine Q01 ?_); (first | assumption | omega)) | (apply Q1t; (iterate 3 exact rfl); (first | assumption | exact WN.rd (by assumption) rfl [] | exact OwnN.rd (by assumption))) | (apply Q5k (j := 65536); (iterate 4 exact rfl); omega) | (apply Q1a; (iterate 4 exact rfl); omega) | (apply Q0n; (iterate 4 exact rfl)) | (apply Q0m; (iterate 4 exact rfl); all_goals intro hc; all_goals try (exfalso; omega)) | (apply Q0w; (iterate 5 exact rfl); (repeat first | exact trivial | refine ⟨rfl, ?_⟩); decide; decide; intro _) | refine JC.skip ?_ | refine Q08 rfl ?_ | refine JC.block ?_ | (apply Q10; exact rfl; exact rfl; (first | (intro h; cases h; done) | (intro _; rfl)))))
   rename_i b2
   refine Q1r (A := [_]) hO (Q2g b2 1 [(c + xs.getD i 0 + ys.getD i 0) % 65536] _ rfl rfl (by decide)).rd (by (repeat' first | exact HSub.nil _ | exact HSub.hd | exact Q03 | exact HSub.refl _ | refine HSub.skip ?_ | refine Q01 ?_)) rfl trivial rfl rfl rfl rfl (by omega) (fun v' N' hO' => ?_)
   (repeat' (first | refine JC.ops ?_ | refine JO.nil ?_ | refine Q00 ?_ | (apply Q04; (iterate 3 exact rfl)) | (apply Q02; (iterate 3 exact rfl)) | (apply Q4v (j := 65536); (iterate 4 exact rfl); omega) | (apply Q0r; (iterate 4 exact rfl); omega) | refine Q0b ?_))
   refine Q0c (i + 1, (c + xs.getD i 0 + ys.getD i 0) / 65536, v', N', zs ++ [(c + xs.getD i 0 + ys.getD i 0) % 65536]) ⟨by simp only [List.length_append, List.length_singleton]; omega, by dsimp only; omega, by dsimp only; omega, hO', Q1z hz (Nat.mod_lt _ (by decide)), ?_⟩ (by dsimp only; omega) (by repeat first | exact trivial | refine ⟨rfl, ?_⟩) (by (repeat' first | exact HSub.refl _ | exact HSub.nil _ | refine HSub.at 0 rfl ?_ | refine HSub.at 1 rfl ?_ | refine HSub.at 2 rfl ?_ | refine HSub.at 3 rfl ?_ | refine HSub.at 4 rfl ?_ | refine HSub.at 5 rfl ?_ | refine HSub.at 6 rfl ?_ | refine HSub.at 7 rfl ?_ | refine HSub.at 8 rfl ?_ | refine HSub.at 9 rfl ?_ | refine HSub.at 10 rfl ?_ | refine HSub.at 11 rfl ?_ | refine HSub.at 12 rfl ?_ | refine HSub.at 13 rfl ?_ | refine HSub.at 14 rfl ?_ | refine HSub.at 15 rfl ?_ | refine HSub.at 16 rfl ?_ | refine HSub.at 17 rfl ?_ | refine HSub.at 18 rfl ?_ | refine HSub.at 19 rfl ?_ | refine Q0l ?_ | refine HSub.skip ?_ | refine Q01 ?_))
   dsimp only
   rw [Q2b, hlz, Q0u, Q0u, Nat.pow_succ]
   have h := Q2z (b := B16) (P := B16 ^ i) (c := c) (s := c + xs.getD i 0 + ys.getD i 0) (x := xs.getD i 0) (y := ys.getD i 0) (by omega) hval
   rw [Nat.add_add_add_comm, ← Nat.add_assoc]
   exact h
  ·have hy0 : ys.getD i 0 = 0 := Qaq (by omega)
   (repeat' (first | refine JC.seq ?_ | refine JC.ops ?_ | refine JO.nil ?_ | refine Q00 ?_ | (apply Q04; (iterate 3 exact rfl)) | (apply Q02; (iterate 3 exact rfl)) | (apply Q26; (iterate 4 exact rfl); (first | assumption | exact WN.rd (by assumption) rfl [] | exact OwnN.rd (by assumption)); (first | assumption | omega)) | (apply Q4i; (iterate 4 exact rfl); (first | assumption | exact WN.rd (by assumption) rfl [] | exact OwnN.rd (by assumption)); (repeat' first | exact HSub.nil _ | exact HSub.hd | exact Q03 | exact HSub.refl _ | refine HSub.skip ?_ | refine Q01 ?_); (first | assumption | omega)) | (apply Q1t; (iterate 3 exact rfl); (first | assumption | exact WN.rd (by assumption) rfl [] | exact OwnN.rd (by assumption))) | (apply Q5k (j := 65536); (iterate 4 exact rfl); omega) | (apply Q1a; (iterate 4 exact rfl); omega) | (apply Q0n; (iterate 4 exact rfl)) | (apply Q0m; (iterate 4 exact rfl); all_goals intro hc; all_goals try (exfalso; omega)) | (apply Q0w; (iterate 5 exact rfl); (repeat first | exact trivial | refine ⟨rfl, ?_⟩); decide; decide; intro _) | refine JC.skip ?_ | refine Q08 rfl ?_ | refine Q07 rfl ?_ | refine JC.block ?_ | (apply Q10; exact rfl; exact rfl; (first | (intro h; cases h; done) | (intro _; rfl)))))
   rename_i b2
   refine Q1r (A := [_]) hO (Q2g b2 1 [(c + xs.getD i 0) % 65536] _ rfl rfl (by decide)).rd (by (repeat' first | exact HSub.nil _ | exact HSub.hd | exact Q03 | exact HSub.refl _ | refine HSub.skip ?_ | refine Q01 ?_)) rfl trivial rfl rfl rfl rfl (by omega) (fun v' N' hO' => ?_)
   (repeat' (first | refine JC.ops ?_ | refine JO.nil ?_ | refine Q00 ?_ | (apply Q04; (iterate 3 exact rfl)) | (apply Q02; (iterate 3 exact rfl)) | (apply Q4v (j := 65536); (iterate 4 exact rfl); omega) | (apply Q0r; (iterate 4 exact rfl); omega) | refine Q0b ?_))
   refine Q0c (i + 1, (c + xs.getD i 0) / 65536, v', N', zs ++ [(c + xs.getD i 0) % 65536]) ⟨by simp only [List.length_append, List.length_singleton]; omega, by dsimp only; omega, by dsimp only; omega, hO', Q1z hz (Nat.mod_lt _ (by decide)), ?_⟩ (by dsimp only; omega) (by repeat first | exact trivial | refine ⟨rfl, ?_⟩) (by (repeat' first | exact HSub.refl _ | exact HSub.nil _ | refine HSub.at 0 rfl ?_ | refine HSub.at 1 rfl ?_ | refine HSub.at 2 rfl ?_ | refine HSub.at 3 rfl ?_ | refine HSub.at 4 rfl ?_ | refine HSub.at 5 rfl ?_ | refine HSub.at 6 rfl ?_ | refine HSub.at 7 rfl ?_ | refine HSub.at 8 rfl ?_ | refine HSub.at 9 rfl ?_ | refine HSub.at 10 rfl ?_ | refine HSub.at 11 rfl ?_ | refine HSub.at 12 rfl ?_ | refine HSub.at 13 rfl ?_ | refine HSub.at 14 rfl ?_ | refine HSub.at 15 rfl ?_ | refine HSub.at 16 rfl ?_ | refine HSub.at 17 rfl ?_ | refine HSub.at 18 rfl ?_ | refine HSub.at 19 rfl ?_ | refine Q0l ?_ | refine HSub.skip ?_ | refine Q01 ?_))
   dsimp only
   rw [Q2b, hlz, Q0u, Q0u, Nat.pow_succ]
   have h := Q2z (b := B16) (P := B16 ^ i) (c := c) (s := c + xs.getD i 0) (x := xs.getD i 0) (y := ys.getD i 0) (by omega) hval
   rw [Nat.add_add_add_comm, ← Nat.add_assoc]
   exact h
 ·have hx0 : xs.getD i 0 = 0 := Qaq (by omega)
  by_cases hik : i < k
  ·(repeat' (first | refine JC.seq ?_ | refine JC.ops ?_ | refine JO.nil ?_ | refine Q00 ?_ | (apply Q04; (iterate 3 exact rfl)) | (apply Q02; (iterate 3 exact rfl)) | (apply Q26; (iterate 4 exact rfl); (first | assumption | exact WN.rd (by assumption) rfl [] | exact OwnN.rd (by assumption)); (first | assumption | omega)) | (apply Q4i; (iterate 4 exact rfl); (first | assumption | exact WN.rd (by assumption) rfl [] | exact OwnN.rd (by assumption)); (repeat' first | exact HSub.nil _ | exact HSub.hd | exact Q03 | exact HSub.refl _ | refine HSub.skip ?_ | refine Q01 ?_); (first | assumption | omega)) | (apply Q1t; (iterate 3 exact rfl); (first | assumption | exact WN.rd (by assumption) rfl [] | exact OwnN.rd (by assumption))) | (apply Q5k (j := 65536); (iterate 4 exact rfl); omega) | (apply Q1a; (iterate 4 exact rfl); omega) | (apply Q0n; (iterate 4 exact rfl)) | (apply Q0q; (iterate 4 exact rfl)) | (apply Q0m; (iterate 4 exact rfl); all_goals intro hc; all_goals try (exfalso; omega)) | (apply Q0w; (iterate 5 exact rfl); (repeat first | exact trivial | refine ⟨rfl, ?_⟩); decide; decide; intro _) | refine JC.skip ?_ | refine Q08 rfl ?_ | refine Q07 rfl ?_ | refine JC.block ?_ | (apply Q10; exact rfl; exact rfl; (first | (intro h; cases h; done) | (intro _; rfl)))))
   rename_i b2
   refine Q1r (A := [_]) hO (Q2g b2 1 [(c + ys.getD i 0) % 65536] _ rfl rfl (by decide)).rd (by (repeat' first | exact HSub.nil _ | exact HSub.hd | exact Q03 | exact HSub.refl _ | refine HSub.skip ?_ | refine Q01 ?_)) rfl trivial rfl rfl rfl rfl (by omega) (fun v' N' hO' => ?_)
   (repeat' (first | refine JC.ops ?_ | refine JO.nil ?_ | refine Q00 ?_ | (apply Q04; (iterate 3 exact rfl)) | (apply Q02; (iterate 3 exact rfl)) | (apply Q4v (j := 65536); (iterate 4 exact rfl); omega) | (apply Q0r; (iterate 4 exact rfl); omega) | refine Q0b ?_))
   refine Q0c (i + 1, (c + ys.getD i 0) / 65536, v', N', zs ++ [(c + ys.getD i 0) % 65536]) ⟨by simp only [List.length_append, List.length_singleton]; omega, by dsimp only; omega, by dsimp only; omega, hO', Q1z hz (Nat.mod_lt _ (by decide)), ?_⟩ (by dsimp only; omega) (by repeat first | exact trivial | refine ⟨rfl, ?_⟩) (by (repeat' first | exact HSub.refl _ | exact HSub.nil _ | refine HSub.at 0 rfl ?_ | refine HSub.at 1 rfl ?_ | refine HSub.at 2 rfl ?_ | refine HSub.at 3 rfl ?_ | refine HSub.at 4 rfl ?_ | refine HSub.at 5 rfl ?_ | refine HSub.at 6 rfl ?_ | refine HSub.at 7 rfl ?_ | refine HSub.at 8 rfl ?_ | refine HSub.at 9 rfl ?_ | refine HSub.at 10 rfl ?_ | refine HSub.at 11 rfl ?_ | refine HSub.at 12 rfl ?_ | refine HSub.at 13 rfl ?_ | refine HSub.at 14 rfl ?_ | refine HSub.at 15 rfl ?_ | refine HSub.at 16 rfl ?_ | refine HSub.at 17 rfl ?_ | refine HSub.at 18 rfl ?_ | refine HSub.at 19 rfl ?_ | refine Q0l ?_ | refine HSub.skip ?_ | refine Q01 ?_))
   dsimp only
   rw [Q2b, hlz, Q0u, Q0u, Nat.pow_succ]
   have h := Q2z (b := B16) (P := B16 ^ i) (c := c) (s := c + ys.getD i 0) (x := xs.getD i 0) (y := ys.getD i 0) (by omega) hval
   rw [Nat.add_add_add_comm, ← Nat.add_assoc]
   exact h
  ·have hy0 : ys.getD i 0 = 0 := Qaq (by omega)
   by_cases hc0 : 0 < c
   ·(repeat' (first | refine JC.seq ?_ | refine JC.ops ?_ | refine JO.nil ?_ | refine Q00 ?_ | (apply Q04; (iterate 3 exact rfl)) | (apply Q02; (iterate 3 exact rfl)) | (apply Q1t; (iterate 3 exact rfl); (first | assumption | exact WN.rd (by assumption) rfl [] | exact OwnN.rd (by assumption))) | (apply Q5k (j := 65536); (iterate 4 exact rfl); omega) | (apply Q0q; (iterate 4 exact rfl)) | (apply Q0m; (iterate 4 exact rfl); all_goals intro hc; all_goals try (exfalso; omega)) | (apply Q1l; (iterate 4 exact rfl); all_goals intro hc; all_goals try (exfalso; omega)) | (apply Q0w; (iterate 5 exact rfl); (repeat first | exact trivial | refine ⟨rfl, ?_⟩); decide; decide; intro _) | refine JC.skip ?_ | refine Q08 rfl ?_ | refine Q07 rfl ?_ | refine JC.block ?_))
    rename_i b2
    refine Q1r (A := [_]) hO (Q2g b2 1 [(c) % 65536] _ rfl rfl (by decide)).rd (by (repeat' first | exact HSub.nil _ | exact HSub.hd | exact Q03 | exact HSub.refl _ | refine HSub.skip ?_ | refine Q01 ?_)) rfl trivial rfl rfl rfl rfl (by omega) (fun v' N' hO' => ?_)
    (repeat' (first | refine JC.ops ?_ | refine JO.nil ?_ | refine Q00 ?_ | (apply Q04; (iterate 3 exact rfl)) | (apply Q02; (iterate 3 exact rfl)) | (apply Q4v (j := 65536); (iterate 4 exact rfl); omega) | (apply Q0r; (iterate 4 exact rfl); omega) | refine Q0b ?_))
    refine Q0c (i + 1, (c) / 65536, v', N', zs ++ [(c) % 65536]) ⟨by simp only [List.length_append, List.length_singleton]; omega, by dsimp only; omega, by dsimp only; omega, hO', Q1z hz (Nat.mod_lt _ (by decide)), ?_⟩ (by dsimp only; omega) (by repeat first | exact trivial | refine ⟨rfl, ?_⟩) (by (repeat' first | exact HSub.refl _ | exact HSub.nil _ | refine HSub.at 0 rfl ?_ | refine HSub.at 1 rfl ?_ | refine HSub.at 2 rfl ?_ | refine HSub.at 3 rfl ?_ | refine HSub.at 4 rfl ?_ | refine HSub.at 5 rfl ?_ | refine HSub.at 6 rfl ?_ | refine HSub.at 7 rfl ?_ | refine HSub.at 8 rfl ?_ | refine HSub.at 9 rfl ?_ | refine HSub.at 10 rfl ?_ | refine HSub.at 11 rfl ?_ | refine HSub.at 12 rfl ?_ | refine HSub.at 13 rfl ?_ | refine HSub.at 14 rfl ?_ | refine HSub.at 15 rfl ?_ | refine HSub.at 16 rfl ?_ | refine HSub.at 17 rfl ?_ | refine HSub.at 18 rfl ?_ | refine HSub.at 19 rfl ?_ | refine Q0l ?_ | refine HSub.skip ?_ | refine Q01 ?_))
    dsimp only
    rw [Q2b, hlz, Q0u, Q0u, Nat.pow_succ]
    have h := Q2z (b := B16) (P := B16 ^ i) (c := c) (s := c) (x := xs.getD i 0) (y := ys.getD i 0) (by omega) hval
    rw [Nat.add_add_add_comm, ← Nat.add_assoc]
    exact h
   ·(repeat' (first | refine JC.seq ?_ | refine JC.ops ?_ | refine JO.nil ?_ | refine Q00 ?_ | (apply Q04; (iterate 3 exact rfl)) | (apply Q02; (iterate 3 exact rfl)) | (apply Q1t; (iterate 3 exact rfl); (first | assumption | exact WN.rd (by assumption) rfl [] | exact OwnN.rd (by assumption))) | (apply Q0q; (iterate 4 exact rfl)) | (apply Q0m; (iterate 4 exact rfl); all_goals intro hc; all_goals try (exfalso; omega)) | (apply Q1l; (iterate 4 exact rfl); all_goals intro hc; all_goals try (exfalso; omega)) | refine Q0i ?_ | refine JC.exit ?_ | refine JC.ret ?_ | refine Q07 rfl ?_ | refine Q0f ?_))
    obtain rfl : c = 0 := by omega
    rw [Nat.mul_zero, Nat.add_zero, List.take_of_length_le (by omega), List.take_of_length_le (by omega)] at hval
    exact Q0j rfl (fun a w' st => ⟨st.kp, N, zs, st.newOf rfl (by (repeat' first | exact HSub.nil _ | exact HSub.hd | exact Q03 | exact HSub.refl _ | refine HSub.skip ?_ | refine Q01 ?_)), by rw [hlz]; exact hO, hz, hval, by omega⟩)


theorem Q59 {b P c x y d c' v a a' : Nat} (hs : d + (c + y) = x + b * c') (h : v + a = a' + P * c) : v + P * d + (a + P * y) = (a' + P * x) + P * b * c' := by
 have e : P * d + (P * c + P * y) = P * x + P * b * c' := by rw [← Nat.mul_add, ← Nat.mul_add, hs, Nat.mul_add, Nat.mul_assoc]
 omega

set_option maxHeartbeats 8000000 in
theorem Q8l (w : World) (v u : Value) (n k : Nat) (xs ys : List Nat) (hv : WN w v n xs) (hu : WN w u k ys) (hx : ∀ x ∈ xs, x < B16) (hy : ∀ x ∈ ys, x < B16) (hn : n ≤ 10000000000) (hkn : k ≤ n) (hle : val B16 ys ≤ val B16 xs) :
  Calls Tryz.prog 75 #[v, u] w (Ret fun v w' => Kp [] w w' ∧ NewD w w' v (val B16 xs - val B16 ys)) := by
 have hlx := hv.len
 have hly := hu.len
 refine Q0a [] [] (by simp) [] Tryz.func75 rfl mixed (by kernel_rfl) Tryz.ntmps75 Tryz.results75 rfl ⟨by simp, by simp⟩ (by simp) ?_
 simp only [toS, textOps, toSOp, kindAt, kindOf, odAt, sopsAt, ordOf, zipF]
 (repeat' (first | refine JC.seq ?_ | refine JC.ops ?_ | refine JO.nil ?_ | refine Q00 ?_ | (apply Q02; (iterate 3 exact rfl)) | refine JC.block ?_))
 refine Q0k (ι := Nat × Nat × Value × SHeap × List Nat) ⟨fun z => [(7, nv z.1), (6, nv z.2.1), (5, z.2.2.1), (0, v), (1, u)], fun z => z.2.2.2.1 ++ [],
  fun z => z.2.2.2.2.length = z.1 ∧ z.1 ≤ n ∧ z.2.1 ≤ 1 ∧ OwnN z.2.2.2.1 z.2.2.1 z.1 z.2.2.2.2 ∧ (∀ x ∈ z.2.2.2.2, x < B16) ∧ val B16 z.2.2.2.2 + val B16 (ys.take z.1) = val B16 (xs.take z.1) + B16 ^ z.1 * z.2.1, fun z => n - z.1⟩
  (0, 0, _, [], []) ⟨rfl, Nat.zero_le _, Nat.zero_le _, OwnN.nil, fun _ h => absurd h List.not_mem_nil, by simp [val]⟩ (by repeat first | exact trivial | refine ⟨rfl, ?_⟩) (by exact HSub.nil _) (fun z hz => ?_)
 obtain ⟨i, c, vo, N, zs⟩ := z
 obtain ⟨hlz, hi, hc1, hO, hz, hval⟩ := hz
 dsimp only at hlz hi hc1 hO hz hval ⊢
 have hxi : xs.getD i 0 < 65536 := Q0s (b := B16) (by decide) hx i
 have hyi : ys.getD i 0 < 65536 := Q0s (b := B16) (by decide) hy i
 by_cases hin : i < n
 ·by_cases hik : i < k
  ·by_cases hd : xs.getD i 0 < c + ys.getD i 0
   ·have hD : ∃ q : Nat, q = xs.getD i 0 + 65536 - (c + ys.getD i 0) ∧ q < 65536 := ⟨_, rfl, by omega⟩
    obtain ⟨q, hq, hq2⟩ := hD
    (repeat' (first | refine JC.seq ?_ | refine JC.ops ?_ | refine JO.nil ?_ | refine Q00 ?_ | (apply Q04; (iterate 3 exact rfl)) | (apply Q02; (iterate 3 exact rfl)) | (apply Q26; (iterate 4 exact rfl); (first | assumption | exact WN.rd (by assumption) rfl [] | exact OwnN.rd (by assumption)); (first | assumption | omega)) | (apply Q4i; (iterate 4 exact rfl); (first | assumption | exact WN.rd (by assumption) rfl [] | exact OwnN.rd (by assumption)); (repeat' first | exact HSub.nil _ | exact HSub.hd | exact Q03 | exact HSub.refl _ | refine HSub.skip ?_ | refine Q01 ?_); (first | assumption | omega)) | (apply Q1t; (iterate 3 exact rfl); (first | assumption | exact WN.rd (by assumption) rfl [] | exact OwnN.rd (by assumption))) | (apply Qii; (iterate 4 exact rfl); omega) | (apply Q3b; (iterate 4 exact rfl); omega) | (apply Q0m; (iterate 4 exact rfl); all_goals intro hc; all_goals try (exfalso; omega)) | (apply Q0w; (iterate 5 exact rfl); (repeat first | exact trivial | refine ⟨rfl, ?_⟩); decide; decide; intro _) | refine JC.skip ?_ | refine Q08 rfl ?_ | refine JC.block ?_))
    have e : Value.int .i64 ((xs.getD i 0 : Int) - c - (ys.getD i 0 : Int) + 65536) = nv q := by
     show iv _ = iv _
     congr 1
     omega
    rw [e]
    rename_i b2
    refine Q1r (A := [_]) hO (Q2g b2 1 [q] _ rfl rfl (by decide)).rd (by (repeat' first | exact HSub.nil _ | exact HSub.hd | exact Q03 | exact HSub.refl _ | refine HSub.skip ?_ | refine Q01 ?_)) rfl trivial rfl rfl rfl rfl (by omega) (fun v' N' hO' => ?_)
    (repeat' (first | refine JC.ops ?_ | refine JO.nil ?_ | refine Q00 ?_ | (apply Q04; (iterate 3 exact rfl)) | (apply Q02; (iterate 3 exact rfl)) | (apply Q0r; (iterate 4 exact rfl); omega) | refine Q0b ?_))
    refine Q0c (i + 1, 1, v', N', zs ++ [q]) ⟨by simp only [List.length_append, List.length_singleton]; omega, by dsimp only; omega, by dsimp only; omega, hO', Q1z hz hq2, ?_⟩ (by dsimp only; omega) (by repeat first | exact trivial | refine ⟨rfl, ?_⟩) (by (repeat' first | exact HSub.refl _ | exact HSub.nil _ | refine HSub.at 0 rfl ?_ | refine HSub.at 1 rfl ?_ | refine HSub.at 2 rfl ?_ | refine HSub.at 3 rfl ?_ | refine HSub.at 4 rfl ?_ | refine HSub.at 5 rfl ?_ | refine HSub.at 6 rfl ?_ | refine HSub.at 7 rfl ?_ | refine HSub.at 8 rfl ?_ | refine HSub.at 9 rfl ?_ | refine HSub.at 10 rfl ?_ | refine HSub.at 11 rfl ?_ | refine HSub.at 12 rfl ?_ | refine HSub.at 13 rfl ?_ | refine HSub.at 14 rfl ?_ | refine HSub.at 15 rfl ?_ | refine HSub.at 16 rfl ?_ | refine HSub.at 17 rfl ?_ | refine HSub.at 18 rfl ?_ | refine HSub.at 19 rfl ?_ | refine Q0l ?_ | refine HSub.skip ?_ | refine Q01 ?_))
    dsimp only
    rw [Q2b, hlz, Q0u, Q0u, Nat.pow_succ]
    exact Q59 (b := B16) (c := c) (c' := 1) (by show q + _ = _ + 65536 * _; omega) hval
   ·have hD : ∃ q : Nat, q = xs.getD i 0 - (c + ys.getD i 0) ∧ q < 65536 := ⟨_, rfl, by omega⟩
    obtain ⟨q, hq, hq2⟩ := hD
    (repeat' (first | refine JC.seq ?_ | refine JC.ops ?_ | refine JO.nil ?_ | refine Q00 ?_ | (apply Q04; (iterate 3 exact rfl)) | (apply Q02; (iterate 3 exact rfl)) | (apply Q26; (iterate 4 exact rfl); (first | assumption | exact WN.rd (by assumption) rfl [] | exact OwnN.rd (by assumption)); (first | assumption | omega)) | (apply Q4i; (iterate 4 exact rfl); (first | assumption | exact WN.rd (by assumption) rfl [] | exact OwnN.rd (by assumption)); (repeat' first | exact HSub.nil _ | exact HSub.hd | exact Q03 | exact HSub.refl _ | refine HSub.skip ?_ | refine Q01 ?_); (first | assumption | omega)) | (apply Q1t; (iterate 3 exact rfl); (first | assumption | exact WN.rd (by assumption) rfl [] | exact OwnN.rd (by assumption))) | (apply Q4r; (iterate 4 exact rfl); omega) | (apply Q0m; (iterate 4 exact rfl); all_goals intro hc; all_goals try (exfalso; omega)) | (apply Q0w; (iterate 5 exact rfl); (repeat first | exact trivial | refine ⟨rfl, ?_⟩); decide; decide; intro _) | refine JC.skip ?_ | refine Q08 rfl ?_ | refine Q07 rfl ?_ | refine JC.block ?_))
    have e : Value.int .i64 ((xs.getD i 0 - c - ys.getD i 0 : Nat) : Int) = nv q := by
     show iv _ = iv _
     congr 1
     omega
    rw [e]
    rename_i b2
    refine Q1r (A := [_]) hO (Q2g b2 1 [q] _ rfl rfl (by decide)).rd (by (repeat' first | exact HSub.nil _ | exact HSub.hd | exact Q03 | exact HSub.refl _ | refine HSub.skip ?_ | refine Q01 ?_)) rfl trivial rfl rfl rfl rfl (by omega) (fun v' N' hO' => ?_)
    (repeat' (first | refine JC.ops ?_ | refine JO.nil ?_ | refine Q00 ?_ | (apply Q04; (iterate 3 exact rfl)) | (apply Q02; (iterate 3 exact rfl)) | (apply Q0r; (iterate 4 exact rfl); omega) | refine Q0b ?_))
    refine Q0c (i + 1, 0, v', N', zs ++ [q]) ⟨by simp only [List.length_append, List.length_singleton]; omega, by dsimp only; omega, by dsimp only; omega, hO', Q1z hz hq2, ?_⟩ (by dsimp only; omega) (by repeat first | exact trivial | refine ⟨rfl, ?_⟩) (by (repeat' first | exact HSub.refl _ | exact HSub.nil _ | refine HSub.at 0 rfl ?_ | refine HSub.at 1 rfl ?_ | refine HSub.at 2 rfl ?_ | refine HSub.at 3 rfl ?_ | refine HSub.at 4 rfl ?_ | refine HSub.at 5 rfl ?_ | refine HSub.at 6 rfl ?_ | refine HSub.at 7 rfl ?_ | refine HSub.at 8 rfl ?_ | refine HSub.at 9 rfl ?_ | refine HSub.at 10 rfl ?_ | refine HSub.at 11 rfl ?_ | refine HSub.at 12 rfl ?_ | refine HSub.at 13 rfl ?_ | refine HSub.at 14 rfl ?_ | refine HSub.at 15 rfl ?_ | refine HSub.at 16 rfl ?_ | refine HSub.at 17 rfl ?_ | refine HSub.at 18 rfl ?_ | refine HSub.at 19 rfl ?_ | refine Q0l ?_ | refine HSub.skip ?_ | refine Q01 ?_))
    dsimp only
    rw [Q2b, hlz, Q0u, Q0u, Nat.pow_succ]
    exact Q59 (b := B16) (c := c) (c' := 0) (by show q + _ = _ + 65536 * _; omega) hval
  ·have hy0 : ys.getD i 0 = 0 := Qaq (by omega)
   by_cases hd : xs.getD i 0 < c
   ·have hD : ∃ q : Nat, q = xs.getD i 0 + 65536 - (c + 0) ∧ q < 65536 := ⟨_, rfl, by omega⟩
    obtain ⟨q, hq, hq2⟩ := hD
    (repeat' (first | refine JC.seq ?_ | refine JC.ops ?_ | refine JO.nil ?_ | refine Q00 ?_ | (apply Q04; (iterate 3 exact rfl)) | (apply Q02; (iterate 3 exact rfl)) | (apply Q26; (iterate 4 exact rfl); (first | assumption | exact WN.rd (by assumption) rfl [] | exact OwnN.rd (by assumption)); (first | assumption | omega)) | (apply Q4i; (iterate 4 exact rfl); (first | assumption | exact WN.rd (by assumption) rfl [] | exact OwnN.rd (by assumption)); (repeat' first | exact HSub.nil _ | exact HSub.hd | exact Q03 | exact HSub.refl _ | refine HSub.skip ?_ | refine Q01 ?_); (first | assumption | omega)) | (apply Q1t; (iterate 3 exact rfl); (first | assumption | exact WN.rd (by assumption) rfl [] | exact OwnN.rd (by assumption))) | (apply Qii; (iterate 4 exact rfl); omega) | (apply Q3b; (iterate 4 exact rfl); omega) | (apply Q0m; (iterate 4 exact rfl); all_goals intro hc; all_goals try (exfalso; omega)) | (apply Q0w; (iterate 5 exact rfl); (repeat first | exact trivial | refine ⟨rfl, ?_⟩); decide; decide; intro _) | refine JC.skip ?_ | refine Q08 rfl ?_ | refine Q07 rfl ?_ | refine JC.block ?_))
    have e : Value.int .i64 ((xs.getD i 0 : Int) - c + 65536) = nv q := by
     show iv _ = iv _
     congr 1
     omega
    rw [e]
    rename_i b2
    refine Q1r (A := [_]) hO (Q2g b2 1 [q] _ rfl rfl (by decide)).rd (by (repeat' first | exact HSub.nil _ | exact HSub.hd | exact Q03 | exact HSub.refl _ | refine HSub.skip ?_ | refine Q01 ?_)) rfl trivial rfl rfl rfl rfl (by omega) (fun v' N' hO' => ?_)
    (repeat' (first | refine JC.ops ?_ | refine JO.nil ?_ | refine Q00 ?_ | (apply Q04; (iterate 3 exact rfl)) | (apply Q02; (iterate 3 exact rfl)) | (apply Q0r; (iterate 4 exact rfl); omega) | refine Q0b ?_))
    refine Q0c (i + 1, 1, v', N', zs ++ [q]) ⟨by simp only [List.length_append, List.length_singleton]; omega, by dsimp only; omega, by dsimp only; omega, hO', Q1z hz hq2, ?_⟩ (by dsimp only; omega) (by repeat first | exact trivial | refine ⟨rfl, ?_⟩) (by (repeat' first | exact HSub.refl _ | exact HSub.nil _ | refine HSub.at 0 rfl ?_ | refine HSub.at 1 rfl ?_ | refine HSub.at 2 rfl ?_ | refine HSub.at 3 rfl ?_ | refine HSub.at 4 rfl ?_ | refine HSub.at 5 rfl ?_ | refine HSub.at 6 rfl ?_ | refine HSub.at 7 rfl ?_ | refine HSub.at 8 rfl ?_ | refine HSub.at 9 rfl ?_ | refine HSub.at 10 rfl ?_ | refine HSub.at 11 rfl ?_ | refine HSub.at 12 rfl ?_ | refine HSub.at 13 rfl ?_ | refine HSub.at 14 rfl ?_ | refine HSub.at 15 rfl ?_ | refine HSub.at 16 rfl ?_ | refine HSub.at 17 rfl ?_ | refine HSub.at 18 rfl ?_ | refine HSub.at 19 rfl ?_ | refine Q0l ?_ | refine HSub.skip ?_ | refine Q01 ?_))
    dsimp only
    rw [Q2b, hlz, Q0u, Q0u, Nat.pow_succ]
    exact Q59 (b := B16) (c := c) (c' := 1) (by show q + _ = _ + 65536 * _; omega) hval
   ·have hD : ∃ q : Nat, q = xs.getD i 0 - (c + 0) ∧ q < 65536 := ⟨_, rfl, by omega⟩
    obtain ⟨q, hq, hq2⟩ := hD
    (repeat' (first | refine JC.seq ?_ | refine JC.ops ?_ | refine JO.nil ?_ | refine Q00 ?_ | (apply Q04; (iterate 3 exact rfl)) | (apply Q02; (iterate 3 exact rfl)) | (apply Q26; (iterate 4 exact rfl); (first | assumption | exact WN.rd (by assumption) rfl [] | exact OwnN.rd (by assumption)); (first | assumption | omega)) | (apply Q4i; (iterate 4 exact rfl); (first | assumption | exact WN.rd (by assumption) rfl [] | exact OwnN.rd (by assumption)); (repeat' first | exact HSub.nil _ | exact HSub.hd | exact Q03 | exact HSub.refl _ | refine HSub.skip ?_ | refine Q01 ?_); (first | assumption | omega)) | (apply Q1t; (iterate 3 exact rfl); (first | assumption | exact WN.rd (by assumption) rfl [] | exact OwnN.rd (by assumption))) | (apply Q4r; (iterate 4 exact rfl); omega) | (apply Q0m; (iterate 4 exact rfl); all_goals intro hc; all_goals try (exfalso; omega)) | (apply Q0w; (iterate 5 exact rfl); (repeat first | exact trivial | refine ⟨rfl, ?_⟩); decide; decide; intro _) | refine JC.skip ?_ | refine Q08 rfl ?_ | refine Q07 rfl ?_ | refine JC.block ?_))
    have e : Value.int .i64 ((xs.getD i 0 - c : Nat) : Int) = nv q := by
     show iv _ = iv _
     congr 1
     omega
    rw [e]
    rename_i b2
    refine Q1r (A := [_]) hO (Q2g b2 1 [q] _ rfl rfl (by decide)).rd (by (repeat' first | exact HSub.nil _ | exact HSub.hd | exact Q03 | exact HSub.refl _ | refine HSub.skip ?_ | refine Q01 ?_)) rfl trivial rfl rfl rfl rfl (by omega) (fun v' N' hO' => ?_)
    (repeat' (first | refine JC.ops ?_ | refine JO.nil ?_ | refine Q00 ?_ | (apply Q04; (iterate 3 exact rfl)) | (apply Q02; (iterate 3 exact rfl)) | (apply Q0r; (iterate 4 exact rfl); omega) | refine Q0b ?_))
    refine Q0c (i + 1, 0, v', N', zs ++ [q]) ⟨by simp only [List.length_append, List.length_singleton]; omega, by dsimp only; omega, by dsimp only; omega, hO', Q1z hz hq2, ?_⟩ (by dsimp only; omega) (by repeat first | exact trivial | refine ⟨rfl, ?_⟩) (by (repeat' first | exact HSub.refl _ | exact HSub.nil _ | refine HSub.at 0 rfl ?_ | refine HSub.at 1 rfl ?_ | refine HSub.at 2 rfl ?_ | refine HSub.at 3 rfl ?_ | refine HSub.at 4 rfl ?_ | refine HSub.at 5 rfl ?_ | refine HSub.at 6 rfl ?_ | refine HSub.at 7 rfl ?_ | refine HSub.at 8 rfl ?_ | refine HSub.at 9 rfl ?_ | refine HSub.at 10 rfl ?_ | refine HSub.at 11 rfl ?_ | refine HSub.at 12 rfl ?_ | refine HSub.at 13 rfl ?_ | refine HSub.at 14 rfl ?_ | refine HSub.at 15 rfl ?_ | refine HSub.at 16 rfl ?_ | refine HSub.at 17 rfl ?_ | refine HSub.at 18 rfl ?_ | refine HSub.at 19 rfl ?_ | refine Q0l ?_ | refine HSub.skip ?_ | refine Q01 ?_))
    dsimp only
    rw [Q2b, hlz, Q0u, Q0u, Nat.pow_succ]
    exact Q59 (b := B16) (c := c) (c' := 0) (by show q + _ = _ + 65536 * _; omega) hval
 ·(repeat' (first | refine JC.seq ?_ | refine JC.ops ?_ | refine JO.nil ?_ | refine Q00 ?_ | (apply Q04; (iterate 3 exact rfl)) | (apply Q1t; (iterate 3 exact rfl); (first | assumption | exact WN.rd (by assumption) rfl [] | exact OwnN.rd (by assumption))) | (apply Q0m; (iterate 4 exact rfl); all_goals intro hc; all_goals try (exfalso; omega)) | refine Q0i ?_ | refine JC.exit ?_ | refine Q07 rfl ?_ | refine Q0f ?_))
  obtain rfl : i = n := by omega
  rw [List.take_of_length_le (by omega), List.take_of_length_le (by omega)] at hval
  have hc0 : c = 0 := by
   rcases Nat.eq_zero_or_pos c with h | h
   ·exact h
   ·have h1 : B16 ^ i ≤ B16 ^ i * c := Nat.le_mul_of_pos_right _ h
    have h2 := Q4p hz
    rw [hlz] at h2
    omega
  subst hc0
  rw [Nat.mul_zero, Nat.add_zero] at hval
  obtain ⟨A, cap, rfl⟩ := hO.form
  refine Q09 trivial rfl rfl rfl (fun w hk hs => Q9o w _ _ _ _ (hO.rd.at hk hs (by (repeat' first | exact HSub.nil _ | exact HSub.hd | exact Q03 | exact HSub.refl _ | refine HSub.skip ?_ | refine Q01 ?_))) (by omega)) fun w v w' _ _ _ hR => ?_
  obtain ⟨q, hq, rfl, hnq⟩ := hR
  (repeat' (first | refine JO.nil ?_ | refine Q00 ?_ | (apply Q02; (iterate 3 exact rfl)) | refine JC.ret ?_))
  have hown := hO.hd hq
  rw [← hnq] at hown
  have hql : (nrm zs).length = q := hown.len
  refine Q0j rfl (fun a w' st => ⟨st.kp, N, nrm zs, st.newOf rfl (by (repeat' first | exact HSub.nil _ | exact HSub.hd | exact Q03 | exact HSub.refl _ | refine HSub.skip ?_ | refine Q01 ?_)), by rw [hql]; exact hown, Q2n hz, ?_⟩)
  rw [Q1o]
  omega


set_option maxHeartbeats 8000000 in
theorem Q6j (w : World) (v u : Value) (n k : Nat) (xs ys : List Nat) (hv : WN w v n xs) (hu : WN w u k ys) (hx : Dig B16 xs) (hy : Dig B16 ys) (hn : n ≤ 10000000000) (hk : k ≤ 10000000000) :
  Calls Tryz.prog 81 #[v, u] w (Ret fun v w' => Kp [] w w' ∧ v = iv (cmpV (val B16 xs) (val B16 ys))) := by
 have hlx := hv.len
 have hly := hu.len
 refine Q0a [⟨8, 1, [], []⟩, ⟨9, 1, [], []⟩] [] (by simp) [] Tryz.func81 rfl mixed (by kernel_rfl) Tryz.ntmps81 Tryz.results81 rfl ⟨by simp, by simp⟩ (by simp) ?_
 simp only [toS, textOps, toSOp, kindAt, kindOf, odAt, sopsAt, ordOf, zipF]
 rcases Nat.lt_trichotomy n k with h | h | h
 ·have hcc := Q32 (by decide) hx hy (by omega)
  (repeat' (first | refine JC.seq ?_ | refine JC.ops ?_ | refine JO.nil ?_ | refine Q00 ?_ | (apply Q04; (iterate 3 exact rfl)) | (apply Q02; (iterate 3 exact rfl)) | (apply Q1t; (iterate 3 exact rfl); (first | assumption | exact WN.rd (by assumption) rfl [] | exact OwnN.rd (by assumption))) | (apply Q0m; (iterate 4 exact rfl); all_goals intro hc; all_goals try (exfalso; omega)) | (apply Q3h; (iterate 4 exact rfl); all_goals intro hc; all_goals try (exfalso; omega)) | refine Q0o ?_ | refine JC.ret ?_ | refine Q08 rfl ?_))
  exact Q0j rfl (fun a w' st => ⟨st.kp, by unfold cmpV; rw [if_pos hcc]⟩)
 ·(repeat' (first | refine JC.seq ?_ | refine JC.ops ?_ | refine JO.nil ?_ | refine Q00 ?_ | (apply Q04; (iterate 3 exact rfl)) | (apply Q02; (iterate 3 exact rfl)) | (apply Q1t; (iterate 3 exact rfl); (first | assumption | exact WN.rd (by assumption) rfl [] | exact OwnN.rd (by assumption))) | (apply Q3b; (iterate 4 exact rfl); omega) | (apply Q3h; (iterate 4 exact rfl); all_goals intro hc; all_goals try (exfalso; omega)) | refine JC.skip ?_ | refine Q07 rfl ?_ | refine JC.block ?_))
  refine Q0k (ι := Nat) ⟨fun q => [(5, iv ((q : Int) - 1)), (0, v), (1, u)], fun _ => [], fun q => q ≤ n ∧ xs.drop q = ys.drop q, fun q => q⟩ n ⟨Nat.le_refl _, by rw [List.drop_eq_nil_of_le (by omega), List.drop_eq_nil_of_le (by omega)]⟩ (by repeat first | exact trivial | refine ⟨rfl, ?_⟩) (by (first | exact HSub.refl _ | (repeat' first | exact HSub.nil _ | exact HSub.refl _ | refine HSub.at 0 rfl ?_ | refine HSub.at 1 rfl ?_ | refine HSub.at 2 rfl ?_ | refine HSub.at 3 rfl ?_ | refine HSub.at 4 rfl ?_ | refine HSub.at 5 rfl ?_ | refine HSub.at 6 rfl ?_ | refine HSub.at 7 rfl ?_))) (fun q hq => ?_)
  obtain ⟨hqn, hd⟩ := hq
  dsimp only at hqn hd ⊢
  rcases q with _ | q
  ·(repeat' (first | refine JC.seq ?_ | refine JC.ops ?_ | refine JO.nil ?_ | refine Q00 ?_ | (apply Q04; (iterate 3 exact rfl)) | (apply Q02; (iterate 3 exact rfl)) | (apply Q2k; (iterate 4 exact rfl); all_goals intro hc; all_goals try (exfalso; omega)) | refine Q0i ?_ | refine JC.exit ?_ | refine JC.ret ?_ | refine Q07 rfl ?_ | refine Q0f ?_))
   have : xs = ys := hd
   exact Q0j rfl (fun a w' st => ⟨st.kp, by unfold cmpV; rw [this, if_neg (Nat.lt_irrefl _), if_neg (Nat.lt_irrefl _)]⟩)
  ·have hiv : iv (((q + 1 : Nat) : Int) - 1) = nv q := by
    show iv _ = iv _
    congr 1
    omega
   rw [hiv]
   rcases Nat.lt_trichotomy (xs.getD q 0) (ys.getD q 0) with h1 | h1 | h1
   ·have hcc := Q9x (b := B16) (by omega) (by omega) hx.lt h1 hd
    (repeat' (first | refine JC.seq ?_ | refine JC.ops ?_ | refine JC.opsD ?_ | refine JO.nil ?_ | refine Q00 ?_ | (apply Q04; (iterate 3 exact rfl)) | (apply Q02; (iterate 3 exact rfl)) | (apply Q26; (iterate 4 exact rfl); (first | assumption | exact WN.rd (by assumption) rfl [] | exact OwnN.rd (by assumption)); (first | assumption | omega)) | (apply Q4i; (iterate 4 exact rfl); (first | assumption | exact WN.rd (by assumption) rfl [] | exact OwnN.rd (by assumption)); (repeat' first | exact HSub.nil _ | exact HSub.hd | exact Q03 | exact HSub.refl _ | refine HSub.skip ?_ | refine Q01 ?_); (first | assumption | omega)) | (apply Q0m; (iterate 4 exact rfl); all_goals intro hc; all_goals try (exfalso; omega)) | (apply Q2k; (iterate 4 exact rfl); all_goals intro hc; all_goals try (exfalso; omega)) | (apply Q3h; (iterate 4 exact rfl); all_goals intro hc; all_goals try (exfalso; omega)) | refine Q0o ?_ | refine JC.skip ?_ | refine JC.ret ?_ | refine Q08 rfl ?_ | refine JC.block ?_ | refine Q1b ?_))
    exact Q0j rfl (fun a w' st => ⟨st.kp, by unfold cmpV; rw [if_pos hcc]⟩)
   ·(repeat' (first | refine JC.seq ?_ | refine JC.ops ?_ | refine JC.opsD ?_ | refine JO.nil ?_ | refine Q00 ?_ | (apply Q04; (iterate 3 exact rfl)) | (apply Q02; (iterate 3 exact rfl)) | (apply Q26; (iterate 4 exact rfl); (first | assumption | exact WN.rd (by assumption) rfl [] | exact OwnN.rd (by assumption)); (first | assumption | omega)) | (apply Q4i; (iterate 4 exact rfl); (first | assumption | exact WN.rd (by assumption) rfl [] | exact OwnN.rd (by assumption)); (repeat' first | exact HSub.nil _ | exact HSub.hd | exact Q03 | exact HSub.refl _ | refine HSub.skip ?_ | refine Q01 ?_); (first | assumption | omega)) | (apply Q3b; (iterate 4 exact rfl); omega) | (apply Q2k; (iterate 4 exact rfl); all_goals intro hc; all_goals try (exfalso; omega)) | (apply Q3h; (iterate 4 exact rfl); all_goals intro hc; all_goals try (exfalso; omega)) | refine JC.skip ?_ | refine Q08 rfl ?_ | refine Q07 rfl ?_ | refine JC.block ?_ | refine Q0b ?_))
    refine Q0c q ⟨by omega, ?_⟩ (by dsimp only; omega) (by repeat first | exact trivial | refine ⟨rfl, ?_⟩) (by (first | exact HSub.refl _ | (repeat' first | exact HSub.nil _ | exact HSub.refl _ | refine HSub.at 0 rfl ?_ | refine HSub.at 1 rfl ?_ | refine HSub.at 2 rfl ?_ | refine HSub.at 3 rfl ?_ | refine HSub.at 4 rfl ?_ | refine HSub.at 5 rfl ?_ | refine HSub.at 6 rfl ?_ | refine HSub.at 7 rfl ?_)))
    rw [List.drop_eq_getElem_cons (show q < xs.length by omega), List.drop_eq_getElem_cons (show q < ys.length by omega), hd]
    have e : xs[q]'(by omega) = ys[q]'(by omega) := by
     simpa [List.getD, List.getElem?_eq_getElem (show q < xs.length by omega), List.getElem?_eq_getElem (show q < ys.length by omega)] using h1
    rw [e]
   ·have hcc := Q9x (b := B16) (by omega) (by omega) hy.lt h1 hd.symm
    (repeat' (first | refine JC.seq ?_ | refine JC.ops ?_ | refine JC.opsD ?_ | refine JO.nil ?_ | refine Q00 ?_ | (apply Q04; (iterate 3 exact rfl)) | (apply Q02; (iterate 3 exact rfl)) | (apply Q26; (iterate 4 exact rfl); (first | assumption | exact WN.rd (by assumption) rfl [] | exact OwnN.rd (by assumption)); (first | assumption | omega)) | (apply Q4i; (iterate 4 exact rfl); (first | assumption | exact WN.rd (by assumption) rfl [] | exact OwnN.rd (by assumption)); (repeat' first | exact HSub.nil _ | exact HSub.hd | exact Q03 | exact HSub.refl _ | refine HSub.skip ?_ | refine Q01 ?_); (first | assumption | omega)) | (apply Q0m; (iterate 4 exact rfl); all_goals intro hc; all_goals try (exfalso; omega)) | (apply Q2k; (iterate 4 exact rfl); all_goals intro hc; all_goals try (exfalso; omega)) | (apply Q3h; (iterate 4 exact rfl); all_goals intro hc; all_goals try (exfalso; omega)) | refine Q0o ?_ | refine JC.skip ?_ | refine JC.ret ?_ | refine Q08 rfl ?_ | refine Q07 rfl ?_ | refine JC.block ?_ | refine Q1b ?_))
    exact Q0j rfl (fun a w' st => ⟨st.kp, by unfold cmpV; rw [if_neg (by omega), if_pos hcc]⟩)
 ·have hcc := Q32 (by decide) hy hx (by omega)
  (repeat' (first | refine JC.seq ?_ | refine JC.ops ?_ | refine JO.nil ?_ | refine Q00 ?_ | (apply Q04; (iterate 3 exact rfl)) | (apply Q02; (iterate 3 exact rfl)) | (apply Q1t; (iterate 3 exact rfl); (first | assumption | exact WN.rd (by assumption) rfl [] | exact OwnN.rd (by assumption))) | (apply Q0m; (iterate 4 exact rfl); all_goals intro hc; all_goals try (exfalso; omega)) | (apply Q3h; (iterate 4 exact rfl); all_goals intro hc; all_goals try (exfalso; omega)) | refine Q0o ?_ | refine JC.skip ?_ | refine JC.ret ?_ | refine Q08 rfl ?_ | refine Q07 rfl ?_))
  exact Q0j rfl (fun a w' st => ⟨st.kp, by unfold cmpV; rw [if_neg (by omega), if_pos hcc]⟩)


theorem Qck {x y : Nat} (hx : x < 65536) (hy : y < 65536) : x * y ≤ 4294836225 := by
 have := Nat.mul_le_mul (show x ≤ 65535 by omega) (show y ≤ 65535 by omega)
 omega

set_option maxHeartbeats 8000000 in
theorem Qh2 (w : World) (v u : Value) (n k : Nat) (xs ys : List Nat) (hv : WN w v n xs) (hu : WN w u k ys) (hx : ∀ x ∈ xs, x < B16) (hy : ∀ x ∈ ys, x < B16) (hn : n ≤ 10000000000) (hk : k ≤ 10000000000) :
  Calls Tryz.prog 70 #[v, u] w (Ret fun v w' => Kp [] w w' ∧ ∃ N zs, New N w w' ∧ OwnN N v zs.length zs ∧ Dig B16 zs ∧ val B16 zs = val B16 xs * val B16 ys ∧ zs.length ≤ n + k) := by
 have hlx := hv.len
 have hly := hu.len
 refine Q0a [⟨9, 1, [], []⟩] [] (by simp) [] Tryz.func70 rfl mixed (by kernel_rfl) Tryz.ntmps70 Tryz.results70 rfl ⟨by simp, by simp⟩ (by simp) ?_
 simp only [toS, textOps, toSOp, kindAt, kindOf, odAt, sopsAt, ordOf, zipF]
 (repeat' (first | refine JC.seq ?_ | refine JC.ops ?_ | refine JO.nil ?_ | refine Q00 ?_ | (apply Q04; (iterate 3 exact rfl)) | (apply Q02; (iterate 3 exact rfl)) | (apply Q1t; (iterate 3 exact rfl); (first | assumption | exact WN.rd (by assumption) rfl [] | exact OwnN.rd (by assumption))) | (apply Q1a; (iterate 4 exact rfl); omega)))
 refine Q3q (n := n + k) rfl rfl rfl rfl rfl (by omega) (by omega) (fun b5 => ?_)
 have hO := Qbp b5 (n + k) (by simp only [maxLen]; omega)
 (repeat' (first | refine JC.seq ?_ | refine JC.ops ?_ | refine JO.nil ?_ | refine Q00 ?_ | (apply Q02; (iterate 3 exact rfl)) | refine JC.block ?_))
 refine Q0k (ι := Nat × SHeap × List Nat) ⟨fun z => [(6, nv z.1), (5, .slice (some ⟨b5, 0, none⟩) (n + k) (n + k)), (0, v), (1, u)], fun z => z.2.1 ++ [],
  fun z => z.1 ≤ n ∧ OwnN z.2.1 (.slice (some ⟨b5, 0, none⟩) (n + k) (n + k)) (n + k) z.2.2 ∧ (∀ x ∈ z.2.2, x < B16) ∧ val B16 z.2.2 = val B16 (xs.take z.1) * val B16 ys ∧ ∀ j, z.1 + k ≤ j → z.2.2.getD j 0 = 0, fun z => n - z.1⟩
  (0, _, _) ⟨Nat.zero_le _, hO, fun x hx => by obtain ⟨a, _, rfl⟩ := List.mem_map.1 hx; decide, by show val B16 (tab (n + k) fun _ => 0) = _; rw [Q4x]; simp [val], fun j _ => Q3o _ j⟩ (by repeat first | exact trivial | refine ⟨rfl, ?_⟩) (by (first | exact HSub.refl _ | (repeat' first | exact HSub.nil _ | exact HSub.refl _ | refine HSub.at 0 rfl ?_ | refine HSub.at 1 rfl ?_ | refine HSub.at 2 rfl ?_ | refine HSub.at 3 rfl ?_ | refine HSub.at 4 rfl ?_ | refine HSub.at 5 rfl ?_ | refine HSub.at 6 rfl ?_ | refine HSub.at 7 rfl ?_))) (fun z hz => ?_)
 clear hO
 obtain ⟨i, N, zs⟩ := z
 obtain ⟨hi, hO, hz, hval, hzero⟩ := hz
 dsimp only at hi hO hz hval hzero ⊢
 have hlz := hO.len
 by_cases hin : i < n
 ·have hxi : xs.getD i 0 < 65536 := Q0s (b := B16) (by decide) hx i
  (repeat' (first | refine JC.seq ?_ | refine JC.ops ?_ | refine JO.nil ?_ | refine Q00 ?_ | (apply Q04; (iterate 3 exact rfl)) | (apply Q02; (iterate 3 exact rfl)) | (apply Q1t; (iterate 3 exact rfl); (first | assumption | exact WN.rd (by assumption) rfl [] | exact OwnN.rd (by assumption))) | (apply Q0m; (iterate 4 exact rfl); all_goals intro hc; all_goals try (exfalso; omega)) | refine JC.skip ?_ | refine Q08 rfl ?_ | refine JC.block ?_))
  refine Q0k (ι := Nat × Nat × SHeap × List Nat) ⟨fun y => [(8, nv y.1), (7, nv y.2.1), (6, nv i), (5, .slice (some ⟨b5, 0, none⟩) (n + k) (n + k)), (0, v), (1, u)], fun y => y.2.2.1 ++ [],
   fun y => y.1 ≤ k ∧ OwnN y.2.2.1 (.slice (some ⟨b5, 0, none⟩) (n + k) (n + k)) (n + k) y.2.2.2 ∧ (∀ x ∈ y.2.2.2, x < B16) ∧ y.2.1 < 65536 ∧ val B16 y.2.2.2 + B16 ^ (i + y.1) * y.2.1 = val B16 (xs.take i) * val B16 ys + B16 ^ i * (xs.getD i 0 * val B16 (ys.take y.1)) ∧ ∀ j, i + k ≤ j → y.2.2.2.getD j 0 = 0, fun y => k - y.1⟩
   (0, 0, _, _) ⟨Nat.zero_le _, hO, hz, by show (0 : Nat) < 65536; decide, by simp [hval, val], hzero⟩ (by repeat first | exact trivial | refine ⟨rfl, ?_⟩) (by (first | exact HSub.refl _ | (repeat' first | exact HSub.nil _ | exact HSub.refl _ | refine HSub.at 0 rfl ?_ | refine HSub.at 1 rfl ?_ | refine HSub.at 2 rfl ?_ | refine HSub.at 3 rfl ?_ | refine HSub.at 4 rfl ?_ | refine HSub.at 5 rfl ?_ | refine HSub.at 6 rfl ?_ | refine HSub.at 7 rfl ?_))) (fun y hyy => ?_)
  clear hO hz hval hzero hlz
  obtain ⟨q, c, M, us⟩ := y
  obtain ⟨hq, hO, hz, hc1, hval, hzero⟩ := hyy
  dsimp only at hq hO hz hc1 hval hzero ⊢
  have hlz := hO.len
  by_cases hqk : q < k
  ·have hyq : ys.getD q 0 < 65536 := Q0s (b := B16) (by decide) hy q
   have huq : us.getD (i + q) 0 < 65536 := Q0s (b := B16) (by decide) hz (i + q)
   have hxy := Qck hxi hyq
   (repeat' (first | refine JC.seq ?_ | refine JC.ops ?_ | refine JC.opsD ?_ | refine JO.nil ?_ | refine Q00 ?_ | (apply Q04; (iterate 3 exact rfl)) | (apply Q02; (iterate 3 exact rfl)) | (apply Q26; (iterate 4 exact rfl); (first | assumption | exact WN.rd (by assumption) rfl [] | exact OwnN.rd (by assumption)); (first | assumption | omega)) | (apply Q4i; (iterate 4 exact rfl); (first | assumption | exact WN.rd (by assumption) rfl [] | exact OwnN.rd (by assumption)); (repeat' first | exact HSub.nil _ | exact HSub.hd | exact Q03 | exact HSub.refl _ | refine HSub.skip ?_ | refine Q01 ?_); (first | assumption | omega)) | (apply Q1t; (iterate 3 exact rfl); (first | assumption | exact WN.rd (by assumption) rfl [] | exact OwnN.rd (by assumption))) | (apply Q5k (j := 65536); (iterate 4 exact rfl); omega) | (apply Q1a; (iterate 4 exact rfl); omega) | (apply Q1q; (iterate 4 exact rfl); (first | assumption | omega)) | (apply Q0m; (iterate 4 exact rfl); all_goals intro hc; all_goals try (exfalso; omega)) | refine JC.skip ?_ | refine Q08 rfl ?_ | refine JC.block ?_))
   refine Qic (A := []) hO rfl rfl trivial rfl rfl (by omega) (fun M' hO' => ?_)
   (repeat' (first | refine JC.ops ?_ | refine JO.nil ?_ | refine Q00 ?_ | (apply Q04; (iterate 3 exact rfl)) | (apply Q02; (iterate 3 exact rfl)) | (apply Q4v (j := 65536); (iterate 4 exact rfl); omega) | (apply Q0r; (iterate 4 exact rfl); omega) | refine Q0b ?_))
   refine Q0c (q + 1, _, M', _) ⟨by dsimp only; omega, hO', Q2x hz (Nat.mod_lt _ (by decide)), ?_, ?_, fun j hj => ?_⟩ (by dsimp only; omega) (by repeat first | exact trivial | refine ⟨rfl, ?_⟩) (by (first | exact HSub.refl _ | (repeat' first | exact HSub.nil _ | exact HSub.refl _ | refine HSub.at 0 rfl ?_ | refine HSub.at 1 rfl ?_ | refine HSub.at 2 rfl ?_ | refine HSub.at 3 rfl ?_ | refine HSub.at 4 rfl ?_ | refine HSub.at 5 rfl ?_ | refine HSub.at 6 rfl ?_ | refine HSub.at 7 rfl ?_)))
   ·dsimp only; omega
   ·dsimp only
    have e := Q3v (b := B16) (l := us) (j := i + q) (u := (us.getD (i + q) 0 + xs.getD i 0 * ys.getD q 0 + c) % B16) (by omega)
    have := Qbs e rfl hval
    rw [Q0u, Nat.mul_add, Nat.mul_add, ← Nat.add_assoc (_ * _), ← Nat.add_assoc i q 1, Nat.pow_succ]
    have e3 : B16 ^ i * (xs.getD i 0 * (B16 ^ q * ys.getD q 0)) = B16 ^ (i + q) * (xs.getD i 0 * ys.getD q 0) := by
     rw [Nat.pow_add]
     simp only [Nat.mul_left_comm, Nat.mul_assoc]
    rw [e3]
    exact this
   ·dsimp only at hj ⊢
    rw [getD_set_ne (by omega)]
    exact hzero j (by omega)
  ·obtain rfl : q = k := by omega
   (repeat' (first | refine JC.seq ?_ | refine JC.ops ?_ | refine JO.nil ?_ | refine Q00 ?_ | (apply Q04; (iterate 3 exact rfl)) | (apply Q26; (iterate 4 exact rfl); (first | assumption | exact WN.rd (by assumption) rfl [] | exact OwnN.rd (by assumption)); (first | assumption | omega)) | (apply Q1t; (iterate 3 exact rfl); (first | assumption | exact WN.rd (by assumption) rfl [] | exact OwnN.rd (by assumption))) | (apply Q1a; (iterate 4 exact rfl); omega) | (apply Q0m; (iterate 4 exact rfl); all_goals intro hc; all_goals try (exfalso; omega)) | refine Q0i ?_ | refine JC.exit ?_ | refine Q07 rfl ?_ | refine Q0f ?_))
   refine Qic (A := []) hO rfl rfl trivial rfl rfl (by omega) (fun M' hO' => ?_)
   (repeat' (first | refine JC.ops ?_ | refine JO.nil ?_ | refine Q00 ?_ | (apply Q04; (iterate 3 exact rfl)) | (apply Q02; (iterate 3 exact rfl)) | (apply Q0r; (iterate 4 exact rfl); omega) | refine Q0b ?_))
   refine Q0c (i + 1, M', _) ⟨by dsimp only; omega, hO', Q2x hz hc1, ?_, fun j hj => ?_⟩ (by dsimp only; omega) (by repeat first | exact trivial | refine ⟨rfl, ?_⟩) (by (first | exact HSub.refl _ | (repeat' first | exact HSub.nil _ | exact HSub.refl _ | refine HSub.at 0 rfl ?_ | refine HSub.at 1 rfl ?_ | refine HSub.at 2 rfl ?_ | refine HSub.at 3 rfl ?_ | refine HSub.at 4 rfl ?_ | refine HSub.at 5 rfl ?_ | refine HSub.at 6 rfl ?_ | refine HSub.at 7 rfl ?_)))
   ·dsimp only
    have e := Q3v (b := B16) (l := us) (j := i + q) (u := c) (by omega)
    rw [hzero (i + q) (Nat.le_refl _), Nat.mul_zero, Nat.add_zero, hval] at e
    rw [e, Q0u, Nat.add_mul, List.take_of_length_le (l := ys) (i := q) (by omega), Nat.mul_assoc]
   ·dsimp only at hj ⊢
    rw [getD_set_ne (by omega)]
    exact hzero j (by omega)
 ·(repeat' (first | refine JC.seq ?_ | refine JC.ops ?_ | refine JO.nil ?_ | refine Q00 ?_ | (apply Q04; (iterate 3 exact rfl)) | (apply Q1t; (iterate 3 exact rfl); (first | assumption | exact WN.rd (by assumption) rfl [] | exact OwnN.rd (by assumption))) | (apply Q0m; (iterate 4 exact rfl); all_goals intro hc; all_goals try (exfalso; omega)) | refine Q0i ?_ | refine JC.exit ?_ | refine Q07 rfl ?_ | refine Q0f ?_))
  refine Q09 trivial rfl rfl rfl (fun w hk hs => Q9o w _ _ _ _ (hO.rd.at hk hs (by (repeat' first | exact HSub.nil _ | exact HSub.hd | exact Q03 | exact HSub.refl _ | refine HSub.skip ?_ | refine Q01 ?_))) (by omega)) fun w v w' _ _ _ hR => ?_
  obtain ⟨q, hq, rfl, hnq⟩ := hR
  (repeat' (first | refine JO.nil ?_ | refine Q00 ?_ | (apply Q02; (iterate 3 exact rfl)) | refine JC.ret ?_))
  have hown := hO.hd hq
  rw [← hnq] at hown
  have hql : (nrm zs).length = q := hown.len
  refine Q0j rfl (fun a w' st => ⟨st.kp, N, nrm zs, st.newOf rfl (by (repeat' first | exact HSub.nil _ | exact HSub.hd | exact Q03 | exact HSub.refl _ | refine HSub.skip ?_ | refine Q01 ?_)), by rw [hql]; exact hown, Q2n hz, ?_, by rw [hql]; exact hq⟩)
  rw [Q1o, hval, List.take_of_length_le (by omega)]


set_option maxHeartbeats 8000000 in
theorem c_by (w : World) (v : Value) (n : Nat) (xs : List Nat) (d : Nat) (hv : WN w v n xs) (hx : ∀ x ∈ xs, x < B16) (hn : n ≤ 9000000000) (hd : d < B16) :
  Calls Tryz.prog 91 #[v, nv d] w (Ret fun v w' => Kp [] w w' ∧ ∃ N zs, New N w w' ∧ OwnN N v zs.length zs ∧ Dig B16 zs ∧ val B16 zs = val B16 xs * d ∧ zs.length ≤ n + 1) := by
 have hlx := hv.len
 refine Q0a [] [] (by simp) [] Tryz.func91 rfl mixed (by kernel_rfl) Tryz.ntmps91 Tryz.results91 rfl ⟨by simp, by simp⟩ (by simp) ?_
 simp only [toS, textOps, toSOp, kindAt, kindOf, odAt, sopsAt, ordOf, zipF]
 (repeat' (first | refine JC.seq ?_ | refine JC.ops ?_ | refine JO.nil ?_ | refine Q00 ?_ | (apply Q04; (iterate 3 exact rfl)) | (apply Q02; (iterate 3 exact rfl)) | (apply Q0w; (iterate 5 exact rfl); (repeat first | exact trivial | refine ⟨rfl, ?_⟩); decide; decide; intro _)))
 rename_i b1
 have hL : OwnN [(b1, .cells ⟨[nv d]⟩ 3)] (.slice (some ⟨b1, 0, none⟩) 1 1) 1 [d] := Q2g b1 1 [d] _ rfl rfl (by decide)
 refine Q0h (A := []) rfl trivial rfl rfl rfl (fun w hk hs => Qh2 w _ _ _ _ xs [d] (hv.mono hk) (hL.rd.at hk hs (by (repeat' first | exact HSub.nil _ | exact HSub.hd | exact Q03 | exact HSub.refl _ | refine HSub.skip ?_ | refine Q01 ?_))) hx (fun x hx => by rw [List.mem_singleton.1 hx]; exact hd) (by omega) (by decide)) fun w v w' _ _ _ hR => ?_
 obtain ⟨N1, zs1, hN1, hO1, hz1, hval1, hl1⟩ := hR
 refine ⟨N1, hN1, ?_⟩
 (repeat' (first | refine JO.nil ?_ | refine Q00 ?_ | (apply Q02; (iterate 3 exact rfl)) | refine JC.ret ?_))
 exact Q0j rfl (fun a w' st => ⟨st.kp, N1, zs1, st.newOf rfl (by (repeat' first | exact HSub.nil _ | exact HSub.hd | exact Q03 | exact HSub.refl _ | refine HSub.skip ?_ | refine Q01 ?_)), hO1, hz1, by rw [hval1, val, val, Nat.mul_zero, Nat.add_zero], hl1⟩)

theorem Q6c {l r : List Nat} (hl : Dig B16 l) (hr : Dig B16 r) (h : val B16 l ≤ val B16 r) : l.length ≤ r.length := by
 refine Decidable.byContradiction fun h2 => ?_
 have := Q32 (b := B16) (by decide) hr hl (by omega)
 omega
theorem Qaw {a b : Nat} : cmpV a b ≤ 0 ↔ a ≤ b := by
 unfold cmpV
 split
 ·simp_all; omega
 ·split <;> simp_all
theorem Q9g {R x r D y V low b : Nat} (h1 : R = x + b * r) (h2 : D = y * V + r) (h3 : y * low ≤ R) : x + b * D = y * (low + b * V) + (R - y * low) := by
 have e1 : b * D = b * (y * V) + b * r := by rw [h2, Nat.mul_add]
 have e2 : y * (low + b * V) = y * low + b * (y * V) := by rw [Nat.mul_add, Nat.mul_left_comm y b V]
 omega

def GivesO (X Y : Nat) (w : World) (r : Value) (w' : World) : Prop := ∃ N1 N2 v1 v2 qs rs, r = .tuple #[v1, v2] ∧ New (N1 ++ N2) w w' ∧ OwnN N1 v1 qs.length qs ∧ OwnN N2 v2 rs.length rs ∧ Dig B16 qs ∧ Dig B16 rs ∧ X = Y * val B16 qs + val B16 rs ∧ val B16 rs < Y

set_option maxHeartbeats 8000000 in
theorem Qm1 (w : World) (v u : Value) (n k : Nat) (xs ys : List Nat) (hv : WN w v n xs) (hu : WN w u k ys) (hx : ∀ x ∈ xs, x < B16) (hy : Dig B16 ys) (h0 : 0 < val B16 ys) (hn : n ≤ 1000000000) (hk : k ≤ 1000000000) :
  Calls Tryz.prog 72 #[v, u] w (Ret fun r w' => Kp [] w w' ∧ GivesO (val B16 xs) (val B16 ys) w r w') := by
 have hlx := hv.len
 have hly := hu.len
 refine Q0a [] [] (by simp) [] Tryz.func72 rfl mixed (by kernel_rfl) Tryz.ntmps72 Tryz.results72 rfl ⟨by simp, by simp⟩ (by simp) ?_
 simp only [toS, textOps, toSOp, kindAt, kindOf, odAt, sopsAt, ordOf, zipF]
 (repeat' (first | refine JC.seq ?_ | refine JC.ops ?_ | refine JO.nil ?_ | refine Q00 ?_ | (apply Q04; (iterate 3 exact rfl)) | (apply Q02; (iterate 3 exact rfl)) | (apply Q1t; (iterate 3 exact rfl); (first | assumption | exact WN.rd (by assumption) rfl [] | exact OwnN.rd (by assumption)))))
 refine Q3q (n := n) rfl rfl rfl rfl rfl (by omega) (by omega) (fun b5 => ?_)
 have hO := Qbp b5 n (by simp only [maxLen]; omega)
 (repeat' (first | refine JC.seq ?_ | refine JC.ops ?_ | refine JO.nil ?_ | refine Q00 ?_ | (apply Q04; (iterate 3 exact rfl)) | (apply Q02; (iterate 3 exact rfl)) | (apply Q1t; (iterate 3 exact rfl); (first | assumption | exact WN.rd (by assumption) rfl [] | exact OwnN.rd (by assumption))) | (apply Q3b; (iterate 4 exact rfl); omega) | refine JC.block ?_))
 refine Q0k (ι := Nat × Value × SHeap × List Nat × SHeap × List Nat) ⟨fun z => [(8, iv ((z.1 : Int) - 1)), (7, z.2.1), (6, .slice (some ⟨b5, 0, none⟩) n n), (0, v), (1, u)], fun z => z.2.2.1 ++ (z.2.2.2.2.1 ++ []),
  fun z => z.1 ≤ n ∧ OwnN z.2.2.1 z.2.1 z.2.2.2.1.length z.2.2.2.1 ∧ Dig B16 z.2.2.2.1 ∧ OwnN z.2.2.2.2.1 (.slice (some ⟨b5, 0, none⟩) n n) n z.2.2.2.2.2 ∧ (∀ x ∈ z.2.2.2.2.2, x < B16) ∧ val B16 z.2.2.2.1 < val B16 ys ∧ val B16 (xs.drop z.1) = val B16 ys * val B16 (z.2.2.2.2.2.drop z.1) + val B16 z.2.2.2.1, fun z => z.1⟩
  (n, .slice none 0 0, [], [], _, _) ⟨Nat.le_refl _, OwnN.nil, Dig.nil _, hO, fun x hx => by obtain ⟨a, _, rfl⟩ := List.mem_map.1 hx; decide, h0, by
   dsimp only
   rw [Q1d (by omega), Q1d (by simp), Nat.mul_zero]; rfl⟩ (by repeat first | exact trivial | refine ⟨rfl, ?_⟩) (by (first | exact HSub.refl _ | (repeat' first | exact HSub.nil _ | exact HSub.refl _ | refine HSub.at 0 rfl ?_ | refine HSub.at 1 rfl ?_ | refine HSub.at 2 rfl ?_ | refine HSub.at 3 rfl ?_ | refine HSub.at 4 rfl ?_ | refine HSub.at 5 rfl ?_ | refine HSub.at 6 rfl ?_ | refine HSub.at 7 rfl ?_))) (fun z hz => ?_)
 clear hO
 obtain ⟨m, vr, Nr, rs, Nq, qs⟩ := z
 obtain ⟨hm, hOr, hzr, hOq, hzq, hlt, hval⟩ := hz
 dsimp only at hm hOr hzr hOq hzq hlt hval ⊢
 have hlq := hOq.len
 have hrl : rs.length ≤ k := by have := Q6c hzr hy (Nat.le_of_lt hlt); omega
 rcases m with _ | i
 ·(repeat' (first | refine JC.seq ?_ | refine JC.ops ?_ | refine JO.nil ?_ | refine Q00 ?_ | (apply Q04; (iterate 3 exact rfl)) | (apply Q2k; (iterate 4 exact rfl); all_goals intro hc; all_goals try (exfalso; omega)) | refine Q0i ?_ | refine JC.exit ?_ | refine Q07 rfl ?_ | refine Q0f ?_))
  refine Q09 trivial rfl rfl rfl (fun w hk hs => Q9o w _ _ _ _ (hOq.rd.at hk hs (by (repeat' first | exact HSub.nil _ | exact HSub.hd | exact Q03 | exact HSub.refl _ | refine HSub.skip ?_ | refine Q01 ?_))) (by omega)) fun w v w' _ _ _ hR => ?_
  obtain ⟨q, hq, rfl, hnq⟩ := hR
  (repeat' (first | refine JO.nil ?_ | refine Q00 ?_ | (apply Q04; (iterate 3 exact rfl)) | (apply Q02; (iterate 3 exact rfl)) | refine JC.ret ?_))
  have hown := hOq.hd hq
  rw [← hnq] at hown
  have hql : (nrm qs).length = q := hown.len
  refine Q8s rfl rfl (fun a w' st => ⟨st.kp, Nq, Nr, _, _, nrm qs, rs, rfl, st.newOf rfl ?_, by rw [hql]; exact hown, hOr, Q2n hzq, hzr, ?_, hlt⟩)
  ·exact ⟨[], by simpa using List.perm_append_comm⟩
  ·rw [List.drop_zero, List.drop_zero] at hval
   rw [Q1o, hval]
 ·have hiv : iv (((i + 1 : Nat) : Int) - 1) = nv i := by
   show iv _ = iv _
   congr 1
   omega
  rw [hiv]
  have hxi : xs.getD i 0 < 65536 := Q0s (b := B16) (by decide) hx i
  generalize hxe : xs.getD i 0 = x at hxi
  have hxv : val B16 (xs.drop i) = x + 65536 * val B16 (xs.drop (i + 1)) := by rw [Q1g (show i < xs.length by omega), hxe]
  (repeat' (first | refine JC.seq ?_ | refine JC.ops ?_ | refine JO.nil ?_ | refine Q00 ?_ | (apply Q04; (iterate 3 exact rfl)) | (apply Q26; (iterate 4 exact rfl); (first | assumption | exact WN.rd (by assumption) rfl [] | exact OwnN.rd (by assumption)); (first | assumption | omega)) | (apply Q4i; (iterate 4 exact rfl); (first | assumption | exact WN.rd (by assumption) rfl [] | exact OwnN.rd (by assumption)); (repeat' first | exact HSub.nil _ | exact HSub.hd | exact Q03 | exact HSub.refl _ | refine HSub.skip ?_ | refine Q01 ?_); (first | assumption | omega)) | (apply Q2k; (iterate 4 exact rfl); all_goals intro hc; all_goals try (exfalso; omega)) | (apply Q0w; (iterate 5 exact rfl); (repeat first | exact trivial | refine ⟨rfl, ?_⟩); decide; decide; intro _) | refine JC.skip ?_ | refine Q08 rfl ?_ | refine JC.block ?_))
  rename_i b2
  rw [hxe]
  refine Q1r (A := []) (N := [(b2, _)]) (Q2g b2 1 [x] _ rfl rfl (by decide)) hOr.rd (by (repeat' first | exact HSub.nil _ | exact HSub.hd | exact Q03 | exact HSub.refl _ | refine HSub.skip ?_ | refine Q01 ?_)) rfl trivial rfl rfl rfl rfl (by omega) (fun v' N' hO' => ?_)
  obtain ⟨A', cap', rfl⟩ := hO'.form
  skip
  refine Q09 trivial rfl rfl rfl (fun w hk hs => Q9o w _ _ _ _ (hO'.rd.at hk hs (by (repeat' first | exact HSub.nil _ | exact HSub.hd | exact Q03 | exact HSub.refl _ | refine HSub.skip ?_ | refine Q01 ?_))) (by omega)) fun w v w' _ _ _ hR => ?_
  obtain ⟨q, hq, rfl, hnq⟩ := hR
  have hR1 := hO'.hd hq
  rw [← hnq] at hR1
  have hz1 : Dig B16 (nrm ([x] ++ rs)) := Q2n fun y hy2 => by
   rcases List.mem_append.1 hy2 with h | h
   ·rw [List.mem_singleton.1 h]; exact hxi
   ·exact hzr.lt y h
  have hv1 : val B16 (nrm ([x] ++ rs)) = x + 65536 * val B16 rs := by rw [Q1o]; rfl
  have hq1 := hR1.len
  generalize nrm ([x] ++ rs) = r1 at hR1 hz1 hv1 hq1
  have hbig : val B16 r1 < val B16 ys * 65536 := by omega
  clear hnq
  (repeat' (first | refine JC.seq ?_ | refine JC.ops ?_ | refine JO.nil ?_ | refine Q00 ?_ | (apply Q04; (iterate 3 exact rfl)) | (apply Q02; (iterate 3 exact rfl))))
  refine Q09 trivial rfl rfl rfl (fun w hk hs => Q6j w _ _ _ _ r1 ys (hR1.rd.at hk hs (by (repeat' first | exact HSub.nil _ | exact HSub.hd | exact Q03 | exact HSub.refl _ | refine HSub.skip ?_ | refine Q01 ?_))) (hu.mono hk) hz1 hy (by omega) (by omega)) fun w v w' _ _ _ hR => ?_
  subst hR
  by_cases hcmp : val B16 r1 < val B16 ys
  ·have hc0 := Q2u.2 hcmp
   (repeat' (first | refine JC.seq ?_ | refine JC.ops ?_ | refine JO.nil ?_ | refine Q00 ?_ | (apply Q02; (iterate 3 exact rfl)) | (apply Q0m; (iterate 4 exact rfl); all_goals intro hc; all_goals try (exfalso; omega)) | refine Q08 rfl ?_ | refine JC.block ?_))
   refine Q0k (ι := Nat × Nat) ⟨fun z => [(10, nv z.2), (9, nv z.1), (8, nv i), (7, .slice A' q cap'), (6, .slice (some ⟨b5, 0, none⟩) n n), (0, v), (1, u)], fun _ => N' ++ (Nq ++ []),
    fun z => z.1 < z.2 ∧ z.2 ≤ 65536 ∧ val B16 ys * z.1 ≤ val B16 r1 ∧ val B16 r1 < val B16 ys * z.2, fun z => z.2 - z.1⟩ (0, 1) ⟨by decide, by decide, by rw [Nat.mul_zero]; exact Nat.zero_le _, by rw [Nat.mul_one]; exact hcmp⟩ (by repeat first | exact trivial | refine ⟨rfl, ?_⟩) (by (repeat' first | exact HSub.refl _ | exact HSub.nil _ | refine HSub.at 0 rfl ?_ | refine HSub.at 1 rfl ?_ | refine HSub.at 2 rfl ?_ | refine HSub.at 3 rfl ?_ | refine HSub.at 4 rfl ?_ | refine HSub.at 5 rfl ?_ | refine HSub.at 6 rfl ?_ | refine HSub.at 7 rfl ?_ | refine HSub.at 8 rfl ?_ | refine HSub.at 9 rfl ?_ | refine HSub.at 10 rfl ?_ | refine HSub.at 11 rfl ?_ | refine HSub.at 12 rfl ?_ | refine HSub.at 13 rfl ?_ | refine HSub.at 14 rfl ?_ | refine HSub.at 15 rfl ?_ | refine HSub.at 16 rfl ?_ | refine HSub.at 17 rfl ?_ | refine HSub.at 18 rfl ?_ | refine HSub.at 19 rfl ?_ | refine Q0l ?_ | refine HSub.skip ?_ | refine Q01 ?_)) (fun z hz => ?_)
   obtain ⟨low, high⟩ := z
   obtain ⟨hlh, hhb, hlow, hhigh⟩ := hz
   dsimp only at hlh hhb hlow hhigh ⊢
   by_cases hgo : 1 < high - low
   ·(repeat' (first | refine JC.seq ?_ | refine JC.ops ?_ | refine JO.nil ?_ | refine Q00 ?_ | (apply Q04; (iterate 3 exact rfl)) | (apply Q02; (iterate 3 exact rfl)) | (apply Q4v (j := 2); (iterate 4 exact rfl); omega) | (apply Q1a; (iterate 4 exact rfl); omega) | (apply Q4r; (iterate 4 exact rfl); omega) | (apply Q1l; (iterate 4 exact rfl); all_goals intro hc; all_goals try (exfalso; omega)) | refine JC.skip ?_ | refine Q08 rfl ?_ | refine JC.block ?_))
    have hmb : (low + high) / 2 < 65536 := by omega
    refine Q0h (A := []) rfl trivial rfl rfl rfl (fun w hk hs => c_by w _ _ ys ((low + high) / 2) (hu.mono hk) hy.lt (by omega) hmb) fun w v w' _ _ _ hR => ?_
    obtain ⟨N3, zs3, hN3, hO3, hz3, hval3, hl3⟩ := hR
    refine ⟨N3, hN3, ?_⟩
    (repeat' (first | (apply Q04; (iterate 3 exact rfl))))
    refine Q09 trivial rfl rfl rfl (fun w hk hs => Q6j w _ _ _ _ zs3 r1 (hO3.rd.at hk hs (by (repeat' first | exact HSub.nil _ | exact HSub.hd | exact Q03 | exact HSub.refl _ | refine HSub.skip ?_ | refine Q01 ?_))) (hR1.rd.at hk hs (by (repeat' first | exact HSub.nil _ | exact HSub.hd | exact Q03 | exact HSub.refl _ | refine HSub.skip ?_ | refine Q01 ?_))) hz3 hz1 (by omega) (by omega)) fun w v w' _ _ _ hR => ?_
    subst hR
    by_cases hle : val B16 zs3 ≤ val B16 r1
    ·have hc9 := Qaw.2 hle
     (repeat' (first | refine JC.ops ?_ | refine JO.nil ?_ | refine Q00 ?_ | (apply Q04; (iterate 3 exact rfl)) | (apply Q02; (iterate 3 exact rfl)) | (apply Qab; (iterate 4 exact rfl); all_goals intro hc; all_goals try (exfalso; omega)) | refine Q08 rfl ?_ | refine Q0b ?_))
     refine Q0c ((low + high) / 2, high) ⟨by dsimp only; omega, hhb, by rw [← hval3]; exact hle, hhigh⟩ (by dsimp only; omega) (by repeat first | exact trivial | refine ⟨rfl, ?_⟩) (by (repeat' first | exact HSub.refl _ | exact HSub.nil _ | refine HSub.at 0 rfl ?_ | refine HSub.at 1 rfl ?_ | refine HSub.at 2 rfl ?_ | refine HSub.at 3 rfl ?_ | refine HSub.at 4 rfl ?_ | refine HSub.at 5 rfl ?_ | refine HSub.at 6 rfl ?_ | refine HSub.at 7 rfl ?_ | refine HSub.at 8 rfl ?_ | refine HSub.at 9 rfl ?_ | refine HSub.at 10 rfl ?_ | refine HSub.at 11 rfl ?_ | refine HSub.at 12 rfl ?_ | refine HSub.at 13 rfl ?_ | refine HSub.at 14 rfl ?_ | refine HSub.at 15 rfl ?_ | refine HSub.at 16 rfl ?_ | refine HSub.at 17 rfl ?_ | refine HSub.at 18 rfl ?_ | refine HSub.at 19 rfl ?_ | refine Q0l ?_ | refine HSub.skip ?_ | refine Q01 ?_))
    ·have hc9 : ¬ cmpV (val B16 zs3) (val B16 r1) ≤ 0 := fun h => hle (Qaw.1 h)
     (repeat' (first | refine JC.ops ?_ | refine JO.nil ?_ | refine Q00 ?_ | (apply Q04; (iterate 3 exact rfl)) | (apply Q02; (iterate 3 exact rfl)) | (apply Qab; (iterate 4 exact rfl); all_goals intro hc; all_goals try (exfalso; omega)) | refine Q07 rfl ?_ | refine Q0b ?_))
     refine Q0c (low, (low + high) / 2) ⟨by dsimp only; omega, by dsimp only; omega, hlow, by dsimp only; rw [← hval3]; omega⟩ (by dsimp only; omega) (by repeat first | exact trivial | refine ⟨rfl, ?_⟩) (by (repeat' first | exact HSub.refl _ | exact HSub.nil _ | refine HSub.at 0 rfl ?_ | refine HSub.at 1 rfl ?_ | refine HSub.at 2 rfl ?_ | refine HSub.at 3 rfl ?_ | refine HSub.at 4 rfl ?_ | refine HSub.at 5 rfl ?_ | refine HSub.at 6 rfl ?_ | refine HSub.at 7 rfl ?_ | refine HSub.at 8 rfl ?_ | refine HSub.at 9 rfl ?_ | refine HSub.at 10 rfl ?_ | refine HSub.at 11 rfl ?_ | refine HSub.at 12 rfl ?_ | refine HSub.at 13 rfl ?_ | refine HSub.at 14 rfl ?_ | refine HSub.at 15 rfl ?_ | refine HSub.at 16 rfl ?_ | refine HSub.at 17 rfl ?_ | refine HSub.at 18 rfl ?_ | refine HSub.at 19 rfl ?_ | refine Q0l ?_ | refine HSub.skip ?_ | refine Q01 ?_))
   ·(repeat' (first | refine JC.seq ?_ | refine JC.ops ?_ | refine JO.nil ?_ | refine Q00 ?_ | (apply Q04; (iterate 3 exact rfl)) | (apply Q26; (iterate 4 exact rfl); (first | assumption | exact WN.rd (by assumption) rfl [] | exact OwnN.rd (by assumption)); (first | assumption | omega)) | (apply Q4r; (iterate 4 exact rfl); omega) | (apply Q1l; (iterate 4 exact rfl); all_goals intro hc; all_goals try (exfalso; omega)) | refine Q0i ?_ | refine JC.exit ?_ | refine Q07 rfl ?_ | refine Q0f ?_))
    refine Qic (A := N') hOq rfl rfl trivial rfl rfl (by omega) (fun Nq' hOq' => ?_)
    (repeat' (first | refine JC.ops ?_ | refine JO.nil ?_ | refine Q00 ?_ | (apply Q04; (iterate 3 exact rfl))))
    refine Q0h (A := []) rfl trivial rfl rfl rfl (fun w hk hs => c_by w _ _ ys low (hu.mono hk) hy.lt (by omega) (by show low < 65536; omega)) fun w v w' _ _ _ hR => ?_
    obtain ⟨N4, zs4, hN4, hO4, hz4, hval4, hl4⟩ := hR
    refine ⟨N4, hN4, ?_⟩
    skip
    have hle4 : val B16 zs4 ≤ val B16 r1 := by rw [hval4]; exact hlow
    have hll4 := Q6c hz4 hz1 hle4
    refine Q0h (A := []) rfl trivial rfl rfl rfl (fun w hk hs => Q8l w _ _ _ _ r1 zs4 (hR1.rd.at hk hs (by (repeat' first | exact HSub.nil _ | exact HSub.hd | exact Q03 | exact HSub.refl _ | refine HSub.skip ?_ | refine Q01 ?_))) (hO4.rd.at hk hs (by (repeat' first | exact HSub.nil _ | exact HSub.hd | exact Q03 | exact HSub.refl _ | refine HSub.skip ?_ | refine Q01 ?_))) hz1.lt hz4.lt (by omega) (by omega) hle4) fun w v w' _ _ _ hR => ?_
    obtain ⟨N5, zs5, hN5, hO5, hz5, hval5⟩ := hR
    refine ⟨N5, hN5, ?_⟩
    have hhl : high = low + 1 := by omega
    subst hhl
    rw [Nat.mul_add, Nat.mul_one] at hhigh
    (repeat' (first | refine JC.ops ?_ | refine JO.nil ?_ | refine Q00 ?_ | (apply Q04; (iterate 3 exact rfl)) | (apply Q02; (iterate 3 exact rfl)) | (apply Q3b; (iterate 4 exact rfl); omega) | refine Q0b ?_))
    refine Q0c (i, _, N5, zs5, Nq', qs.set i low) ⟨by dsimp only; omega, hO5, hz5, hOq', Q2x hzq (by show low < 65536; omega), by dsimp only; omega, ?_⟩ (by dsimp only; omega) (by repeat first | exact trivial | refine ⟨rfl, ?_⟩) (by (repeat' first | exact HSub.refl _ | exact HSub.nil _ | refine HSub.at 0 rfl ?_ | refine HSub.at 1 rfl ?_ | refine HSub.at 2 rfl ?_ | refine HSub.at 3 rfl ?_ | refine HSub.at 4 rfl ?_ | refine HSub.at 5 rfl ?_ | refine HSub.at 6 rfl ?_ | refine HSub.at 7 rfl ?_ | refine HSub.at 8 rfl ?_ | refine HSub.at 9 rfl ?_ | refine HSub.at 10 rfl ?_ | refine HSub.at 11 rfl ?_ | refine HSub.at 12 rfl ?_ | refine HSub.at 13 rfl ?_ | refine HSub.at 14 rfl ?_ | refine HSub.at 15 rfl ?_ | refine HSub.at 16 rfl ?_ | refine HSub.at 17 rfl ?_ | refine HSub.at 18 rfl ?_ | refine HSub.at 19 rfl ?_ | refine Q0l ?_ | refine HSub.skip ?_ | refine Q01 ?_))
    dsimp only
    rw [hxv, Q1g (l := qs.set i low) (show i < (qs.set i low).length by simp; omega), Q0y (by omega), Q4m, hval5, hval4]
    exact Q9g hv1 hval hlow
  ·have hc0 : ¬ cmpV (val B16 r1) (val B16 ys) < 0 := fun h => hcmp (Q2u.1 h)
   (repeat' (first | refine JC.seq ?_ | refine JO.nil ?_ | refine Q00 ?_ | (apply Q0m; (iterate 4 exact rfl); all_goals intro hc; all_goals try (exfalso; omega)) | refine JC.skip ?_ | refine Q07 rfl ?_ | refine JC.block ?_))
   refine Q0k (ι := Nat × Nat) ⟨fun z => [(10, nv z.2), (9, nv z.1), (8, nv i), (7, .slice A' q cap'), (6, .slice (some ⟨b5, 0, none⟩) n n), (0, v), (1, u)], fun _ => N' ++ (Nq ++ []),
    fun z => z.1 < z.2 ∧ z.2 ≤ 65536 ∧ val B16 ys * z.1 ≤ val B16 r1 ∧ val B16 r1 < val B16 ys * z.2, fun z => z.2 - z.1⟩ (0, 65536) ⟨by decide, by decide, by rw [Nat.mul_zero]; exact Nat.zero_le _, hbig⟩ (by repeat first | exact trivial | refine ⟨rfl, ?_⟩) (by (repeat' first | exact HSub.refl _ | exact HSub.nil _ | refine HSub.at 0 rfl ?_ | refine HSub.at 1 rfl ?_ | refine HSub.at 2 rfl ?_ | refine HSub.at 3 rfl ?_ | refine HSub.at 4 rfl ?_ | refine HSub.at 5 rfl ?_ | refine HSub.at 6 rfl ?_ | refine HSub.at 7 rfl ?_ | refine HSub.at 8 rfl ?_ | refine HSub.at 9 rfl ?_ | refine HSub.at 10 rfl ?_ | refine HSub.at 11 rfl ?_ | refine HSub.at 12 rfl ?_ | refine HSub.at 13 rfl ?_ | refine HSub.at 14 rfl ?_ | refine HSub.at 15 rfl ?_ | refine HSub.at 16 rfl ?_ | refine HSub.at 17 rfl ?_ | refine HSub.at 18 rfl ?_ | refine HSub.at 19 rfl ?_ | refine Q0l ?_ | refine HSub.skip ?_ | refine Q01 ?_)) (fun z hz => ?_)
   obtain ⟨low, high⟩ := z
   obtain ⟨hlh, hhb, hlow, hhigh⟩ := hz
   dsimp only at hlh hhb hlow hhigh ⊢
   by_cases hgo : 1 < high - low
   ·(repeat' (first | refine JC.seq ?_ | refine JC.ops ?_ | refine JO.nil ?_ | refine Q00 ?_ | (apply Q04; (iterate 3 exact rfl)) | (apply Q02; (iterate 3 exact rfl)) | (apply Q4v (j := 2); (iterate 4 exact rfl); omega) | (apply Q1a; (iterate 4 exact rfl); omega) | (apply Q4r; (iterate 4 exact rfl); omega) | (apply Q1l; (iterate 4 exact rfl); all_goals intro hc; all_goals try (exfalso; omega)) | refine JC.skip ?_ | refine Q08 rfl ?_ | refine JC.block ?_))
    have hmb : (low + high) / 2 < 65536 := by omega
    refine Q0h (A := []) rfl trivial rfl rfl rfl (fun w hk hs => c_by w _ _ ys ((low + high) / 2) (hu.mono hk) hy.lt (by omega) hmb) fun w v w' _ _ _ hR => ?_
    obtain ⟨N3, zs3, hN3, hO3, hz3, hval3, hl3⟩ := hR
    refine ⟨N3, hN3, ?_⟩
    (repeat' (first | (apply Q04; (iterate 3 exact rfl))))
    refine Q09 trivial rfl rfl rfl (fun w hk hs => Q6j w _ _ _ _ zs3 r1 (hO3.rd.at hk hs (by (repeat' first | exact HSub.nil _ | exact HSub.hd | exact Q03 | exact HSub.refl _ | refine HSub.skip ?_ | refine Q01 ?_))) (hR1.rd.at hk hs (by (repeat' first | exact HSub.nil _ | exact HSub.hd | exact Q03 | exact HSub.refl _ | refine HSub.skip ?_ | refine Q01 ?_))) hz3 hz1 (by omega) (by omega)) fun w v w' _ _ _ hR => ?_
    subst hR
    by_cases hle : val B16 zs3 ≤ val B16 r1
    ·have hc9 := Qaw.2 hle
     (repeat' (first | refine JC.ops ?_ | refine JO.nil ?_ | refine Q00 ?_ | (apply Q04; (iterate 3 exact rfl)) | (apply Q02; (iterate 3 exact rfl)) | (apply Qab; (iterate 4 exact rfl); all_goals intro hc; all_goals try (exfalso; omega)) | refine Q08 rfl ?_ | refine Q0b ?_))
     refine Q0c ((low + high) / 2, high) ⟨by dsimp only; omega, hhb, by rw [← hval3]; exact hle, hhigh⟩ (by dsimp only; omega) (by repeat first | exact trivial | refine ⟨rfl, ?_⟩) (by (repeat' first | exact HSub.refl _ | exact HSub.nil _ | refine HSub.at 0 rfl ?_ | refine HSub.at 1 rfl ?_ | refine HSub.at 2 rfl ?_ | refine HSub.at 3 rfl ?_ | refine HSub.at 4 rfl ?_ | refine HSub.at 5 rfl ?_ | refine HSub.at 6 rfl ?_ | refine HSub.at 7 rfl ?_ | refine HSub.at 8 rfl ?_ | refine HSub.at 9 rfl ?_ | refine HSub.at 10 rfl ?_ | refine HSub.at 11 rfl ?_ | refine HSub.at 12 rfl ?_ | refine HSub.at 13 rfl ?_ | refine HSub.at 14 rfl ?_ | refine HSub.at 15 rfl ?_ | refine HSub.at 16 rfl ?_ | refine HSub.at 17 rfl ?_ | refine HSub.at 18 rfl ?_ | refine HSub.at 19 rfl ?_ | refine Q0l ?_ | refine HSub.skip ?_ | refine Q01 ?_))
    ·have hc9 : ¬ cmpV (val B16 zs3) (val B16 r1) ≤ 0 := fun h => hle (Qaw.1 h)
     (repeat' (first | refine JC.ops ?_ | refine JO.nil ?_ | refine Q00 ?_ | (apply Q04; (iterate 3 exact rfl)) | (apply Q02; (iterate 3 exact rfl)) | (apply Qab; (iterate 4 exact rfl); all_goals intro hc; all_goals try (exfalso; omega)) | refine Q07 rfl ?_ | refine Q0b ?_))
     refine Q0c (low, (low + high) / 2) ⟨by dsimp only; omega, by dsimp only; omega, hlow, by dsimp only; rw [← hval3]; omega⟩ (by dsimp only; omega) (by repeat first | exact trivial | refine ⟨rfl, ?_⟩) (by (repeat' first | exact HSub.refl _ | exact HSub.nil _ | refine HSub.at 0 rfl ?_ | refine HSub.at 1 rfl ?_ | refine HSub.at 2 rfl ?_ | refine HSub.at 3 rfl ?_ | refine HSub.at 4 rfl ?_ | refine HSub.at 5 rfl ?_ | refine HSub.at 6 rfl ?_ | refine HSub.at 7 rfl ?_ | refine HSub.at 8 rfl ?_ | refine HSub.at 9 rfl ?_ | refine HSub.at 10 rfl ?_ | refine HSub.at 11 rfl ?_ | refine HSub.at 12 rfl ?_ | refine HSub.at 13 rfl ?_ | refine HSub.at 14 rfl ?_ | refine HSub.at 15 rfl ?_ | refine HSub.at 16 rfl ?_ | refine HSub.at 17 rfl ?_ | refine HSub.at 18 rfl ?_ | refine HSub.at 19 rfl ?_ | refine Q0l ?_ | refine HSub.skip ?_ | refine Q01 ?_))
   ·(repeat' (first | refine JC.seq ?_ | refine JC.ops ?_ | refine JO.nil ?_ | refine Q00 ?_ | (apply Q04; (iterate 3 exact rfl)) | (apply Q26; (iterate 4 exact rfl); (first | assumption | exact WN.rd (by assumption) rfl [] | exact OwnN.rd (by assumption)); (first | assumption | omega)) | (apply Q4r; (iterate 4 exact rfl); omega) | (apply Q1l; (iterate 4 exact rfl); all_goals intro hc; all_goals try (exfalso; omega)) | refine Q0i ?_ | refine JC.exit ?_ | refine Q07 rfl ?_ | refine Q0f ?_))
    refine Qic (A := N') hOq rfl rfl trivial rfl rfl (by omega) (fun Nq' hOq' => ?_)
    (repeat' (first | refine JC.ops ?_ | refine JO.nil ?_ | refine Q00 ?_ | (apply Q04; (iterate 3 exact rfl))))
    refine Q0h (A := []) rfl trivial rfl rfl rfl (fun w hk hs => c_by w _ _ ys low (hu.mono hk) hy.lt (by omega) (by show low < 65536; omega)) fun w v w' _ _ _ hR => ?_
    obtain ⟨N4, zs4, hN4, hO4, hz4, hval4, hl4⟩ := hR
    refine ⟨N4, hN4, ?_⟩
    skip
    have hle4 : val B16 zs4 ≤ val B16 r1 := by rw [hval4]; exact hlow
    have hll4 := Q6c hz4 hz1 hle4
    refine Q0h (A := []) rfl trivial rfl rfl rfl (fun w hk hs => Q8l w _ _ _ _ r1 zs4 (hR1.rd.at hk hs (by (repeat' first | exact HSub.nil _ | exact HSub.hd | exact Q03 | exact HSub.refl _ | refine HSub.skip ?_ | refine Q01 ?_))) (hO4.rd.at hk hs (by (repeat' first | exact HSub.nil _ | exact HSub.hd | exact Q03 | exact HSub.refl _ | refine HSub.skip ?_ | refine Q01 ?_))) hz1.lt hz4.lt (by omega) (by omega) hle4) fun w v w' _ _ _ hR => ?_
    obtain ⟨N5, zs5, hN5, hO5, hz5, hval5⟩ := hR
    refine ⟨N5, hN5, ?_⟩
    have hhl : high = low + 1 := by omega
    subst hhl
    rw [Nat.mul_add, Nat.mul_one] at hhigh
    (repeat' (first | refine JC.ops ?_ | refine JO.nil ?_ | refine Q00 ?_ | (apply Q04; (iterate 3 exact rfl)) | (apply Q02; (iterate 3 exact rfl)) | (apply Q3b; (iterate 4 exact rfl); omega) | refine Q0b ?_))
    refine Q0c (i, _, N5, zs5, Nq', qs.set i low) ⟨by dsimp only; omega, hO5, hz5, hOq', Q2x hzq (by show low < 65536; omega), by dsimp only; omega, ?_⟩ (by dsimp only; omega) (by repeat first | exact trivial | refine ⟨rfl, ?_⟩) (by (repeat' first | exact HSub.refl _ | exact HSub.nil _ | refine HSub.at 0 rfl ?_ | refine HSub.at 1 rfl ?_ | refine HSub.at 2 rfl ?_ | refine HSub.at 3 rfl ?_ | refine HSub.at 4 rfl ?_ | refine HSub.at 5 rfl ?_ | refine HSub.at 6 rfl ?_ | refine HSub.at 7 rfl ?_ | refine HSub.at 8 rfl ?_ | refine HSub.at 9 rfl ?_ | refine HSub.at 10 rfl ?_ | refine HSub.at 11 rfl ?_ | refine HSub.at 12 rfl ?_ | refine HSub.at 13 rfl ?_ | refine HSub.at 14 rfl ?_ | refine HSub.at 15 rfl ?_ | refine HSub.at 16 rfl ?_ | refine HSub.at 17 rfl ?_ | refine HSub.at 18 rfl ?_ | refine HSub.at 19 rfl ?_ | refine Q0l ?_ | refine HSub.skip ?_ | refine Q01 ?_))
    dsimp only
    rw [hxv, Q1g (l := qs.set i low) (show i < (qs.set i low).length by simp; omega), Q0y (by omega), Q4m, hval5, hval4]
    exact Q9g hv1 hval hlow


theorem WN.hd {w : World} {A : Option Addr} {n k cap : Nat} {xs : List Nat} (hv : WN w (.slice A n cap) n xs) (hk : k ≤ n) : WN w (.slice A k cap) k (xs.take k) := by
 have hl := hv.len
 obtain ⟨h1, A', cap', h2, h3, h4⟩ := hv
 simp only [Value.slice.injEq] at h2
 obtain ⟨rfl, _, rfl⟩ := h2
 refine ⟨by simp; omega, A, cap, rfl, by omega, fun h0 => ⟨(h4 (by omega)).1, fun j u hu => ?_⟩⟩
 obtain ⟨⟨b, o, rfl⟩, h5⟩ := h4 (by omega)
 refine h5 j u ?_
 rw [List.map_take, List.getElem?_take] at hu
 split at hu
 ·exact hu
 ·cases hu
theorem lead {p : Bool} {l : List UInt8} {V : Nat} (h1 : (bts l).getD 0 0 ≠ 0) (h2 : bval (bts l) = V) : wv p l = Wv (sgn p V) := by
 have hl : l.dropWhile (· == 0) = l := by
  cases l with
  | nil => rfl
  | cons a l =>
   have : (a == 0) = false := by
    simp only [beq_eq_false_iff_ne]
    intro e
    subst e
    exact h1 rfl
   rw [List.dropWhile, this]
 have hm := Qam (l := l)
 rw [hl, h2] at hm
 rw [Qhk, ← hm]
 have hne : l ≠ [] := fun e => by subst e; exact h1 rfl
 rw [decide_eq_true hne, Bool.and_true]

theorem Q9j {l : List Nat} {x : Nat} (h : l.getD 0 0 ≠ 0) : (l ++ [x]).getD 0 0 ≠ 0 := by
 cases l with
 | nil => exact absurd rfl h
 | cons a l => exact h
theorem Qmw {l : List Nat} {i : Nat} (h : nrm l = l) (hi : l.length = i + 1) : l.getD i 0 ≠ 0 := by
 intro h0
 have e : l = l.take i ++ [0] := by
  conv => lhs; rw [← List.take_append_drop i l, List.drop_eq_getElem_cons (show i < l.length by omega), List.drop_eq_nil_of_le (by omega)]
  rw [List.getD, List.getElem?_eq_getElem (show i < l.length by omega)] at h0
  rw [show l[i]'(by omega) = 0 from h0]
 have h2 := congrArg List.length h
 rw [e, Q8a] at h2
 have h3 : ∀ r : List Nat, (nrm r).length ≤ r.length := fun r => by
  induction r with
  | nil => exact Nat.le_refl _
  | cons x r ih =>
   rw [nrm]
   cases hn : nrm r with
   | nil => by_cases hx : x = 0 <;> simp [hx]
   | cons y s => rw [hn] at ih; simp at ih ⊢; exact ih
 have h4 := h3 (l.take i)
 simp at h2 h4
 omega

set_option maxHeartbeats 8000000 in
theorem Q2r (w : World) (v : Value) (n : Nat) (xs : List Nat) (p : Bool) (hv : WN w v n xs) (hx : ∀ x ∈ xs, x < B16) (hn : n ≤ 1000000000) :
  Calls Tryz.prog 62 #[.bool p, v] w (Ret fun r w' => Kp [] w w' ∧ r = Wv (sgn p (val B16 xs))) := by
 obtain ⟨A, cap, rfl⟩ := hv.form
 refine Q0a [⟨11, 0, [], [(2, .seq)]⟩] [] (by simp) [] Tryz.func62 rfl mixed (by kernel_rfl) Tryz.ntmps62 Tryz.results62 rfl ⟨by simp, by simp⟩ (by simp) ?_
 simp only [toS, textOps, toSOp, kindAt, kindOf, odAt, sopsAt, ordOf, zipF]
 (repeat' (first | refine JC.seq ?_ | refine JC.ops ?_ | refine JO.nil ?_ | refine Q00 ?_ | (apply Q04; (iterate 3 exact rfl)) | (apply Q0e; (iterate 3 exact rfl); intro _)))
 rename_i b4
 refine Q09 trivial rfl rfl rfl (fun w hk hs => Q9o w _ _ _ _ (hv.mono hk) (by omega)) fun w v w' _ _ _ hR => ?_
 obtain ⟨k, hkn, rfl, hnk⟩ := hR
 have hvk := hv.hd hkn
 rw [← hnk] at hvk
 have hlk : (nrm xs).length = k := hvk.len
 have hval0 : val B16 xs = val B16 (nrm xs) := (Q1o _ _).symm
 have hxl : ∀ x ∈ nrm xs, x < B16 := fun x h => hx x (Q8b x h)
 have hnn := Qgg xs
 rw [hval0]
 generalize nrm xs = zs at hvk hlk hxl hnn
 by_cases hk0 : k = 0
 ·(repeat' (first | refine JC.seq ?_ | refine JC.ops ?_ | refine JO.nil ?_ | refine Q00 ?_ | (apply Q04; (iterate 3 exact rfl)) | (apply Q02; (iterate 3 exact rfl)) | (apply Q4w; (iterate 3 exact rfl)) | (apply Q05; exact rfl; (first | exact trivial | exact ⟨rfl, rfl⟩); exact rfl; exact rfl; exact at0; (iterate 3 exact rfl)) | (apply Q2f; (iterate 4 exact rfl); all_goals intro hc; all_goals try (exfalso; omega)) | (apply Q11; (iterate 5 exact rfl)) | (apply Q05; exact rfl; (first | exact trivial | exact ⟨rfl, rfl⟩); exact rfl; exact rfl; exact at0; (iterate 3 exact rfl)) | refine Q0o ?_ | refine JC.ret ?_ | refine Q08 rfl ?_))
  obtain rfl : zs = [] := List.eq_nil_of_length_eq_zero (by omega)
  exact Q0z 0 rfl rfl rfl (fun a w' st => ⟨st.kp, by rw [show val B16 [] = 0 from rfl, Q5a]; rfl⟩)
 ·(repeat' (first | refine JC.seq ?_ | refine JC.ops ?_ | refine JO.nil ?_ | refine Q00 ?_ | (apply Q04; (iterate 3 exact rfl)) | (apply Q02; (iterate 3 exact rfl)) | (apply Q4w; (iterate 3 exact rfl)) | (apply Q2m; (iterate 4 exact rfl); omega) | (apply Q2f; (iterate 4 exact rfl); all_goals intro hc; all_goals try (exfalso; omega)) | refine JC.skip ?_ | refine Q07 rfl ?_ | refine JC.block ?_))
  have e0 : Value.int .i64 ((k - 1 : Nat) : Int) = iv ((k : Int) - 1) := by
   show iv _ = iv _
   congr 1
   omega
  rw [e0]
  refine Q0k (ι := Nat × Value × SHeap × List Nat) ⟨fun z => [(6, iv ((z.1 : Int) - 1)), (5, z.2.1), (4, .pointer (some ⟨b4, 0, none⟩)), (1, .slice A k cap), (0, .bool p)], fun z => (b4, .cells #[.bool false, .string ⟨#[]⟩] 34) :: (z.2.2.1 ++ []),
   fun z => z.1 ≤ k ∧ OwnY z.2.2.1 z.2.1 z.2.2.2.length z.2.2.2 ∧ (∀ x ∈ z.2.2.2, x < 256) ∧ z.2.2.2.length ≤ 2 * (k - z.1) ∧ bval z.2.2.2 = val B16 (zs.drop z.1) ∧ (z.1 < k → z.2.2.2.getD 0 0 ≠ 0) ∧ (z.1 = k → z.2.2.2 = []), fun z => z.1⟩
   (k, _, [], []) ⟨Nat.le_refl _, OwnY.nil, fun _ h => absurd h List.not_mem_nil, by simp, by dsimp only; rw [Q1d (by omega)]; rfl, fun h => absurd h (Nat.lt_irrefl _), fun _ => rfl⟩ (by repeat first | exact trivial | refine ⟨rfl, ?_⟩) (by (repeat' first | exact HSub.refl _ | exact HSub.nil _ | refine HSub.at 0 rfl ?_ | refine HSub.at 1 rfl ?_ | refine HSub.at 2 rfl ?_ | refine HSub.at 3 rfl ?_ | refine HSub.at 4 rfl ?_ | refine HSub.at 5 rfl ?_ | refine HSub.at 6 rfl ?_ | refine HSub.at 7 rfl ?_ | refine HSub.at 8 rfl ?_ | refine HSub.at 9 rfl ?_ | refine HSub.at 10 rfl ?_ | refine HSub.at 11 rfl ?_ | refine HSub.at 12 rfl ?_ | refine HSub.at 13 rfl ?_ | refine HSub.at 14 rfl ?_ | refine HSub.at 15 rfl ?_ | refine HSub.at 16 rfl ?_ | refine HSub.at 17 rfl ?_ | refine HSub.at 18 rfl ?_ | refine HSub.at 19 rfl ?_ | refine Q0l ?_ | refine HSub.skip ?_ | refine Q01 ?_)) (fun z hz => ?_)
  obtain ⟨m, vb, Nb, bs⟩ := z
  obtain ⟨hm, hO, hbs, hbl, hval, hhd, hnil⟩ := hz
  dsimp only at hm hO hbs hbl hval hhd hnil ⊢
  rcases m with _ | i
  ·(repeat' (first | refine JC.seq ?_ | refine JC.ops ?_ | refine JO.nil ?_ | refine Q00 ?_ | (apply Q04; (iterate 3 exact rfl)) | (apply Q2k; (iterate 4 exact rfl); all_goals intro hc; all_goals try (exfalso; omega)) | refine Q0i ?_ | refine JC.exit ?_ | refine Q07 rfl ?_ | refine Q0f ?_))
   refine Qfv hbs hO.rd (by (repeat' first | exact HSub.nil _ | exact HSub.hd | exact Q03 | exact HSub.refl _ | refine HSub.skip ?_ | refine Q01 ?_)) trivial rfl rfl rfl (fun l hl => ?_)
   (repeat' (first | refine JO.nil ?_ | refine Q00 ?_ | (apply Q05; exact rfl; (first | exact trivial | exact ⟨rfl, rfl⟩); exact rfl; exact rfl; exact at0; (iterate 3 exact rfl)) | (apply Q11; (iterate 5 exact rfl)) | (apply Q05; exact rfl; (first | exact trivial | exact ⟨rfl, rfl⟩); exact rfl; exact rfl; exact at0; (iterate 3 exact rfl)) | refine JC.ret ?_))
   rw [List.drop_zero] at hval
   have hfin := lead (p := p) (l := l) (V := val B16 zs) (by rw [hl]; exact hhd (by omega)) (by rw [hl]; exact hval)
   exact Q0z 0 rfl rfl rfl (fun a w' st => ⟨st.kp, hfin⟩)
  ·have hiv : iv (((i + 1 : Nat) : Int) - 1) = nv i := by
    show iv _ = iv _
    congr 1
    omega
   rw [hiv]
   have hxi : zs.getD i 0 < 65536 := Q0s (b := B16) (by decide) hxl i
   have hxv : val B16 (zs.drop i) = zs.getD i 0 + 65536 * val B16 (zs.drop (i + 1)) := Q1g (show i < zs.length by omega)
   by_cases h1 : i < k - 1
   ·(repeat' (first | refine JC.seq ?_ | refine JC.ops ?_ | refine JO.nil ?_ | refine Q00 ?_ | (apply Q04; (iterate 3 exact rfl)) | (apply Q26; (iterate 4 exact rfl); (first | assumption | exact WN.rd (by assumption) rfl [] | exact OwnN.rd (by assumption)); (first | assumption | omega)) | (apply Q4i; (iterate 4 exact rfl); (first | assumption | exact WN.rd (by assumption) rfl [] | exact OwnN.rd (by assumption)); (repeat' first | exact HSub.nil _ | exact HSub.hd | exact Q03 | exact HSub.refl _ | refine HSub.skip ?_ | refine Q01 ?_); (first | assumption | omega)) | (apply Q4w; (iterate 3 exact rfl)) | (apply Q4v (j := 256); (iterate 4 exact rfl); omega) | (apply Q2m; (iterate 4 exact rfl); omega) | (apply Q0n; (iterate 4 exact rfl)) | (apply Q9a; (iterate 3 exact rfl)) | (apply Q0m; (iterate 4 exact rfl); all_goals intro hc; all_goals try (exfalso; omega)) | (apply Q2k; (iterate 4 exact rfl); all_goals intro hc; all_goals try (exfalso; omega)) | (apply Q0w; (iterate 5 exact rfl); (repeat first | exact trivial | refine ⟨rfl, ?_⟩); decide; decide; intro _) | refine JC.skip ?_ | refine Q08 rfl ?_ | refine JC.block ?_ | (apply Q10; exact rfl; exact rfl; (first | (intro h; cases h; done) | (intro _; rfl)))))
    rename_i c2
    refine Q45 (A := [_, _]) hO (Q5b c2 1 [zs.getD i 0 / 256 % 256] _ rfl rfl (by decide)).rd (by (repeat' first | exact HSub.nil _ | exact HSub.hd | exact Q03 | exact HSub.refl _ | refine HSub.skip ?_ | refine Q01 ?_)) rfl trivial rfl rfl rfl rfl (by omega) (fun v1 N1 hO1 => ?_)
    (repeat' (first | refine JC.ops ?_ | refine JO.nil ?_ | refine Q00 ?_ | (apply Q04; (iterate 3 exact rfl)) | (apply Q02; (iterate 3 exact rfl)) | (apply Q26; (iterate 4 exact rfl); (first | assumption | exact WN.rd (by assumption) rfl [] | exact OwnN.rd (by assumption)); (first | assumption | omega)) | (apply Q4i; (iterate 4 exact rfl); (first | assumption | exact WN.rd (by assumption) rfl [] | exact OwnN.rd (by assumption)); (repeat' first | exact HSub.nil _ | exact HSub.hd | exact Q03 | exact HSub.refl _ | refine HSub.skip ?_ | refine Q01 ?_); (first | assumption | omega)) | (apply Q5k (j := 256); (iterate 4 exact rfl); omega) | (apply Q9a; (iterate 3 exact rfl)) | (apply Q0w; (iterate 5 exact rfl); (repeat first | exact trivial | refine ⟨rfl, ?_⟩); decide; decide; intro _)))
    rename_i c3
    refine Q45 (A := [_, _, _]) hO1 (Q5b c3 1 [zs.getD i 0 % 256 % 256] _ rfl rfl (by decide)).rd (by (repeat' first | exact HSub.nil _ | exact HSub.hd | exact Q03 | exact HSub.refl _ | refine HSub.skip ?_ | refine Q01 ?_)) rfl trivial rfl rfl rfl rfl (by omega) (fun v2 N2 hO2 => ?_)
    (repeat' (first | refine JC.ops ?_ | refine JO.nil ?_ | refine Q00 ?_ | (apply Q04; (iterate 3 exact rfl)) | (apply Q02; (iterate 3 exact rfl)) | (apply Q3b; (iterate 4 exact rfl); omega) | refine Q0b ?_))
    refine Q0c (i, v2, N2, (bs ++ [zs.getD i 0 / 256 % 256]) ++ [zs.getD i 0 % 256 % 256]) ⟨by dsimp only; omega, by simp only [List.length_append, List.length_singleton]; exact hO2, Q1z (Q1z hbs (Nat.mod_lt _ (by decide))) (Nat.mod_lt _ (by decide)), by simp only [List.length_append, List.length_singleton]; omega, ?_, fun _ => ?_, fun h => ?_⟩ (by dsimp only; omega) (by repeat first | exact trivial | refine ⟨rfl, ?_⟩) (by (repeat' first | exact HSub.refl _ | exact HSub.nil _ | refine HSub.at 0 rfl ?_ | refine HSub.at 1 rfl ?_ | refine HSub.at 2 rfl ?_ | refine HSub.at 3 rfl ?_ | refine HSub.at 4 rfl ?_ | refine HSub.at 5 rfl ?_ | refine HSub.at 6 rfl ?_ | refine HSub.at 7 rfl ?_ | refine HSub.at 8 rfl ?_ | refine HSub.at 9 rfl ?_ | refine HSub.at 10 rfl ?_ | refine HSub.at 11 rfl ?_ | refine HSub.at 12 rfl ?_ | refine HSub.at 13 rfl ?_ | refine HSub.at 14 rfl ?_ | refine HSub.at 15 rfl ?_ | refine HSub.at 16 rfl ?_ | refine HSub.at 17 rfl ?_ | refine HSub.at 18 rfl ?_ | refine HSub.at 19 rfl ?_ | refine Q0l ?_ | refine HSub.skip ?_ | refine Q01 ?_))
    ·dsimp only
     rw [Q2a, Q2a, hval, hxv]
     omega
    ·exact Q9j (Q9j (hhd (by omega)))
    ·dsimp only at h; omega
   ·have htop := Qmw hnn (i := i) (by omega)
    obtain rfl := hnil (by omega)
    by_cases h2 : 256 ≤ zs.getD i 0
    ·(repeat' (first | refine JC.seq ?_ | refine JC.ops ?_ | refine JO.nil ?_ | refine Q00 ?_ | (apply Q04; (iterate 3 exact rfl)) | (apply Q26; (iterate 4 exact rfl); (first | assumption | exact WN.rd (by assumption) rfl [] | exact OwnN.rd (by assumption)); (first | assumption | omega)) | (apply Q4i; (iterate 4 exact rfl); (first | assumption | exact WN.rd (by assumption) rfl [] | exact OwnN.rd (by assumption)); (repeat' first | exact HSub.nil _ | exact HSub.hd | exact Q03 | exact HSub.refl _ | refine HSub.skip ?_ | refine Q01 ?_); (first | assumption | omega)) | (apply Q4w; (iterate 3 exact rfl)) | (apply Q4v (j := 256); (iterate 4 exact rfl); omega) | (apply Q2m; (iterate 4 exact rfl); omega) | (apply Q0q; (iterate 4 exact rfl)) | (apply Q9a; (iterate 3 exact rfl)) | (apply Q0m; (iterate 4 exact rfl); all_goals intro hc; all_goals try (exfalso; omega)) | (apply Q2k; (iterate 4 exact rfl); all_goals intro hc; all_goals try (exfalso; omega)) | (apply Q0w; (iterate 5 exact rfl); (repeat first | exact trivial | refine ⟨rfl, ?_⟩); decide; decide; intro _) | refine JC.skip ?_ | refine Q08 rfl ?_ | refine JC.block ?_))
     rename_i c2
     refine Q45 (A := [_, _]) hO (Q5b c2 1 [zs.getD i 0 / 256 % 256] _ rfl rfl (by decide)).rd (by (repeat' first | exact HSub.nil _ | exact HSub.hd | exact Q03 | exact HSub.refl _ | refine HSub.skip ?_ | refine Q01 ?_)) rfl trivial rfl rfl rfl rfl (by omega) (fun v1 N1 hO1 => ?_)
     (repeat' (first | refine JC.ops ?_ | refine JO.nil ?_ | refine Q00 ?_ | (apply Q04; (iterate 3 exact rfl)) | (apply Q02; (iterate 3 exact rfl)) | (apply Q26; (iterate 4 exact rfl); (first | assumption | exact WN.rd (by assumption) rfl [] | exact OwnN.rd (by assumption)); (first | assumption | omega)) | (apply Q4i; (iterate 4 exact rfl); (first | assumption | exact WN.rd (by assumption) rfl [] | exact OwnN.rd (by assumption)); (repeat' first | exact HSub.nil _ | exact HSub.hd | exact Q03 | exact HSub.refl _ | refine HSub.skip ?_ | refine Q01 ?_); (first | assumption | omega)) | (apply Q5k (j := 256); (iterate 4 exact rfl); omega) | (apply Q9a; (iterate 3 exact rfl)) | (apply Q0w; (iterate 5 exact rfl); (repeat first | exact trivial | refine ⟨rfl, ?_⟩); decide; decide; intro _)))
     rename_i c3
     refine Q45 (A := [_, _, _]) hO1 (Q5b c3 1 [zs.getD i 0 % 256 % 256] _ rfl rfl (by decide)).rd (by (repeat' first | exact HSub.nil _ | exact HSub.hd | exact Q03 | exact HSub.refl _ | refine HSub.skip ?_ | refine Q01 ?_)) rfl trivial rfl rfl rfl rfl (by omega) (fun v2 N2 hO2 => ?_)
     (repeat' (first | refine JC.ops ?_ | refine JO.nil ?_ | refine Q00 ?_ | (apply Q04; (iterate 3 exact rfl)) | (apply Q02; (iterate 3 exact rfl)) | (apply Q3b; (iterate 4 exact rfl); omega) | refine Q0b ?_))
     refine Q0c (i, v2, N2, ([] ++ [zs.getD i 0 / 256 % 256]) ++ [zs.getD i 0 % 256 % 256]) ⟨by dsimp only; omega, by simp only [List.length_append, List.length_singleton]; exact hO2, Q1z (Q1z hbs (Nat.mod_lt _ (by decide))) (Nat.mod_lt _ (by decide)), by simp only [List.length_append, List.length_singleton]; omega, ?_, fun _ => ?_, fun h => ?_⟩ (by dsimp only; omega) (by repeat first | exact trivial | refine ⟨rfl, ?_⟩) (by (repeat' first | exact HSub.refl _ | exact HSub.nil _ | refine HSub.at 0 rfl ?_ | refine HSub.at 1 rfl ?_ | refine HSub.at 2 rfl ?_ | refine HSub.at 3 rfl ?_ | refine HSub.at 4 rfl ?_ | refine HSub.at 5 rfl ?_ | refine HSub.at 6 rfl ?_ | refine HSub.at 7 rfl ?_ | refine HSub.at 8 rfl ?_ | refine HSub.at 9 rfl ?_ | refine HSub.at 10 rfl ?_ | refine HSub.at 11 rfl ?_ | refine HSub.at 12 rfl ?_ | refine HSub.at 13 rfl ?_ | refine HSub.at 14 rfl ?_ | refine HSub.at 15 rfl ?_ | refine HSub.at 16 rfl ?_ | refine HSub.at 17 rfl ?_ | refine HSub.at 18 rfl ?_ | refine HSub.at 19 rfl ?_ | refine Q0l ?_ | refine HSub.skip ?_ | refine Q01 ?_))
     ·dsimp only
      rw [Q2a, Q2a, hval, hxv]
      omega
     ·show zs.getD i 0 / 256 % 256 ≠ 0; omega
     ·dsimp only at h; omega
    ·(repeat' (first | refine JC.seq ?_ | refine JC.ops ?_ | refine JO.nil ?_ | refine Q00 ?_ | (apply Q04; (iterate 3 exact rfl)) | (apply Q26; (iterate 4 exact rfl); (first | assumption | exact WN.rd (by assumption) rfl [] | exact OwnN.rd (by assumption)); (first | assumption | omega)) | (apply Q4i; (iterate 4 exact rfl); (first | assumption | exact WN.rd (by assumption) rfl [] | exact OwnN.rd (by assumption)); (repeat' first | exact HSub.nil _ | exact HSub.hd | exact Q03 | exact HSub.refl _ | refine HSub.skip ?_ | refine Q01 ?_); (first | assumption | omega)) | (apply Q4w; (iterate 3 exact rfl)) | (apply Q5k (j := 256); (iterate 4 exact rfl); omega) | (apply Q2m; (iterate 4 exact rfl); omega) | (apply Q0q; (iterate 4 exact rfl)) | (apply Q9a; (iterate 3 exact rfl)) | (apply Q0m; (iterate 4 exact rfl); all_goals intro hc; all_goals try (exfalso; omega)) | (apply Q2k; (iterate 4 exact rfl); all_goals intro hc; all_goals try (exfalso; omega)) | (apply Q0w; (iterate 5 exact rfl); (repeat first | exact trivial | refine ⟨rfl, ?_⟩); decide; decide; intro _) | refine JC.skip ?_ | refine Q08 rfl ?_ | refine Q07 rfl ?_ | refine JC.block ?_))
     rename_i c3
     refine Q45 (A := [_, _]) hO (Q5b c3 1 [zs.getD i 0 % 256 % 256] _ rfl rfl (by decide)).rd (by (repeat' first | exact HSub.nil _ | exact HSub.hd | exact Q03 | exact HSub.refl _ | refine HSub.skip ?_ | refine Q01 ?_)) rfl trivial rfl rfl rfl rfl (by omega) (fun v2 N2 hO2 => ?_)
     (repeat' (first | refine JC.ops ?_ | refine JO.nil ?_ | refine Q00 ?_ | (apply Q04; (iterate 3 exact rfl)) | (apply Q02; (iterate 3 exact rfl)) | (apply Q3b; (iterate 4 exact rfl); omega) | refine Q0b ?_))
     refine Q0c (i, v2, N2, [] ++ [zs.getD i 0 % 256 % 256]) ⟨by dsimp only; omega, by simp only [List.length_append, List.length_singleton]; exact hO2, Q1z hbs (Nat.mod_lt _ (by decide)), by simp only [List.length_append, List.length_singleton]; omega, ?_, fun _ => ?_, fun h => ?_⟩ (by dsimp only; omega) (by repeat first | exact trivial | refine ⟨rfl, ?_⟩) (by (repeat' first | exact HSub.refl _ | exact HSub.nil _ | refine HSub.at 0 rfl ?_ | refine HSub.at 1 rfl ?_ | refine HSub.at 2 rfl ?_ | refine HSub.at 3 rfl ?_ | refine HSub.at 4 rfl ?_ | refine HSub.at 5 rfl ?_ | refine HSub.at 6 rfl ?_ | refine HSub.at 7 rfl ?_ | refine HSub.at 8 rfl ?_ | refine HSub.at 9 rfl ?_ | refine HSub.at 10 rfl ?_ | refine HSub.at 11 rfl ?_ | refine HSub.at 12 rfl ?_ | refine HSub.at 13 rfl ?_ | refine HSub.at 14 rfl ?_ | refine HSub.at 15 rfl ?_ | refine HSub.at 16 rfl ?_ | refine HSub.at 17 rfl ?_ | refine HSub.at 18 rfl ?_ | refine HSub.at 19 rfl ?_ | refine Q0l ?_ | refine HSub.skip ?_ | refine Q01 ?_))
     ·dsimp only
      rw [Q5f] at hval
      rw [Q2a, Q5f, hxv]
      omega
     ·show zs.getD i 0 % 256 % 256 ≠ 0; omega
     ·dsimp only at h; omega


theorem Q2o {zs : List Nat} {l : List UInt8} {k : Nat} (hz : Dig B16 zs) (hv : val B16 zs = bval (bts l)) (hl : l.length ≤ k) : zs.length ≤ k := by
 refine hz.len_le (by decide) ?_
 rw [hv]
 exact Nat.lt_of_lt_of_le (Q17 hl) (Nat.pow_le_pow_left (by decide) k)

set_option maxHeartbeats 2000000 in
theorem Qha (w : World) (v : Value) (a : Int) (k : Nat) (hv : IsZ v a k) (hk : k ≤ 100000000) :
  Calls Tryz.prog 41 #[v] w (Ret fun r w' => Kp [] w w' ∧ r = Wv (-a)) := by
 obtain ⟨p, l, rfl, hl1, rfl⟩ := hv
 refine Q0a [⟨1, 1, [], []⟩] [] (by simp) [] Tryz.func41 rfl mixed (by kernel_rfl) Tryz.ntmps41 Tryz.results41 rfl ⟨by simp, by simp⟩ (by simp) ?_
 simp only [toS, textOps, toSOp, kindAt, kindOf, odAt, sopsAt, ordOf, zipF]
 (repeat' (first | refine JC.seq ?_ | refine JC.ops ?_ | refine JC.opsD ?_ | refine JO.nil ?_ | refine Q00 ?_ | (apply Q06; (iterate 3 exact rfl)) | (apply Q0g; (iterate 4 exact rfl); exact at1; exact rfl) | (apply Q0d; (iterate 4 exact rfl); exact at1; exact rfl) | (apply Q1e; (iterate 3 exact rfl)) | (apply Q0e; (iterate 3 exact rfl); intro _) | (apply Q0x; (iterate 4 exact rfl); intro _)))
 refine Q0h (A := [_, _]) rfl trivial rfl rfl rfl (fun w hk hs => Q3t w p l (by omega)) fun w v w' _ _ _ hR => ?_
 obtain ⟨N1, zs1, hN1, hO1, hz1, hval1⟩ := hR
 refine ⟨N1, hN1, ?_⟩
 have hzl1 := Q2o hz1 hval1 hl1
 skip
 refine Q09 trivial rfl rfl rfl (fun w hk hs => Q2r w _ _ zs1 (!p) (hO1.rd.at hk hs (by (repeat' first | exact HSub.nil _ | exact HSub.hd | exact Q03 | exact HSub.refl _ | refine HSub.skip ?_ | refine Q01 ?_))) hz1.lt (by omega)) fun w v w' _ _ _ hR => ?_
 subst hR
 (repeat' (first | refine JO.nil ?_ | refine Q00 ?_ | (apply Q05; exact rfl; (first | exact trivial | exact ⟨rfl, rfl⟩); exact rfl; exact rfl; exact at0; (iterate 3 exact rfl)) | (apply Q05; exact rfl; (first | exact trivial | exact ⟨rfl, rfl⟩); exact rfl; exact rfl; exact at0; (iterate 3 exact rfl)) | refine JC.ret ?_))
 exact Q0z 0 rfl rfl rfl (fun a w' st => ⟨st.kp, by show Wv (sgn (!p) (val B16 zs1)) = _; rw [hval1, Qfn]⟩)

set_option maxHeartbeats 4000000 in
theorem Qk8 (w : World) (v u : Value) (a b : Int) (k : Nat) (hv : IsZ v a k) (hu : IsZ u b k) (hk : k ≤ 100000000) :
  Calls Tryz.prog 59 #[v, u] w (Ret fun r w' => Kp [] w w' ∧ r = Wv (a + b)) := by
 obtain ⟨p, l, rfl, hl1, rfl⟩ := hv
 obtain ⟨q, l', rfl, hl2, rfl⟩ := hu
 refine Q0a [⟨4, 2, [], []⟩, ⟨6, 2, [], []⟩, ⟨7, 2, [], []⟩] [] (by simp) [] Tryz.func59 rfl mixed (by kernel_rfl) Tryz.ntmps59 Tryz.results59 rfl ⟨by simp, by simp⟩ (by simp) ?_
 simp only [toS, textOps, toSOp, kindAt, kindOf, odAt, sopsAt, ordOf, zipF]
 (repeat' (first | refine JC.seq ?_ | refine JC.ops ?_ | refine JO.nil ?_ | refine Q00 ?_ | (apply Q0d; (iterate 4 exact rfl); exact at2; exact rfl) | (apply Q0e; (iterate 3 exact rfl); intro _) | (apply Q0x; (iterate 4 exact rfl); intro _)))
 refine Q0h (A := [_, _, _]) rfl trivial rfl rfl rfl (fun w hk hs => Q3t w p l (by omega)) fun w v w' _ _ _ hR => ?_
 obtain ⟨N1, zs1, hN1, hO1, hz1, hval1⟩ := hR
 refine ⟨N1, hN1, ?_⟩
 have hzl1 := Q2o hz1 hval1 hl1
 (repeat' (first | refine JC.seq ?_ | refine JC.ops ?_ | refine JO.nil ?_ | refine Q00 ?_ | (apply Q02; (iterate 3 exact rfl)) | (apply Q0d; (iterate 4 exact rfl); exact at1; exact rfl)))
 refine Q0h (A := [_, _, _]) rfl trivial rfl rfl rfl (fun w hk hs => Q3t w q l' (by omega)) fun w v w' _ _ _ hR => ?_
 obtain ⟨N2, zs2, hN2, hO2, hz2, hval2⟩ := hR
 refine ⟨N2, hN2, ?_⟩
 have hzl2 := Q2o hz2 hval2 hl2
 by_cases hpq : p = q
 ·subst hpq
  (repeat' (first | refine JC.seq ?_ | refine JC.ops ?_ | refine JC.opsD ?_ | refine JO.nil ?_ | refine Q00 ?_ | (apply Q04; (iterate 3 exact rfl)) | (apply Q06; (iterate 3 exact rfl)) | (apply Q02; (iterate 3 exact rfl)) | (apply Q0g; (iterate 4 exact rfl); (first | exact at1 | exact at2); exact rfl) | (apply Qjy; (iterate 4 exact rfl)) | refine Q08 rfl ?_))
  refine Q0h (A := [_, _, _]) rfl trivial rfl rfl rfl (fun w hk hs => Qk2 w _ _ _ _ _ _ (hO1.rd.at hk hs (by (repeat' first | exact HSub.nil _ | exact HSub.hd | exact Q03 | exact HSub.refl _ | refine HSub.skip ?_ | refine Q01 ?_))) (hO2.rd.at hk hs (by (repeat' first | exact HSub.nil _ | exact HSub.hd | exact Q03 | exact HSub.refl _ | refine HSub.skip ?_ | refine Q01 ?_))) hz1.lt hz2.lt (by omega) (by omega)) fun w v w' _ _ _ hR => ?_
  obtain ⟨N3, zs3, hN3, hO3, hz3, hval3, hzl3⟩ := hR
  refine ⟨N3, hN3, ?_⟩
  rw [hval1, hval2] at hval3
  skip
  refine Q09 trivial rfl rfl rfl (fun w hk hs => Q2r w _ _ zs3 p (hO3.rd.at hk hs (by (repeat' first | exact HSub.nil _ | exact HSub.hd | exact Q03 | exact HSub.refl _ | refine HSub.skip ?_ | refine Q01 ?_))) hz3 (by omega)) fun w v w' _ _ _ hR => ?_
  subst hR
  (repeat' (first | refine JO.nil ?_ | refine Q00 ?_ | (apply Q05; exact rfl; (first | exact trivial | exact ⟨rfl, rfl⟩); exact rfl; exact rfl; exact at0; (iterate 3 exact rfl)) | (apply Q05; exact rfl; (first | exact trivial | exact ⟨rfl, rfl⟩); exact rfl; exact rfl; exact at0; (iterate 3 exact rfl)) | refine Q0o ?_ | refine JC.ret ?_))
  exact Q0z 0 rfl rfl rfl (fun a w' st => ⟨st.kp, by show Wv (sgn p (val B16 zs3)) = _; rw [hval3, Qfq]⟩)
 have hpq' : (p == q) = false := by simpa using hpq
 (repeat' (first | refine JC.seq ?_ | refine JC.ops ?_ | refine JO.nil ?_ | refine Q00 ?_ | (apply Q06; (iterate 3 exact rfl)) | (apply Q02; (iterate 3 exact rfl)) | (apply Q0g; (iterate 4 exact rfl); (first | exact at1 | exact at2); exact rfl) | (apply Ql6; (iterate 4 exact rfl))))
 rw [hpq']
 (repeat' (first | refine JC.seq ?_ | refine JC.ops ?_ | refine Q00 ?_ | (apply Q04; (iterate 3 exact rfl)) | refine JC.skip ?_ | refine Q07 rfl ?_))
 refine Q09 trivial rfl rfl rfl (fun w hk hs => Q6j w _ _ _ _ _ _ (hO1.rd.at hk hs (by (repeat' first | exact HSub.nil _ | exact HSub.hd | exact Q03 | exact HSub.refl _ | refine HSub.skip ?_ | refine Q01 ?_))) (hO2.rd.at hk hs (by (repeat' first | exact HSub.nil _ | exact HSub.hd | exact Q03 | exact HSub.refl _ | refine HSub.skip ?_ | refine Q01 ?_))) hz1 hz2 (by omega) (by omega)) fun w v w' _ _ _ hR => ?_
 subst hR
 by_cases hlt : val B16 zs1 < val B16 zs2
 ·have hneg := Q2u.2 hlt
  have hlen : zs1.length ≤ zs2.length := by
   refine Decidable.byContradiction fun h => ?_
   have := Q32 (b := B16) (by decide) hz2 hz1 (by omega)
   omega
  (repeat' (first | refine JC.seq ?_ | refine JC.opsD ?_ | refine JO.nil ?_ | refine Q00 ?_ | (apply Q04; (iterate 3 exact rfl)) | (apply Q06; (iterate 3 exact rfl)) | (apply Q0g; (iterate 4 exact rfl); exact at1; exact rfl) | (apply Q2k; (iterate 4 exact rfl); all_goals intro hc; all_goals try (exfalso; omega)) | refine JC.skip ?_ | refine Q07 rfl ?_))
  refine Q0h (A := [_, _, _]) rfl trivial rfl rfl rfl (fun w hk hs => Q8l w _ _ _ _ _ _ (hO2.rd.at hk hs (by (repeat' first | exact HSub.nil _ | exact HSub.hd | exact Q03 | exact HSub.refl _ | refine HSub.skip ?_ | refine Q01 ?_))) (hO1.rd.at hk hs (by (repeat' first | exact HSub.nil _ | exact HSub.hd | exact Q03 | exact HSub.refl _ | refine HSub.skip ?_ | refine Q01 ?_))) hz2.lt hz1.lt (by omega) hlen (Nat.le_of_lt hlt)) fun w v w' _ _ _ hR => ?_
  obtain ⟨N3, zs3, hN3, hO3, hz3, hval3⟩ := hR
  refine ⟨N3, hN3, ?_⟩
  have hzl3 : zs3.length ≤ k := hz3.len_le (by decide) (Nat.lt_of_le_of_lt (show val B16 zs3 ≤ val B16 zs2 by omega) (by rw [hval2]; exact Nat.lt_of_lt_of_le (Q17 hl2) (Nat.pow_le_pow_left (by decide) k)))
  rw [hval1, hval2] at hval3
  rw [hval1, hval2] at hlt
  skip
  refine Q09 trivial rfl rfl rfl (fun w hk hs => Q2r w _ _ zs3 q (hO3.rd.at hk hs (by (repeat' first | exact HSub.nil _ | exact HSub.hd | exact Q03 | exact HSub.refl _ | refine HSub.skip ?_ | refine Q01 ?_))) hz3.lt (by omega)) fun w v w' _ _ _ hR => ?_
  subst hR
  (repeat' (first | refine JO.nil ?_ | refine Q00 ?_ | (apply Q05; exact rfl; (first | exact trivial | exact ⟨rfl, rfl⟩); exact rfl; exact rfl; exact at0; (iterate 3 exact rfl)) | (apply Q05; exact rfl; (first | exact trivial | exact ⟨rfl, rfl⟩); exact rfl; exact rfl; exact at0; (iterate 3 exact rfl)) | refine JC.ret ?_))
  exact Q0z 0 rfl rfl rfl (fun a w' st => ⟨st.kp, by show Wv (sgn q (val B16 zs3)) = _; rw [← Qdc hpq hlt, hval3]⟩)
 ·have hneg : ¬ cmpV (val B16 zs1) (val B16 zs2) < 0 := fun h => hlt (Q2u.1 h)
  have hlen : zs2.length ≤ zs1.length := by
   refine Decidable.byContradiction fun h => hlt ?_
   exact Q32 (b := B16) (by decide) hz1 hz2 (by omega)
  (repeat' (first | refine JC.seq ?_ | refine JC.opsD ?_ | refine JO.nil ?_ | refine Q00 ?_ | (apply Q04; (iterate 3 exact rfl)) | (apply Q06; (iterate 3 exact rfl)) | (apply Q0g; (iterate 4 exact rfl); exact at2; exact rfl) | (apply Q2k; (iterate 4 exact rfl); all_goals intro hc; all_goals try (exfalso; omega)) | refine Q08 rfl ?_))
  refine Q0h (A := [_, _, _]) rfl trivial rfl rfl rfl (fun w hk hs => Q8l w _ _ _ _ _ _ (hO1.rd.at hk hs (by (repeat' first | exact HSub.nil _ | exact HSub.hd | exact Q03 | exact HSub.refl _ | refine HSub.skip ?_ | refine Q01 ?_))) (hO2.rd.at hk hs (by (repeat' first | exact HSub.nil _ | exact HSub.hd | exact Q03 | exact HSub.refl _ | refine HSub.skip ?_ | refine Q01 ?_))) hz1.lt hz2.lt (by omega) hlen (by omega)) fun w v w' _ _ _ hR => ?_
  obtain ⟨N3, zs3, hN3, hO3, hz3, hval3⟩ := hR
  refine ⟨N3, hN3, ?_⟩
  have hzl3 : zs3.length ≤ k := hz3.len_le (by decide) (Nat.lt_of_le_of_lt (show val B16 zs3 ≤ val B16 zs1 by omega) (by rw [hval1]; exact Nat.lt_of_lt_of_le (Q17 hl1) (Nat.pow_le_pow_left (by decide) k)))
  rw [hval1, hval2] at hval3
  rw [hval1, hval2] at hlt
  skip
  refine Q09 trivial rfl rfl rfl (fun w hk hs => Q2r w _ _ zs3 p (hO3.rd.at hk hs (by (repeat' first | exact HSub.nil _ | exact HSub.hd | exact Q03 | exact HSub.refl _ | refine HSub.skip ?_ | refine Q01 ?_))) hz3.lt (by omega)) fun w v w' _ _ _ hR => ?_
  subst hR
  (repeat' (first | refine JO.nil ?_ | refine Q00 ?_ | (apply Q05; exact rfl; (first | exact trivial | exact ⟨rfl, rfl⟩); exact rfl; exact rfl; exact at0; (iterate 3 exact rfl)) | (apply Q05; exact rfl; (first | exact trivial | exact ⟨rfl, rfl⟩); exact rfl; exact rfl; exact at0; (iterate 3 exact rfl)) | refine Q0o ?_ | refine JC.ret ?_))
  exact Q0z 0 rfl rfl rfl (fun a w' st => ⟨st.kp, by show Wv (sgn p (val B16 zs3)) = _; rw [← Qdb hpq hlt, hval3]⟩)

set_option maxHeartbeats 2000000 in
theorem Qny (w : World) (v u : Value) (a b : Int) (k : Nat) (hv : IsZ v a k) (hu : IsZ u b k) (hk : k ≤ 100000000) :
  Calls Tryz.prog 40 #[v, u] w (Ret fun r w' => Kp [] w w' ∧ r = Wv (a - b)) := by
 have hZ : IsZ (Wv (-b)) (-b) k := Q0t (by rw [Int.natAbs_neg]; exact hu.lt)
 obtain ⟨p, l, rfl, hl1, rfl⟩ := hv
 obtain ⟨q, l', rfl, hl2, rfl⟩ := hu
 refine Q0a [⟨1, 1, [], []⟩] [] (by simp) [] Tryz.func40 rfl mixed (by kernel_rfl) Tryz.ntmps40 Tryz.results40 rfl ⟨by simp, by simp⟩ (by simp) ?_
 simp only [toS, textOps, toSOp, kindAt, kindOf, odAt, sopsAt, ordOf, zipF]
 (repeat' (first | refine JC.seq ?_ | refine JC.ops ?_ | refine JC.opsD ?_ | refine JO.nil ?_ | refine Q00 ?_ | (apply Q0d; (iterate 4 exact rfl); (first | exact at1 | exact at2); exact rfl) | (apply Q0e; (iterate 3 exact rfl); intro _) | (apply Q0x; (iterate 4 exact rfl); intro _)))
 refine Q09 trivial rfl rfl rfl (fun w hk' hs => Qha w _ _ k ⟨q, l', rfl, hl2, rfl⟩ hk) fun w v w' _ _ _ hR => ?_
 subst hR
 skip
 refine Q09 trivial rfl rfl rfl (fun w hk' hs => Qk8 w _ _ _ _ k ⟨p, l, rfl, hl1, rfl⟩ hZ hk) fun w v w' _ _ _ hR => ?_
 subst hR
 (repeat' (first | refine JO.nil ?_ | refine Q00 ?_ | (apply Q05; exact rfl; (first | exact trivial | exact ⟨rfl, rfl⟩); exact rfl; exact rfl; exact at0; (iterate 3 exact rfl)) | (apply Q05; exact rfl; (first | exact trivial | exact ⟨rfl, rfl⟩); exact rfl; exact rfl; exact at0; (iterate 3 exact rfl)) | refine JC.ret ?_))
 exact Q0z 0 rfl rfl rfl (fun a w' st => ⟨st.kp, by rw [Int.sub_eq_add_neg]; rfl⟩)

set_option maxHeartbeats 2000000 in
theorem Qe3 (w : World) (v u : Value) (a b : Int) (k : Nat) (hv : IsZ v a k) (hu : IsZ u b k) (hk : k ≤ 100000000) :
  Calls Tryz.prog 38 #[v, u] w (Ret fun r w' => Kp [] w w' ∧ r = Wv (a * b)) := by
 obtain ⟨p, l, rfl, hl1, rfl⟩ := hv
 obtain ⟨q, l', rfl, hl2, rfl⟩ := hu
 refine Q0a [⟨1, 1, [0, 1, 2, 3, 4, 5, 7, 6, 8, 9, 10, 11], []⟩] [] (by simp) [] Tryz.func38 rfl mixed (by kernel_rfl) Tryz.ntmps38 Tryz.results38 rfl ⟨by simp, by simp⟩ (by simp) ?_
 simp only [toS, textOps, toSOp, kindAt, kindOf, odAt, sopsAt, ordOf, zipF]
 (repeat' (first | refine JC.seq ?_ | refine JC.ops ?_ | refine JC.opsD ?_ | refine JO.nil ?_ | refine Q00 ?_ | (apply Q06; (iterate 3 exact rfl)) | (apply Q0g; (iterate 4 exact rfl); (first | exact at1 | exact at2); exact rfl) | (apply Q0d; (iterate 4 exact rfl); (first | exact at1 | exact at2); exact rfl) | (apply Q6s; (iterate 4 exact rfl)) | (apply Q0e; (iterate 3 exact rfl); intro _) | (apply Q0x; (iterate 4 exact rfl); intro _)))
 refine Q0h (A := [_, _, _]) rfl trivial rfl rfl rfl (fun w hk hs => Q3t w p l (by omega)) fun w v w' _ _ _ hR => ?_
 obtain ⟨N1, zs1, hN1, hO1, hz1, hval1⟩ := hR
 refine ⟨N1, hN1, ?_⟩
 have hzl1 := Q2o hz1 hval1 hl1
 skip
 refine Q0h (A := [_, _, _]) rfl trivial rfl rfl rfl (fun w hk hs => Q3t w q l' (by omega)) fun w v w' _ _ _ hR => ?_
 obtain ⟨N2, zs2, hN2, hO2, hz2, hval2⟩ := hR
 refine ⟨N2, hN2, ?_⟩
 have hzl2 := Q2o hz2 hval2 hl2
 skip
 refine Q0h (A := [_, _, _]) rfl trivial rfl rfl rfl (fun w hk hs => Qh2 w _ _ _ _ _ _ (hO1.rd.at hk hs (by (repeat' first | exact HSub.nil _ | exact HSub.hd | exact Q03 | exact HSub.refl _ | refine HSub.skip ?_ | refine Q01 ?_))) (hO2.rd.at hk hs (by (repeat' first | exact HSub.nil _ | exact HSub.hd | exact Q03 | exact HSub.refl _ | refine HSub.skip ?_ | refine Q01 ?_))) hz1.lt hz2.lt (by omega) (by omega)) fun w v w' _ _ _ hR => ?_
 obtain ⟨N3, zs3, hN3, hO3, hz3, hval3, hzl4⟩ := hR
 refine ⟨N3, hN3, ?_⟩
 rw [hval1, hval2] at hval3
 have hzl3 : zs3.length ≤ k + k := by
  refine hz3.len_le (by decide) ?_
  rw [hval3, Nat.pow_add]
  have h1 := Nat.lt_of_lt_of_le (Q17 hl1) (Nat.pow_le_pow_left (show 256 ≤ B16 by decide) k)
  have h2 := Nat.lt_of_lt_of_le (Q17 hl2) (Nat.pow_le_pow_left (show 256 ≤ B16 by decide) k)
  exact Nat.mul_lt_mul_of_lt_of_le h1 (Nat.le_of_lt h2) (Nat.pow_pos (by decide))
 skip
 refine Q09 trivial rfl rfl rfl (fun w hk hs => Q2r w _ _ zs3 (p != q) (hO3.rd.at hk hs (by (repeat' first | exact HSub.nil _ | exact HSub.hd | exact Q03 | exact HSub.refl _ | refine HSub.skip ?_ | refine Q01 ?_))) hz3.lt (by omega)) fun w v w' _ _ _ hR => ?_
 subst hR
 (repeat' (first | refine JO.nil ?_ | refine Q00 ?_ | (apply Q05; exact rfl; (first | exact trivial | exact ⟨rfl, rfl⟩); exact rfl; exact rfl; exact at0; (iterate 3 exact rfl)) | (apply Q05; exact rfl; (first | exact trivial | exact ⟨rfl, rfl⟩); exact rfl; exact rfl; exact at0; (iterate 3 exact rfl)) | refine JC.ret ?_))
 exact Q0z 0 rfl rfl rfl (fun a w' st => ⟨st.kp, by show Wv (sgn (p != q) (val B16 zs3)) = _; rw [hval3, Qfp]⟩)


set_option maxHeartbeats 4000000 in
theorem Qe1 (w : World) (p : Bool) (l : List UInt8) (hl : l.length ≤ 3000000000) :
  Calls Tryz.prog 73 #[wv p l] w (Ret fun v w' => Kp [] w w' ∧ v = .bool (p && decide (bval (bts l) ≠ 0))) := by
 cases p with
 | false =>
  refine Q0a [] [] (by simp) [] Tryz.func73 rfl mixed (by kernel_rfl) Tryz.ntmps73 Tryz.results73 rfl ⟨by simp, by simp⟩ (by simp) ?_
  simp only [toS, textOps, toSOp, kindAt, kindOf, odAt, sopsAt, ordOf, zipF]
  (repeat' (first | refine JC.seq ?_ | refine JC.ops ?_ | refine JO.nil ?_ | refine Q00 ?_ | (apply Q04; (iterate 3 exact rfl)) | (apply Q06; (iterate 3 exact rfl)) | (apply Q02; (iterate 3 exact rfl)) | (apply Q0g; (iterate 4 exact rfl); exact at0; exact rfl) | (apply Q0q; (iterate 4 exact rfl)) | (apply Q0x; (iterate 4 exact rfl); intro _) | refine JC.ret ?_ | (apply Q10; exact rfl; exact rfl; (first | (intro h; cases h; done) | (intro _; rfl)))))
  exact Q0j rfl (fun a w' st => ⟨st.kp, rfl⟩)
 | true =>
  refine Q0a [] [] (by simp) [] Tryz.func73 rfl mixed (by kernel_rfl) Tryz.ntmps73 Tryz.results73 rfl ⟨by simp, by simp⟩ (by simp) ?_
  simp only [toS, textOps, toSOp, kindAt, kindOf, odAt, sopsAt, ordOf, zipF]
  (repeat' (first | refine JC.seq ?_ | refine JC.ops ?_ | refine JO.nil ?_ | refine Q00 ?_ | (apply Q04; (iterate 3 exact rfl)) | (apply Q06; (iterate 3 exact rfl)) | (apply Q02; (iterate 3 exact rfl)) | (apply Q0g; (iterate 4 exact rfl); exact at0; exact rfl) | (apply Q0d; (iterate 4 exact rfl); exact at0; exact rfl) | (apply Q0x; (iterate 4 exact rfl); intro _)))
  refine Q0h (A := [_]) rfl (by first | trivial | exact ⟨rfl, rfl⟩) rfl rfl rfl (fun w hk hs => Q3t w true l hl) fun w v w' _ _ _ hR => ?_
  obtain ⟨N1, zs1, hN1, hO1, hz1, hval1⟩ := hR
  refine ⟨N1, hN1, ?_⟩
  have he := hz1.eq_nil (by decide)
  rw [hval1] at he
  by_cases h0 : zs1.length = 0
  ·have h1 := he.1 (List.eq_nil_of_length_eq_zero h0)
   rw [h1]
   (repeat' (first | refine JO.nil ?_ | refine Q00 ?_ | (apply Q02; (iterate 3 exact rfl)) | (apply Q1t; (iterate 3 exact rfl); (first | assumption | exact WN.rd (by assumption) rfl [] | exact OwnN.rd (by assumption))) | (apply Q0n; (iterate 4 exact rfl)) | (apply Q1l; (iterate 4 exact rfl); all_goals intro hc; all_goals try (exfalso; omega)) | refine JC.ret ?_))
   exact Q0j rfl (fun a w' st => ⟨st.kp, rfl⟩)
  ·have h1 : bval (bts l) ≠ 0 := fun h => h0 (by rw [he.2 h]; rfl)
   rw [decide_eq_true h1]
   (repeat' (first | refine JO.nil ?_ | refine Q00 ?_ | (apply Q02; (iterate 3 exact rfl)) | (apply Q1t; (iterate 3 exact rfl); (first | assumption | exact WN.rd (by assumption) rfl [] | exact OwnN.rd (by assumption))) | (apply Q0n; (iterate 4 exact rfl)) | (apply Q1l; (iterate 4 exact rfl); all_goals intro hc; all_goals try (exfalso; omega)) | refine JC.ret ?_))
   exact Q0j rfl (fun a w' st => ⟨st.kp, rfl⟩)

theorem Qf4 : val B16 [1] = 1 := rfl
theorem Qi9 (p : Bool) (X : Nat) : ∃ p', (p && decide (X ≠ 0)) = p' ∧ sgn p X = sgn p' X := by
 refine ⟨_, rfl, ?_⟩
 by_cases h : X = 0
 ·subst h; rw [Q5a, Q5a]
 ·rw [decide_eq_true h, Bool.and_true]

set_option maxHeartbeats 8000000 in
theorem Qo0 (w : World) (v u : Value) (a b : Int) (k : Nat) (hv : IsZ v a k) (hu : IsZ u b k) (hk : k ≤ 100000000) :
  Calls Tryz.prog 39 #[v, u] w (Ret fun r w' => Kp [] w w' ∧ r = if b = 0 then .tuple #[Wv 0, Wv 0, .bool false] else .tuple #[Wv (a / b), Wv (a % b), .bool true]) := by
 obtain ⟨p, l, rfl, hl1, rfl⟩ := hv
 obtain ⟨q, l', rfl, hl2, rfl⟩ := hu
 obtain ⟨p', hp', hps⟩ := Qi9 p (bval (bts l))
 rw [hps]
 refine Q0a [⟨8, 3, [0, 2, 3, 5, 7, 1, 4, 6, 8, 9, 10, 11], []⟩] [] (by simp) [] Tryz.func39 rfl mixed (by kernel_rfl) Tryz.ntmps39 Tryz.results39 rfl ⟨by simp, by simp⟩ (by simp) ?_
 simp only [toS, textOps, toSOp, kindAt, kindOf, odAt, sopsAt, ordOf, zipF]
 (repeat' (first | refine JC.seq ?_ | refine JC.ops ?_ | refine JO.nil ?_ | refine Q00 ?_ | (apply Q02; (iterate 3 exact rfl)) | (apply Q0d; (iterate 4 exact rfl); exact at2; exact rfl) | (apply Q0e; (iterate 3 exact rfl); intro _) | (apply Q0x; (iterate 4 exact rfl); intro _)))
 refine Q0h (A := [_, _, _, _]) rfl (by first | trivial | exact ⟨rfl, rfl⟩) rfl rfl rfl (fun w hk hs => Q3t w q l' (by omega)) fun w v w' _ _ _ hR => ?_
 obtain ⟨N2, zs2, hN2, hO2, hz2, hval2⟩ := hR
 refine ⟨N2, hN2, ?_⟩
 have hzl2 := Q2o hz2 hval2 hl2
 have he := hz2.eq_nil (by decide)
 rw [hval2] at he
 by_cases h0 : zs2.length = 0
 ·have h1 := he.1 (List.eq_nil_of_length_eq_zero h0)
  rw [h1, if_pos (Q5a q)]
  (repeat' (first | refine JC.seq ?_ | refine JC.ops ?_ | refine JO.nil ?_ | refine Q00 ?_ | (apply Q04; (iterate 3 exact rfl)) | (apply Q02; (iterate 3 exact rfl)) | (apply Q1t; (iterate 3 exact rfl); (first | assumption | exact WN.rd (by assumption) rfl [] | exact OwnN.rd (by assumption))) | (apply Q05; exact rfl; (first | exact trivial | exact ⟨rfl, rfl⟩); exact rfl; exact rfl; (first | exact at0 | exact at1); (iterate 3 exact rfl)) | (apply Q2f; (iterate 4 exact rfl); all_goals intro hc; all_goals try (exfalso; omega)) | (apply Q11; (iterate 5 exact rfl)) | (apply Q05; exact rfl; (first | exact trivial | exact ⟨rfl, rfl⟩); exact rfl; exact rfl; (first | exact at0 | exact at1); (iterate 3 exact rfl)) | refine Q0o ?_ | refine JC.ret ?_ | refine Q08 rfl ?_))
  exact Q21 1 0 rfl rfl rfl rfl rfl rfl rfl (fun a w' st => ⟨st.kp, rfl⟩)
 have hy0 : bval (bts l') ≠ 0 := fun h => h0 (by rw [he.2 h]; rfl)
 rw [if_neg (fun h => hy0 ((Q84 _ _).1 h))]
 (repeat' (first | refine JC.seq ?_ | refine JC.ops ?_ | refine JO.nil ?_ | refine Q00 ?_ | (apply Q04; (iterate 3 exact rfl)) | (apply Q02; (iterate 3 exact rfl)) | (apply Q0d; (iterate 4 exact rfl); exact at3; exact rfl) | (apply Q1t; (iterate 3 exact rfl); (first | assumption | exact WN.rd (by assumption) rfl [] | exact OwnN.rd (by assumption))) | (apply Q2f; (iterate 4 exact rfl); all_goals intro hc; all_goals try (exfalso; omega)) | refine JC.skip ?_ | refine Q07 rfl ?_))
 refine Q0h (A := [_, _, _, _]) rfl (by first | trivial | exact ⟨rfl, rfl⟩) rfl rfl rfl (fun w hk hs => Q3t w p l (by omega)) fun w v w' _ _ _ hR => ?_
 obtain ⟨N1, zs1, hN1, hO1, hz1, hval1⟩ := hR
 refine ⟨N1, hN1, ?_⟩
 have hzl1 := Q2o hz1 hval1 hl1
 have hv1 : val B16 zs1 < 256 ^ k := by rw [hval1]; exact Q17 hl1
 have hv2 : val B16 zs2 < 256 ^ k := by rw [hval2]; exact Q17 hl2
 have hpw : 256 ^ k ≤ B16 ^ k := Nat.pow_le_pow_left (by decide) k
 have hpk : 0 < 256 ^ k := Nat.pow_pos (by decide)
 (repeat' (first | (apply Q04; (iterate 3 exact rfl))))
 refine Q0h (A := [_, _, _, _]) rfl trivial rfl rfl rfl (fun w hk hs => Qm1 w _ _ _ _ _ _ (hO1.rd.at hk hs (by (repeat' first | exact HSub.nil _ | exact HSub.hd | exact Q03 | exact HSub.refl _ | refine HSub.skip ?_ | refine Q01 ?_))) (hO2.rd.at hk hs (by (repeat' first | exact HSub.nil _ | exact HSub.hd | exact Q03 | exact HSub.refl _ | refine HSub.skip ?_ | refine Q01 ?_))) hz1.lt hz2 (by omega) (by omega) (by omega)) fun w v w' _ _ _ hR => ?_
 obtain ⟨N3, N4, v3, v4, zs3, zs4, rfl, hN34, hO3, hO4, hz3, hz4, hval3, hlt4⟩ := hR
 refine ⟨_, hN34, ?_⟩
 rw [List.append_assoc N3 N4]
 have hzl4 : zs4.length ≤ k := hz4.len_le (by decide) (by omega)
 have hq3 : val B16 zs3 ≤ val B16 zs1 := by
  have h1 : val B16 zs3 ≤ val B16 zs2 * val B16 zs3 := Nat.le_mul_of_pos_left _ (by omega)
  omega
 have hzl3 : zs3.length ≤ k := hz3.len_le (by decide) (by omega)
 have hlaw := Qg9 p' q (val B16 zs1) (val B16 zs2) (val B16 zs3) (val B16 zs4) (by omega) (by rw [Nat.mul_comm]; exact hval3) hlt4
 rw [hval1, hval2] at hlaw
 have he4 := hz4.eq_nil (by decide)
 have hlaw1 := hlaw.1
 have hlaw2 := hlaw.2
 clear hlaw
 (repeat' (first | refine JC.seq ?_ | refine JC.ops ?_ | refine JO.nil ?_ | refine Q00 ?_ | (apply Q04; (iterate 3 exact rfl)) | (apply Q02; (iterate 3 exact rfl)) | (apply Q0d; (iterate 4 exact rfl); exact at3; exact rfl) | (apply Q0v; (iterate 4 exact rfl))))
 refine Q09 trivial rfl rfl rfl (fun w hk hs => Qe1 w p l (by omega)) fun w v w' _ _ _ hR => ?_
 rw [hp'] at hR
 subst hR
 by_cases hp : p' = true ∧ 0 < zs4.length
 ·obtain ⟨rfl, hp4⟩ := hp
  have hr0 : 0 < val B16 zs4 := Nat.pos_of_ne_zero fun h => by rw [he4.2 h] at hp4; exact absurd hp4 (by simp)
  obtain ⟨hq1, hq2⟩ := hlaw1 ⟨rfl, hr0⟩
  have hlen := Q6c hz4 hz2 (Nat.le_of_lt hlt4)
  (repeat' (first | refine JC.seq ?_ | refine JC.ops ?_ | refine JO.nil ?_ | refine Q00 ?_ | (apply Q04; (iterate 3 exact rfl)) | (apply Q1t; (iterate 3 exact rfl); (first | assumption | exact WN.rd (by assumption) rfl [] | exact OwnN.rd (by assumption))) | (apply Q0n; (iterate 4 exact rfl)) | (apply Q1l; (iterate 4 exact rfl); all_goals intro hc; all_goals try (exfalso; omega)) | (apply Q0w; (iterate 5 exact rfl); (repeat first | exact trivial | refine ⟨rfl, ?_⟩); decide; decide; intro _) | refine Q08 rfl ?_))
  rename_i b9
  have hO9 : OwnN [(b9, .cells ⟨[.int .i64 1]⟩ 3)] (.slice (some ⟨b9, 0, none⟩) 1 1) 1 [1] := Q2g b9 1 [1] _ rfl rfl (by omega)
  refine Q0h (A := [_, _, _, _, _]) rfl trivial rfl rfl rfl (fun w hk hs => Qk2 w _ _ _ _ _ _ (hO3.rd.at hk hs (by (repeat' first | exact HSub.nil _ | exact HSub.hd | exact Q03 | exact HSub.refl _ | refine HSub.skip ?_ | refine Q01 ?_))) (hO9.rd.at hk hs (by (repeat' first | exact HSub.nil _ | exact HSub.hd | exact Q03 | exact HSub.refl _ | refine HSub.skip ?_ | refine Q01 ?_))) hz3.lt (fun x hx => by rw [List.mem_singleton] at hx; rw [hx]; decide) (by omega) (by omega)) fun w v w' _ _ _ hR => ?_
  obtain ⟨N5, zs5, hN5, hO5, hz5, hval5, hzl5⟩ := hR
  refine ⟨N5, hN5, ?_⟩
  rw [Qf4] at hval5
  (repeat' (first | refine JC.ops ?_ | refine JO.nil ?_ | refine Q00 ?_ | (apply Q04; (iterate 3 exact rfl)) | (apply Q02; (iterate 3 exact rfl))))
  refine Q0h (A := [_, _, _, _, _]) rfl trivial rfl rfl rfl (fun w hk hs => Q8l w _ _ _ _ _ _ (hO2.rd.at hk hs (by (repeat' first | exact HSub.nil _ | exact HSub.hd | exact Q03 | exact HSub.refl _ | refine HSub.skip ?_ | refine Q01 ?_))) (hO4.rd.at hk hs (by (repeat' first | exact HSub.nil _ | exact HSub.hd | exact Q03 | exact HSub.refl _ | refine HSub.skip ?_ | refine Q01 ?_))) hz2.lt hz4.lt (by omega) hlen (by omega)) fun w v w' _ _ _ hR => ?_
  obtain ⟨N6, zs6, hN6, hO6, hz6, hval6⟩ := hR
  refine ⟨N6, hN6, ?_⟩
  have hzl6 : zs6.length ≤ k := hz6.len_le (by decide) (by omega)
  (repeat' (first | refine JC.seq ?_ | refine JC.opsD ?_ | refine JO.nil ?_ | refine Q00 ?_ | (apply Q04; (iterate 3 exact rfl)) | (apply Q06; (iterate 3 exact rfl)) | (apply Q02; (iterate 3 exact rfl)) | (apply Q0g; (iterate 4 exact rfl); (first | exact at3 | exact at4); exact rfl) | (apply Q0d; (iterate 4 exact rfl); (first | exact at3 | exact at4); exact rfl)))
  refine Q09 (by first | trivial | exact ⟨rfl, rfl⟩) rfl rfl rfl (fun w hk hs => Qe1 w p l (by omega)) fun w v w' _ _ _ hR => ?_
  rw [hp'] at hR
  subst hR
  (repeat' (first | (apply Q6s; (iterate 4 exact rfl))))
  refine Q09 (by first | trivial | exact ⟨rfl, rfl⟩) rfl rfl rfl (fun w hk hs => Q2r w _ _ zs5 (true != q) (hO5.rd.at hk hs (by (repeat' first | exact HSub.nil _ | exact HSub.hd | exact Q03 | exact HSub.refl _ | refine HSub.skip ?_ | refine Q01 ?_))) hz5 (by omega)) fun w v w' _ _ _ hR => ?_
  subst hR
  skip
  refine Q09 (by first | trivial | exact ⟨rfl, rfl⟩) rfl rfl rfl (fun w hk hs => Q2r w _ _ zs6 false (hO6.rd.at hk hs (by (repeat' first | exact HSub.nil _ | exact HSub.hd | exact Q03 | exact HSub.refl _ | refine HSub.skip ?_ | refine Q01 ?_))) hz6.lt (by omega)) fun w v w' _ _ _ hR => ?_
  subst hR
  (repeat' (first | refine JO.nil ?_ | refine Q00 ?_ | (apply Q02; (iterate 3 exact rfl)) | (apply Q05; exact rfl; (first | exact trivial | exact ⟨rfl, rfl⟩); exact rfl; exact rfl; (first | exact at1 | exact at2); (iterate 3 exact rfl)) | (apply Q05; exact rfl; (first | exact trivial | exact ⟨rfl, rfl⟩); exact rfl; exact rfl; (first | exact at1 | exact at2); (iterate 3 exact rfl)) | refine JC.ret ?_))
  refine Q21 2 1 rfl rfl rfl rfl rfl rfl rfl (fun a w' st => ⟨st.kp, ?_⟩)
  show Value.tuple #[Wv (sgn (true != q) (val B16 zs5)), Wv (sgn false (val B16 zs6)), _] = _
  rw [hval5, hq1, ← hq2, ← hval2, hval6]
  rfl
 have hq := hlaw2 (fun ⟨h1, h2⟩ => hp ⟨h1, by
  refine Nat.pos_of_ne_zero fun h => ?_
  have := List.eq_nil_of_length_eq_zero h
  rw [this] at h2
  exact absurd h2 (by simp [val])⟩)
 obtain ⟨hq1, hq2⟩ := hq
 have hnp : p' = true → zs4.length = 0 := fun h => by
  refine Decidable.byContradiction fun h' => hp ⟨h, by omega⟩
 cases p' with
 | false =>
  (repeat' (first | refine JC.seq ?_ | refine JC.opsD ?_ | refine JO.nil ?_ | refine Q00 ?_ | (apply Q04; (iterate 3 exact rfl)) | (apply Q06; (iterate 3 exact rfl)) | (apply Q0g; (iterate 4 exact rfl); (first | exact at2 | exact at3); exact rfl) | (apply Q0d; (iterate 4 exact rfl); (first | exact at2 | exact at3); exact rfl) | (apply Q0q; (iterate 4 exact rfl)) | refine JC.skip ?_ | refine Q07 rfl ?_ | (apply Q10; exact rfl; exact rfl; (first | (intro h; cases h; done) | (intro _; rfl)))))
  refine Q09 (by first | trivial | exact ⟨rfl, rfl⟩) rfl rfl rfl (fun w hk hs => Qe1 w p l (by omega)) fun w v w' _ _ _ hR => ?_
  rw [hp'] at hR
  subst hR
  (repeat' (first | (apply Q6s; (iterate 4 exact rfl))))
  refine Q09 (by first | trivial | exact ⟨rfl, rfl⟩) rfl rfl rfl (fun w hk hs => Q2r w _ _ zs3 (false != q) (hO3.rd.at hk hs (by (repeat' first | exact HSub.nil _ | exact HSub.hd | exact Q03 | exact HSub.refl _ | refine HSub.skip ?_ | refine Q01 ?_))) hz3.lt (by omega)) fun w v w' _ _ _ hR => ?_
  subst hR
  skip
  refine Q09 (by first | trivial | exact ⟨rfl, rfl⟩) rfl rfl rfl (fun w hk hs => Q2r w _ _ zs4 false (hO4.rd.at hk hs (by (repeat' first | exact HSub.nil _ | exact HSub.hd | exact Q03 | exact HSub.refl _ | refine HSub.skip ?_ | refine Q01 ?_))) hz4.lt (by omega)) fun w v w' _ _ _ hR => ?_
  subst hR
  (repeat' (first | refine JO.nil ?_ | refine Q00 ?_ | (apply Q02; (iterate 3 exact rfl)) | (apply Q05; exact rfl; (first | exact trivial | exact ⟨rfl, rfl⟩); exact rfl; exact rfl; (first | exact at0 | exact at1); (iterate 3 exact rfl)) | (apply Q05; exact rfl; (first | exact trivial | exact ⟨rfl, rfl⟩); exact rfl; exact rfl; (first | exact at0 | exact at1); (iterate 3 exact rfl)) | refine JC.ret ?_))
  refine Q21 1 0 rfl rfl rfl rfl rfl rfl rfl (fun a w' st => ⟨st.kp, ?_⟩)
  show Value.tuple #[Wv (sgn (false != q) (val B16 zs3)), Wv (sgn false (val B16 zs4)), _] = _
  rw [hq1, ← hq2]
  rfl
 | true =>
  have hz0 := hnp rfl
  (repeat' (first | refine JC.seq ?_ | refine JC.opsD ?_ | refine JO.nil ?_ | refine Q00 ?_ | (apply Q04; (iterate 3 exact rfl)) | (apply Q06; (iterate 3 exact rfl)) | (apply Q0g; (iterate 4 exact rfl); (first | exact at2 | exact at3); exact rfl) | (apply Q0d; (iterate 4 exact rfl); (first | exact at2 | exact at3); exact rfl) | (apply Q1t; (iterate 3 exact rfl); (first | assumption | exact WN.rd (by assumption) rfl [] | exact OwnN.rd (by assumption))) | (apply Q0n; (iterate 4 exact rfl)) | (apply Q1l; (iterate 4 exact rfl); all_goals intro hc; all_goals try (exfalso; omega)) | refine JC.skip ?_ | refine Q07 rfl ?_))
  refine Q09 (by first | trivial | exact ⟨rfl, rfl⟩) rfl rfl rfl (fun w hk hs => Qe1 w p l (by omega)) fun w v w' _ _ _ hR => ?_
  rw [hp'] at hR
  subst hR
  (repeat' (first | (apply Q6s; (iterate 4 exact rfl))))
  refine Q09 (by first | trivial | exact ⟨rfl, rfl⟩) rfl rfl rfl (fun w hk hs => Q2r w _ _ zs3 (true != q) (hO3.rd.at hk hs (by (repeat' first | exact HSub.nil _ | exact HSub.hd | exact Q03 | exact HSub.refl _ | refine HSub.skip ?_ | refine Q01 ?_))) hz3.lt (by omega)) fun w v w' _ _ _ hR => ?_
  subst hR
  skip
  refine Q09 (by first | trivial | exact ⟨rfl, rfl⟩) rfl rfl rfl (fun w hk hs => Q2r w _ _ zs4 false (hO4.rd.at hk hs (by (repeat' first | exact HSub.nil _ | exact HSub.hd | exact Q03 | exact HSub.refl _ | refine HSub.skip ?_ | refine Q01 ?_))) hz4.lt (by omega)) fun w v w' _ _ _ hR => ?_
  subst hR
  (repeat' (first | refine JO.nil ?_ | refine Q00 ?_ | (apply Q02; (iterate 3 exact rfl)) | (apply Q05; exact rfl; (first | exact trivial | exact ⟨rfl, rfl⟩); exact rfl; exact rfl; (first | exact at0 | exact at1); (iterate 3 exact rfl)) | (apply Q05; exact rfl; (first | exact trivial | exact ⟨rfl, rfl⟩); exact rfl; exact rfl; (first | exact at0 | exact at1); (iterate 3 exact rfl)) | refine JC.ret ?_))
  refine Q21 1 0 rfl rfl rfl rfl rfl rfl rfl (fun a w' st => ⟨st.kp, ?_⟩)
  show Value.tuple #[Wv (sgn (true != q) (val B16 zs3)), Wv (sgn false (val B16 zs4)), _] = _
  rw [hq1, ← hq2]
  rfl


theorem Qdw {m j : Nat} (h : m < 65536 ^ (4 - j)) (h0 : 0 < m) (hj : j ≤ 4) : j < 4 ∧ m / 65536 < 65536 ^ (4 - (j + 1)) := by
 have hj4 : j < 4 := by
  refine Decidable.byContradiction fun h1 => ?_
  obtain rfl : j = 4 := by omega
  simp at h
  omega
 refine ⟨hj4, ?_⟩
 rw [show 4 - j = 4 - (j + 1) + 1 by omega, Nat.pow_succ] at h
 exact Nat.div_lt_of_lt_mul (by rw [Nat.mul_comm]; exact h)

set_option maxHeartbeats 4000000 in
theorem Qaz (w : World) (n : Int) (h1 : -9223372036854775808 ≤ n) (h2 : n < 9223372036854775808) :
  Calls Tryz.prog 26 #[iv n] w (Ret fun r w' => Kp [] w w' ∧ r = Wv n) := by
 have hm : n.natAbs ≤ 9223372036854775808 := by omega
 have hm2 : n.natAbs < 18446744073709551616 := by omega
 by_cases hn : n < 0
 ·refine Q0a [] [] (by simp) [] Tryz.func26 rfl mixed (by kernel_rfl) Tryz.ntmps26 Tryz.results26 rfl ⟨by simp, by simp⟩ (by simp) ?_
  simp only [toS, textOps, toSOp, kindAt, kindOf, odAt, sopsAt, ordOf, zipF]
  (repeat' (first | refine JC.seq ?_ | refine JC.ops ?_ | refine JO.nil ?_ | refine Q00 ?_ | (apply Q04; (iterate 3 exact rfl)) | (apply Q02; (iterate 3 exact rfl)) | (apply Q0e; (iterate 3 exact rfl); intro _)))
  rename_i b2
  refine Qdn (18446744073709551616 - n.natAbs) rfl rfl rfl (by rw [IntKind.wrap_u64]; omega) ?_
  (repeat' (first | refine JC.seq ?_ | refine JC.ops ?_ | refine JO.nil ?_ | refine Q00 ?_ | (apply Q04; (iterate 3 exact rfl)) | (apply Q02; (iterate 3 exact rfl)) | (apply Q0m; (iterate 4 exact rfl); all_goals intro hc; all_goals try (exfalso; omega)) | refine Q08 rfl ?_))
  refine Qjq rfl rfl rfl (by omega) ?_
  rw [show (18446744073709551616 - (18446744073709551616 - n.natAbs)) % 18446744073709551616 = n.natAbs by omega]
  (repeat' (first | refine JC.seq ?_ | refine JO.nil ?_ | refine Q00 ?_ | (apply Q02; (iterate 3 exact rfl)) | refine JC.block ?_))
  refine Q0k (ι := Nat × Value × SHeap × List Nat) ⟨fun z => [(4, uv z.1), (3, z.2.1), (2, .pointer (some ⟨b2, 0, none⟩)), (0, iv n)], fun z => (b2, .cells #[.bool false, .string ⟨#[]⟩] 34) :: (z.2.2.1 ++ []),
   fun z => z.2.2.2.length ≤ 4 ∧ z.1 < 65536 ^ (4 - z.2.2.2.length) ∧ z.1 < 18446744073709551616 ∧ OwnN z.2.2.1 z.2.1 z.2.2.2.length z.2.2.2 ∧ (∀ x ∈ z.2.2.2, x < B16) ∧ val B16 z.2.2.2 + B16 ^ z.2.2.2.length * z.1 = n.natAbs, fun z => z.1⟩
   (n.natAbs, _, [], []) ⟨Nat.zero_le _, by show n.natAbs < 65536 ^ 4; omega, hm2, OwnN.nil, fun _ h => absurd h List.not_mem_nil, by simp [val]⟩ (by repeat first | exact trivial | refine ⟨rfl, ?_⟩) (by (repeat' first | exact HSub.refl _ | exact HSub.nil _ | refine HSub.at 0 rfl ?_ | refine HSub.at 1 rfl ?_ | refine HSub.at 2 rfl ?_ | refine HSub.at 3 rfl ?_ | refine HSub.at 4 rfl ?_ | refine HSub.at 5 rfl ?_ | refine HSub.at 6 rfl ?_ | refine HSub.at 7 rfl ?_ | refine HSub.at 8 rfl ?_ | refine HSub.at 9 rfl ?_ | refine HSub.at 10 rfl ?_ | refine HSub.at 11 rfl ?_ | refine HSub.at 12 rfl ?_ | refine HSub.at 13 rfl ?_ | refine HSub.at 14 rfl ?_ | refine HSub.at 15 rfl ?_ | refine HSub.at 16 rfl ?_ | refine HSub.at 17 rfl ?_ | refine HSub.at 18 rfl ?_ | refine HSub.at 19 rfl ?_ | refine Q0l ?_ | refine HSub.skip ?_ | refine Q01 ?_)) (fun z hz => ?_)
  obtain ⟨m, vo, N, zs⟩ := z
  obtain ⟨hl4, hmp, hm64, hO, hz, hval⟩ := hz
  dsimp only at hl4 hmp hm64 hO hz hval ⊢
  by_cases h0 : 0 < m
  ·obtain ⟨hj4, hmp'⟩ := Qdw hmp h0 hl4
   (repeat' (first | refine JC.seq ?_ | refine JC.ops ?_ | refine JO.nil ?_ | refine Q00 ?_ | (apply Q04; (iterate 3 exact rfl)) | (apply Q1l; (iterate 4 exact rfl); all_goals intro hc; all_goals try (exfalso; omega)) | refine JC.skip ?_ | refine Q08 rfl ?_ | refine JC.block ?_))
   refine Qdh (j := 65536) rfl rfl rfl rfl (by omega) ?_
   refine Q6u (k' := .i64) ((m % 65536 : Nat) : Int) rfl rfl rfl (by rw [IntKind.wrap_i64]; omega) ?_
   (repeat' (first | (apply Q0w; (iterate 5 exact rfl); (repeat first | exact trivial | refine ⟨rfl, ?_⟩); decide; decide; intro _)))
   rename_i c2
   refine Q1r (A := [_, _]) hO (Q2g c2 1 [m % 65536] _ rfl rfl (by decide)).rd (by (repeat' first | exact HSub.nil _ | exact HSub.hd | exact Q03 | exact HSub.refl _ | refine HSub.skip ?_ | refine Q01 ?_)) rfl trivial rfl rfl rfl rfl (by omega) (fun v' N' hO' => ?_)
   (repeat' (first | refine JC.ops ?_ | refine JO.nil ?_ | refine Q00 ?_ | (apply Q04; (iterate 3 exact rfl)) | (apply Q02; (iterate 3 exact rfl))))
   refine Qdi (j := 65536) rfl rfl rfl rfl (by omega) ?_
   (repeat' (first | refine JO.nil ?_ | (apply Q02; (iterate 3 exact rfl)) | refine Q0b ?_))
   refine Q0c (m / 65536, v', N', zs ++ [m % 65536]) ⟨by simp only [List.length_append, List.length_singleton]; omega, by simp only [List.length_append, List.length_singleton]; exact hmp', by dsimp only; omega, by simp only [List.length_append, List.length_singleton]; exact hO', Q1z hz (Nat.mod_lt _ (by decide)), ?_⟩ (by dsimp only; omega) (by repeat first | exact trivial | refine ⟨rfl, ?_⟩) (by (repeat' first | exact HSub.refl _ | exact HSub.nil _ | refine HSub.at 0 rfl ?_ | refine HSub.at 1 rfl ?_ | refine HSub.at 2 rfl ?_ | refine HSub.at 3 rfl ?_ | refine HSub.at 4 rfl ?_ | refine HSub.at 5 rfl ?_ | refine HSub.at 6 rfl ?_ | refine HSub.at 7 rfl ?_ | refine HSub.at 8 rfl ?_ | refine HSub.at 9 rfl ?_ | refine HSub.at 10 rfl ?_ | refine HSub.at 11 rfl ?_ | refine HSub.at 12 rfl ?_ | refine HSub.at 13 rfl ?_ | refine HSub.at 14 rfl ?_ | refine HSub.at 15 rfl ?_ | refine HSub.at 16 rfl ?_ | refine HSub.at 17 rfl ?_ | refine HSub.at 18 rfl ?_ | refine HSub.at 19 rfl ?_ | refine Q0l ?_ | refine HSub.skip ?_ | refine Q01 ?_))
   dsimp only
   rw [Q2b, List.length_append, List.length_singleton, Nat.pow_succ, ← hval, Nat.add_assoc, Nat.mul_assoc, ← Nat.mul_add, Nat.mod_add_div]
  ·(repeat' (first | refine JC.seq ?_ | refine JC.ops ?_ | refine JO.nil ?_ | refine Q00 ?_ | (apply Q04; (iterate 3 exact rfl)) | (apply Q0m; (iterate 4 exact rfl); all_goals intro hc; all_goals try (exfalso; omega)) | (apply Q1l; (iterate 4 exact rfl); all_goals intro hc; all_goals try (exfalso; omega)) | refine Q0i ?_ | refine JC.exit ?_ | refine Q07 rfl ?_ | refine Q0f ?_))
   refine Q09 trivial rfl rfl rfl (fun w hk hs => Q2r w _ _ zs true (hO.rd.at hk hs (by (repeat' first | exact HSub.nil _ | exact HSub.hd | exact Q03 | exact HSub.refl _ | refine HSub.skip ?_ | refine Q01 ?_))) hz (by omega)) fun w v w' _ _ _ hR => ?_
   subst hR
   (repeat' (first | refine JO.nil ?_ | refine Q00 ?_ | (apply Q05; exact rfl; (first | exact trivial | exact ⟨rfl, rfl⟩); exact rfl; exact rfl; exact at0; (iterate 3 exact rfl)) | (apply Q05; exact rfl; (first | exact trivial | exact ⟨rfl, rfl⟩); exact rfl; exact rfl; exact at0; (iterate 3 exact rfl)) | refine JC.ret ?_))
   obtain rfl : m = 0 := by omega
   rw [Nat.mul_zero, Nat.add_zero] at hval
   exact Q0z 0 rfl rfl rfl (fun a w' st => ⟨st.kp, by show Wv (sgn true (val B16 zs)) = _; rw [hval]; congr 1; simp only [sgn, if_true, Bool.false_eq_true, if_false]; omega⟩)
 ·refine Q0a [] [] (by simp) [] Tryz.func26 rfl mixed (by kernel_rfl) Tryz.ntmps26 Tryz.results26 rfl ⟨by simp, by simp⟩ (by simp) ?_
  simp only [toS, textOps, toSOp, kindAt, kindOf, odAt, sopsAt, ordOf, zipF]
  (repeat' (first | refine JC.seq ?_ | refine JC.ops ?_ | refine JO.nil ?_ | refine Q00 ?_ | (apply Q04; (iterate 3 exact rfl)) | (apply Q02; (iterate 3 exact rfl)) | (apply Q0e; (iterate 3 exact rfl); intro _)))
  rename_i b2
  refine Qdn n.natAbs rfl rfl rfl (by rw [IntKind.wrap_u64]; omega) ?_
  (repeat' (first | refine JC.seq ?_ | refine JC.ops ?_ | refine JO.nil ?_ | refine Q00 ?_ | (apply Q04; (iterate 3 exact rfl)) | (apply Q02; (iterate 3 exact rfl)) | (apply Q0m; (iterate 4 exact rfl); all_goals intro hc; all_goals try (exfalso; omega)) | refine JC.skip ?_ | refine Q07 rfl ?_ | refine JC.block ?_))
  refine Q0k (ι := Nat × Value × SHeap × List Nat) ⟨fun z => [(4, uv z.1), (3, z.2.1), (2, .pointer (some ⟨b2, 0, none⟩)), (0, iv n)], fun z => (b2, .cells #[.bool false, .string ⟨#[]⟩] 34) :: (z.2.2.1 ++ []),
   fun z => z.2.2.2.length ≤ 4 ∧ z.1 < 65536 ^ (4 - z.2.2.2.length) ∧ z.1 < 18446744073709551616 ∧ OwnN z.2.2.1 z.2.1 z.2.2.2.length z.2.2.2 ∧ (∀ x ∈ z.2.2.2, x < B16) ∧ val B16 z.2.2.2 + B16 ^ z.2.2.2.length * z.1 = n.natAbs, fun z => z.1⟩
   (n.natAbs, _, [], []) ⟨Nat.zero_le _, by show n.natAbs < 65536 ^ 4; omega, hm2, OwnN.nil, fun _ h => absurd h List.not_mem_nil, by simp [val]⟩ (by repeat first | exact trivial | refine ⟨rfl, ?_⟩) (by (repeat' first | exact HSub.refl _ | exact HSub.nil _ | refine HSub.at 0 rfl ?_ | refine HSub.at 1 rfl ?_ | refine HSub.at 2 rfl ?_ | refine HSub.at 3 rfl ?_ | refine HSub.at 4 rfl ?_ | refine HSub.at 5 rfl ?_ | refine HSub.at 6 rfl ?_ | refine HSub.at 7 rfl ?_ | refine HSub.at 8 rfl ?_ | refine HSub.at 9 rfl ?_ | refine HSub.at 10 rfl ?_ | refine HSub.at 11 rfl ?_ | refine HSub.at 12 rfl ?_ | refine HSub.at 13 rfl ?_ | refine HSub.at 14 rfl ?_ | refine HSub.at 15 rfl ?_ | refine HSub.at 16 rfl ?_ | refine HSub.at 17 rfl ?_ | refine HSub.at 18 rfl ?_ | refine HSub.at 19 rfl ?_ | refine Q0l ?_ | refine HSub.skip ?_ | refine Q01 ?_)) (fun z hz => ?_)
  obtain ⟨m, vo, N, zs⟩ := z
  obtain ⟨hl4, hmp, hm64, hO, hz, hval⟩ := hz
  dsimp only at hl4 hmp hm64 hO hz hval ⊢
  by_cases h0 : 0 < m
  ·obtain ⟨hj4, hmp'⟩ := Qdw hmp h0 hl4
   (repeat' (first | refine JC.seq ?_ | refine JC.ops ?_ | refine JO.nil ?_ | refine Q00 ?_ | (apply Q04; (iterate 3 exact rfl)) | (apply Q1l; (iterate 4 exact rfl); all_goals intro hc; all_goals try (exfalso; omega)) | refine JC.skip ?_ | refine Q08 rfl ?_ | refine JC.block ?_))
   refine Qdh (j := 65536) rfl rfl rfl rfl (by omega) ?_
   refine Q6u (k' := .i64) ((m % 65536 : Nat) : Int) rfl rfl rfl (by rw [IntKind.wrap_i64]; omega) ?_
   (repeat' (first | (apply Q0w; (iterate 5 exact rfl); (repeat first | exact trivial | refine ⟨rfl, ?_⟩); decide; decide; intro _)))
   rename_i c2
   refine Q1r (A := [_, _]) hO (Q2g c2 1 [m % 65536] _ rfl rfl (by decide)).rd (by (repeat' first | exact HSub.nil _ | exact HSub.hd | exact Q03 | exact HSub.refl _ | refine HSub.skip ?_ | refine Q01 ?_)) rfl trivial rfl rfl rfl rfl (by omega) (fun v' N' hO' => ?_)
   (repeat' (first | refine JC.ops ?_ | refine JO.nil ?_ | refine Q00 ?_ | (apply Q04; (iterate 3 exact rfl)) | (apply Q02; (iterate 3 exact rfl))))
   refine Qdi (j := 65536) rfl rfl rfl rfl (by omega) ?_
   (repeat' (first | refine JO.nil ?_ | (apply Q02; (iterate 3 exact rfl)) | refine Q0b ?_))
   refine Q0c (m / 65536, v', N', zs ++ [m % 65536]) ⟨by simp only [List.length_append, List.length_singleton]; omega, by simp only [List.length_append, List.length_singleton]; exact hmp', by dsimp only; omega, by simp only [List.length_append, List.length_singleton]; exact hO', Q1z hz (Nat.mod_lt _ (by decide)), ?_⟩ (by dsimp only; omega) (by repeat first | exact trivial | refine ⟨rfl, ?_⟩) (by (repeat' first | exact HSub.refl _ | exact HSub.nil _ | refine HSub.at 0 rfl ?_ | refine HSub.at 1 rfl ?_ | refine HSub.at 2 rfl ?_ | refine HSub.at 3 rfl ?_ | refine HSub.at 4 rfl ?_ | refine HSub.at 5 rfl ?_ | refine HSub.at 6 rfl ?_ | refine HSub.at 7 rfl ?_ | refine HSub.at 8 rfl ?_ | refine HSub.at 9 rfl ?_ | refine HSub.at 10 rfl ?_ | refine HSub.at 11 rfl ?_ | refine HSub.at 12 rfl ?_ | refine HSub.at 13 rfl ?_ | refine HSub.at 14 rfl ?_ | refine HSub.at 15 rfl ?_ | refine HSub.at 16 rfl ?_ | refine HSub.at 17 rfl ?_ | refine HSub.at 18 rfl ?_ | refine HSub.at 19 rfl ?_ | refine Q0l ?_ | refine HSub.skip ?_ | refine Q01 ?_))
   dsimp only
   rw [Q2b, List.length_append, List.length_singleton, Nat.pow_succ, ← hval, Nat.add_assoc, Nat.mul_assoc, ← Nat.mul_add, Nat.mod_add_div]
  ·(repeat' (first | refine JC.seq ?_ | refine JC.ops ?_ | refine JO.nil ?_ | refine Q00 ?_ | (apply Q04; (iterate 3 exact rfl)) | (apply Q0m; (iterate 4 exact rfl); all_goals intro hc; all_goals try (exfalso; omega)) | (apply Q1l; (iterate 4 exact rfl); all_goals intro hc; all_goals try (exfalso; omega)) | refine Q0i ?_ | refine JC.exit ?_ | refine Q07 rfl ?_ | refine Q0f ?_))
   refine Q09 trivial rfl rfl rfl (fun w hk hs => Q2r w _ _ zs false (hO.rd.at hk hs (by (repeat' first | exact HSub.nil _ | exact HSub.hd | exact Q03 | exact HSub.refl _ | refine HSub.skip ?_ | refine Q01 ?_))) hz (by omega)) fun w v w' _ _ _ hR => ?_
   subst hR
   (repeat' (first | refine JO.nil ?_ | refine Q00 ?_ | (apply Q05; exact rfl; (first | exact trivial | exact ⟨rfl, rfl⟩); exact rfl; exact rfl; exact at0; (iterate 3 exact rfl)) | (apply Q05; exact rfl; (first | exact trivial | exact ⟨rfl, rfl⟩); exact rfl; exact rfl; exact at0; (iterate 3 exact rfl)) | refine JC.ret ?_))
   obtain rfl : m = 0 := by omega
   rw [Nat.mul_zero, Nat.add_zero] at hval
   exact Q0z 0 rfl rfl rfl (fun a w' st => ⟨st.kp, by show Wv (sgn false (val B16 zs)) = _; rw [hval]; congr 1; simp only [sgn, if_true, Bool.false_eq_true, if_false]; omega⟩)

end Go.Proofs.YtdlmnloikakjpaaGreatDoor

namespace Go.Proofs.YtdlmnloikakjpaaGreatDoor
open Go Go.RowKit Go.Shelf
set_option linter.unusedSimpArgs false
set_option linter.unusedVariables false
set_option linter.unusedSectionVars false

theorem Qf2 {P : Program} {ops : Array Oper} {Q : Exit → Act → World → Prop} {l m i : Nat} {K : Act → World → Prop} {a : Act} {w : World} (hQ : ¬ LetsOut Q) (hd : noDefer ops.toList = true) (h : wpOp P ops Q i K a w) : wpOpIn (Fence.wide.inRound l) m P ops Q i K a w := by
 unfold wpOp at h
 unfold wpOpIn
 cases ho : ops[i]? with
 | none => rw [ho] at h; exact h
 | some o =>
  rw [ho] at h
  simp only at h ⊢
  split at h
  ·rename_i hw
   rw [if_pos hw]
   rcases h with h | ⟨_, h⟩
   ·refine ⟨fun f _ => trivial, ?_⟩
    have hnd : ∀ c, o.op ≠ .defer c := fun c hc => by
     have : ∀ (os : List Oper), noDefer os = true → o ∈ os → False := fun os => by
      induction os with
      | nil => intro _ h; cases h
      | cons x xs ih =>
       intro h1 h2
       simp only [noDefer, Bool.and_eq_true] at h1
       rcases List.mem_cons.1 h2 with rfl | h2
       ·rw [hc] at h1; exact absurd h1.1 (by simp)
       ·exact ih h1.2 h2
     exact this _ hd (Array.mem_toList_iff.2 (Array.mem_of_getElem? ho))
    rw [Oper.semAt_eq _ _ _ (fun c hc => absurd hc (hnd c))]
    unfold Oper.wp at h
    exact Qbb h
   ·exact absurd h hQ
  ·rename_i hw
   rw [if_neg hw]
   exact ⟨fun f _ => trivial, h⟩

theorem Q92 {P : Program} {ops : Array Oper} {Q : Exit → Act → World → Prop} {md : Region.Mode} {l m : Nat} (hQ : ¬ LetsOut Q) (hd : noDefer ops.toList = true) : ∀ (fuel : Nat) (listed : Array Bool) (a : Act) (w : World), wpAny P md ops Q fuel listed a w → wpAnyIn (Fence.wide.inRound l) m P md ops Q fuel listed a w
 | 0, _, _, _, h => h
 | fuel + 1, _, _, _, h => ⟨h.1, fun i hi => Qf2 hQ hd (wpOp_mono (fun a' w' h' => Q92 hQ hd fuel _ a' w' h') (h.2 i hi))⟩

theorem Qdr {K : Act → World → Prop} : ¬ LetsOut (Only K) := fun ⟨_, _, h⟩ => h

theorem Q6p {c : Cx} {kd : Nat → Op → Kind} {Q : Exit → Act → World → Prop} {id tail l m : Nat} {order : List Nat} {ops : Array Oper} {F : SFrame} {H Hs : SHeap} {a : Act} {w : World}
  (hm : c.P.follows .mixedOrders = true) (hd : noDefer ops.toList = true) (hB : canonB c.P kd ops order tail = true) (st : St c F H a w) (hHs : Hsat Hs w) (h : JL c (Q .normal) (.draw Hs true) (sopsAt kd ops tail order) F H) :
  (Code.region id ops true).wpIn (Fence.wide.inRound l) m c.P Q a w := by
 simp only [canonB, Bool.and_eq_true] at hB
 obtain ⟨hs, ht, hal, hl, hc, hu⟩ := hB
 have hl : order.length = ops.size := by simpa using hl
 refine wpIn_mono ?_ (fun e a w h => Only.up e a w h)
 refine wpIn_region_any hm (Q92 Qdr hd _ _ _ _ (Q57 (kd := kd) (S := Src c Hs) _ _ _ _ ?_))
 have st' : St c F H a { w with drawn := w.drawn + 1 } := ⟨st.fr, st.kp.trans (Kp.drew _ _), st.hs.kp (Kp.drew [] w) (by simp), st.wr⟩
 have hU : ∀ i, i < ops.size → isU c.P kd ops i = true → apartU c.P kd ops (Array.replicate ops.size false) i = true := fun i hi hx => by
  have := List.all_eq_true.1 hu i (List.mem_range.2 hi)
  simpa [hx] using this
 refine sim (Q := Only (Q .normal)) (K := Q .normal) hs hU (fun a w h => h) (fun ch a a' w h => h.elim) order _ hc ht ops.size true _ H F (fun _ => none) a a _ h ?_ ?_
 ·refine ⟨st', fun _ => hHs.kp (Kp.drew [] w) (by simp), ⟨rfl, rfl, (fun e ob o d h => by cases h), fun s _ => rfl⟩, ⟨fun e ob h => (by cases h), fun e ob h => (by cases h), fun e ob o h => (by cases h), fun e ob o h => (by cases h), fun e b o h => (by cases h), fun e b h => (by cases h), fun e e' b h => (by cases h)⟩,
   by simp, by simp, fun j hj => by simp, fun j hj _ => ?_, .inl rfl⟩
  have := List.all_eq_true.1 hal j (List.mem_range.2 hj)
  simpa using this
 ·exact hl ▸ List.countP_le_length

theorem Q6o {c : Cx} {Q : Exit → Act → World → Prop} {id l m : Nat} {ops : Array Oper} {ov : List (Nat × Kind)} {F : SFrame} {H : SHeap} {a : Act} {w : World}
  (hd : noDefer ops.toList = true) (st : St c F H a w) (h : JL c (Q .normal) .text (textOps ov ops 0 ops.toList) F H) : (Code.region id ops false).wpIn (Fence.wide.inRound l) m c.P Q a w := by
 obtain ⟨kd, hl, he⟩ := Q3z ov ops ops.toList 0
 rw [he] at h
 have := Q3k (P := c.P) (ops := ops) (Q := Only (Q .normal)) rfl _ F H h a w st
 rw [List.map_fst_zip (by omega)] at this
 exact wpIn_mono (wpIn_region_list (Q49 Qdr hd this)) (fun e a w h => Only.up e a w h)

theorem Q7w {P : Program} {F : Fence} {n : Nat} {Q : Exit → Act → World → Prop} {c : Code} {a : Act} {w : World} (I : Nat → Act → World → Prop) (n0 : Nat) (h₀ : I n0 a w)
  (round : ∀ m a w, I m a w → c.wpIn F n P (Exit.then (fun a' w' => ∃ k, k < m ∧ I k a' w') Q) a w) : (Code.loop c).wpIn F n P Q a w := by
 intro b k cs hro hb hr
 have key : ∀ j a w, I j a w →
   ∃ e a' w', Q e a' w' ∧ ArrivesIn (Machine.fenced P F) P (lone (b.atR a (.code c :: .inLoop c :: k)) cs w) b k cs e a' w' := by
  intro j
  induction j using Nat.strongRecOn with
  | _ j ih =>
   intro a w hI
   obtain ⟨e, a₁, w₁, hq, harr⟩ := round j a w hI b (.inLoop c :: k) cs hro hb hr
   cases e with
   | normal =>
    obtain ⟨m, hlt, hI₁⟩ := hq
    obtain ⟨e₂, a₂, w₂, hq₂, harr₂⟩ := ih m hlt a₁ w₁ hI₁
    exact ⟨e₂, a₂, w₂, hq₂, .of_steps (StepsIn.trans harr (.one (fenced_calm hb hr rfl) stepR_inLoop)) harr₂⟩
   | exit id => exact ⟨_, a₁, w₁, hq, .pass (x := .inLoop c) rfl (fun _ _ => .inl (by simp)) harr⟩
   | goto l => exact ⟨_, a₁, w₁, hq, .pass (x := .inLoop c) rfl (fun _ _ => .inl (by simp)) harr⟩
   | ret => exact ⟨_, a₁, w₁, hq, .pass (x := .inLoop c) rfl (fun _ _ => .inl (by simp)) harr⟩
   | panic ch => exact ⟨_, a₁, w₁, hq, .pass (x := .inLoop c) rfl (fun _ _ => .inl (by simp)) harr⟩
   | outgrown => exact ⟨_, a₁, w₁, hq, .pass (x := .inLoop c) rfl (fun _ _ => .inl (by simp)) harr⟩
 obtain ⟨e, a', w', hq, harr⟩ := key n0 a w h₀
 exact ⟨e, a', w', hq, .of_steps (.one (fenced_calm hb hr rfl) stepR_loop) harr⟩

def toB (l m : Nat) (od : List Od) : Code → SCode
 | .skip => .skip
 | .region id ops true => .opsD (sopsAt (kindAt (odAt od id).ov) ops (odAt od id).tail (ordOf (odAt od id) ops.size))
 | .region id ops false => .ops (textOps (odAt od id).ov ops 0 ops.toList)
 | .seq a b => .seq (toB l m od a) (toB l m od b)
 | .cond c a b => .cond c (toB l m od a) (toB l m od b)
 | .block id c => .block id (toB l m od c)
 | .loop c => .loop (toB l m od c)
 | .exit id => .exit id
 | .ret => .ret
 | c => .rawIn l m c

def okB (P : Program) (od : List Od) : Code → Bool
 | .region id ops true => canonB P (kindAt (odAt od id).ov) ops (ordOf (odAt od id) ops.size) (odAt od id).tail && noDefer ops.toList
 | .region _ ops false => noDefer ops.toList
 | .seq a b => okB P od a && okB P od b
 | .cond _ a b => okB P od a && okB P od b
 | .block _ c => okB P od c
 | .loop c => okB P od c
 | _ => true

theorem Q1v {c : Cx} (l m : Nat) (od : List Od) (hm : c.P.follows .mixedOrders = true) : ∀ (s : Code) (Q : Exit → Act → World → Prop) (a : Act) (w : World),
  okB c.P od s = true → (toB l m od s).wp c Q a w → s.wpIn (Fence.wide.inRound l) m c.P Q a w
 | .skip, Q, a, w, _, h => wpIn_skip h
 | .region id ops false, Q, a, w, hk, h => by
  obtain ⟨F, H, st, h⟩ := h
  exact Q6o hk st h
 | .region id ops true, Q, a, w, hk, h => by
  obtain ⟨F, H, Hs, st, hHs, h⟩ := h
  simp only [okB, Bool.and_eq_true] at hk
  exact Q6p hm hk.2 hk.1 st hHs h
 | .seq x y, Q, a, w, hk, h => by
  simp only [okB, Bool.and_eq_true] at hk
  refine wpIn_seq (Q1v l m od hm x _ a w hk.1 ?_)
  refine wp_of_toS.wp_mono' (fun e a w hq => ?_) h
  cases e <;> first | exact hq | exact Q1v l m od hm y _ _ _ hk.2 hq
 | .cond x y z, Q, a, w, hk, h => by
  simp only [okB, Bool.and_eq_true] at hk
  obtain ⟨t, hc, h1, h2⟩ := h
  exact wpIn_cond_split hc (fun ht => Q1v l m od hm y _ _ _ hk.1 (h1 ht)) (fun ht => Q1v l m od hm z _ _ _ hk.2 (h2 ht))
 | .block id s, Q, a, w, hk, h => wpIn_block (Q1v l m od hm s _ _ _ hk h)
 | .loop s, Q, a, w, hk, h => by
  obtain ⟨I, ⟨n, h0⟩, hr⟩ := h
  exact Q7w I n h0 fun n a w hi => Q1v l m od hm s _ _ _ hk (hr n a w hi)
 | .exit id, Q, a, w, _, h => wpIn_exit h
 | .ret, Q, a, w, _, h => wpIn_ret h
 | .scope _, _, _, _, _, h => h
 | .label _, _, _, _, _, h => h
 | .goto _, _, _, _, _, h => h
 | .refuse _, _, _, _, _, h => h
 | .rangeFunc .., _, _, _, _, h => h

def Cells (H : SHeap) : Prop := ∀ p ∈ H, p.2.isCells = true

theorem Cells.nil : Cells [] := fun _ h => nomatch h
theorem Cells.cons {H : SHeap} {b : Nat} {cs : Array Value} {T : TypeId} {fz : Nat × Nat} (h : Cells H) : Cells ((b, .cells cs T fz) :: H) := fun p hp => by
 rcases List.mem_cons.1 hp with rfl | hp
 ·rfl
 ·exact h p hp
theorem Cells.app {A B : SHeap} (h : Cells A) (k : Cells B) : Cells (A ++ B) := fun p hp => by
 rcases List.mem_append.1 hp with hp | hp
 ·exact h p hp
 ·exact k p hp
theorem OwnRow.cells' {e : TypeId} {sz n : Nat} {N : SHeap} {v : Value} {cs : List Value} (h : OwnRow e sz N v n cs) : Cells N := by
 obtain ⟨_, ⟨_, _, rfl⟩ | ⟨b, cap, cur, _, rfl, _⟩⟩ := h
 ·exact Cells.nil
 ·exact Cells.cons Cells.nil

structure RSt (wb : World) (c : Cx) (H : SHeap) (W : World) : Prop where
 hs : Hsat H W
 wr : ∀ p ∈ H, c.w0.heap.size ≤ p.1 ∨ p.1 ∈ c.M
 kp : Kp c.M c.w0 W
 kb : Kp [] wb W
 ge : ∀ p ∈ H, wb.heap.size ≤ p.1
 cells : Cells H

def RInv {N : Nat} (wb : World) (c : Cx) (n0 : Nat) (Iv : List Nat → SHeap → Prop) (xs : List {i : Nat // i < N}) (W : World) : Prop := n0 ≤ W.heap.size ∧ ∃ H, Iv (xs.map (·.1)) H ∧ RSt wb c H W

theorem Qe8 {N : Nat} {wb : World} {c : Cx} {Iv : List Nat → SHeap → Prop} {B n0 : Nat} (hb : wb.heap.size ≤ B) (hB : c.w0.heap.size ≤ B) : OwnFrom B (RInv (N := N) wb c n0 Iv) := by
 rintro xs W W' row ⟨hn0, H, hi, hs, hwr, hk, hkb, hge, hc⟩ hg hr
 have key : ∀ (k : Nat) (o : Obj), W.heap[k]? = some o → o.isCells = true → W'.heap[k]? = some o := fun k o h hc => by
  refine (hg.block k (Array.getElem?_eq_some_iff.1 h).1 (fun e => ?_)).trans h
  obtain ⟨_, o', h1, h2⟩ := hr k e.symm
  rw [h] at h1
  cases h1
  rw [hc] at h2; cases h2
 have kpx : ∀ (M : List Nat) (w0 : World), w0.heap.size ≤ B → Kp M w0 W → Kp M w0 W' := fun M w0 h0 hk =>
  ⟨hg.os.trans hk.os, hg.tape.trans hk.tape, hg.output.trans hk.output, Nat.le_trans hk.size hg.size, fun k hk' hm => (hg.block k (Nat.lt_of_lt_of_le hk' hk.size) (fun e => by have := (hr k e.symm).1; omega)).trans (hk.block k hk' hm)⟩
 exact ⟨Nat.le_trans hn0 hg.size, H, hi, ⟨hs.nd, fun p hp => key _ _ (hs.blk p hp) (hc p hp)⟩, hwr, kpx _ _ hB hk, kpx _ _ hb hkb, hge, hc⟩

def exH : Option Obj → Nat → SHeap
 | none, _ => []
 | some o, b => [(b, o)]
def exOk (n0 : Nat) (W : World) : Option Obj → Nat → Prop
 | none, _ => True
 | some o, b => W.heap[b]? = some o ∧ n0 ≤ b ∧ o.isCells = true
def AsgX (n n0 : Nat) (FA : Nat → SFrame) (ob : Option Obj) (a : Act) (W : World) : Prop := ∃ b, FrOK n (FA b) a ∧ exOk n0 W ob b
def asgEnd (n : Nat) (FA : Nat → SFrame) (ob : Option Obj) (c : Cx) : Exit → Act → World → Prop
 | .normal, a, w => Kp [] c.w0 w ∧ AsgX n c.w0.heap.size FA ob a w
 | _, _, _ => False
def bodyEnd (J : SHeap → Prop) (c : Cx) : Exit → Act → World → Prop
 | .normal, a, w => ∃ F H, J H ∧ Cells H ∧ St c F H a w
 | _, _, _ => False

theorem Q48 {c : Cx} {F : SFrame} {FA : Nat → SFrame} {H : SHeap} (hM : c.M = []) (hc : cov F (FA 0)) : JX c (asgEnd c.n FA none c) .normal F H :=
 ⟨fun a w st => ⟨by have := st.kp; rwa [hM] at this, 0, ⟨st.fr.defers, st.fr.size, fun i v hl => st.fr.fr i v (Q5e hc i v hl)⟩, trivial⟩⟩
theorem Qew {c : Cx} {F : SFrame} {FA : Nat → SFrame} {H : SHeap} {b : Nat} {o : Obj} (k : Nat) (hM : c.M = []) (hk : H[k]? = some (b, o)) (ho : o.isCells = true) (hc : cov F (FA b)) : JX c (asgEnd c.n FA (some o) c) .normal F H :=
 ⟨fun a w st => ⟨by have := st.kp; rwa [hM] at this, b, ⟨st.fr.defers, st.fr.size, fun i v hl => st.fr.fr i v (Q5e hc i v hl)⟩, st.hs.blk _ (List.mem_of_getElem? hk), (by
  rcases st.wr _ (List.mem_of_getElem? hk) with h | h
  ·exact h
  ·rw [hM] at h; cases h), ho⟩⟩
theorem Qe9 {n n0 B : Nat} {FA : Nat → SFrame} {ob : Option Obj} {a : Act} : OwnFrom B (fun (_ : Unit) W => AsgX n n0 FA ob a W) := by
 rintro _ W W' row ⟨b, hf, hx⟩ hg hr
 refine ⟨b, hf, ?_⟩
 cases ob with
 | none => trivial
 | some o =>
  obtain ⟨h, hb, hc⟩ := hx
  refine ⟨(hg.block b (Array.getElem?_eq_some_iff.1 h).1 (fun e => ?_)).trans h, hb, hc⟩
  obtain ⟨_, o', h1, h2⟩ := hr b e.symm
  rw [h] at h1
  cases h1
  rw [hc] at h2; cases h2
theorem AsgX.le {n n0 n1 : Nat} {FA : Nat → SFrame} {ob : Option Obj} {a : Act} {W : World} (h : AsgX n n0 FA ob a W) (hn : n1 ≤ n0) : AsgX n n1 FA ob a W := by
 obtain ⟨b, hf, hx⟩ := h
 refine ⟨b, hf, ?_⟩
 cases ob with
 | none => trivial
 | some o => exact ⟨hx.1, Nat.le_trans hn hx.2.1, hx.2.2⟩
theorem RSt.ex {wb : World} {c : Cx} {H : SHeap} {W : World} {ob : Option Obj} {b n0 : Nat} (h : RSt wb c H W) (hx : exOk n0 W ob b) (h1 : wb.heap.size ≤ n0) (h2 : c.w0.heap.size ≤ n0) (hd : ∀ o, ob = some o → ∀ p ∈ H, p.2 ≠ o) : RSt wb c (exH ob b ++ H) W := by
 cases ob with
 | none => exact h
 | some o =>
  obtain ⟨hb, hn, hc⟩ := hx
  refine ⟨h.hs.cons hb (fun hm => ?_), fun p hp => ?_, h.kp, h.kb, fun p hp => ?_, fun p hp => ?_⟩
  ·obtain ⟨p, hp, e⟩ := List.mem_map.1 hm
   have := h.hs.blk p hp
   rw [e, hb] at this
   exact hd o rfl p hp (Option.some.inj this).symm
  all_goals
   rcases List.mem_cons.1 hp with rfl | hp
  ·exact .inl (Nat.le_trans h2 hn)
  ·exact h.wr p hp
  ·exact Nat.le_trans h1 hn
  ·exact h.ge p hp
  ·exact hc
  ·exact h.cells p hp
theorem Q2i {c : Cx} {F : SFrame} {H H' : SHeap} {J : SHeap → Prop} (hJ : J H') (hc : Cells H') (hs : HSub H' H) : JX c (bodyEnd J c) .normal F H :=
 ⟨fun a w st => ⟨[], H', hJ, hc, st.part trivial hs⟩⟩

theorem zip2 (p1 p2 : Tmp) (u v : Value) (t : Array Value) : ((#[p1, p2] : Array Tmp).zip #[u, v]).foldl (fun t (p, v) => t.setIfInBounds p v) t = (t.setIfInBounds p1 u).setIfInBounds p2 v := by simp

theorem FrOK.set' {n : Nat} {F : SFrame} {a : Act} (h : FrOK n F a) {d : Nat} (v : Value) (hd : Nat.blt d n = true) : FrOK n ((d, v) :: F) { a with tmps := a.tmps.setIfInBounds d v } := by
 have := h.put (d := some d) v (by simpa [dstOk] using hd)
 exact this

theorem Qcl {H : SHeap} {W : World} (hs : Hsat H W) : ∀ k ∈ keys H, k < W.heap.size := fun k hk => by
 obtain ⟨p, hp, rfl⟩ := List.mem_map.1 hk
 exact hs.lt hp

theorem Qev {wb : World} {c c2 : Cx} {H H' : SHeap} {W' : World} {a' : Act} {F : SFrame} (B bx : Nat) (box : Obj) (h : RSt wb c H c2.w0) (hM : c2.M = keys H) (st : St c2 F H' a' W') (hc : Cells H') (hb : (bx, box) ∈ H) (hb' : (bx, box) ∈ H') :
  KeepsFrom B c2.w0 W' ∧ KB [bx] c2.w0 W' ∧ RSt wb c H' W' := by
 have hk := st.kp
 have hnm : ∀ q, q < c2.w0.heap.size → (∀ o, c2.w0.heap[q]? = some o → o.isCells = false) → q ∉ keys H := fun q hq ho hm => by
  obtain ⟨p, hp, rfl⟩ := List.mem_map.1 hm
  have h1 := ho _ (h.hs.blk p hp)
  rw [h.cells p hp] at h1; cases h1
 refine ⟨⟨hk.size, fun k o _ ho hcl => (hk.block k (Array.getElem?_eq_some_iff.1 ho).1 ?_).trans ho⟩, fun q hq => ?_, ⟨st.hs, fun p hp => ?_, ?_, ?_, fun p hp => ?_, hc⟩⟩
 ·rw [hM]; exact hnm k (Array.getElem?_eq_some_iff.1 ho).1 (fun o' ho' => by rw [ho] at ho'; cases ho'; exact hcl)
 ·cases List.mem_singleton.1 hq
  exact (st.hs.blk _ hb').trans (h.hs.blk _ hb).symm
 ·rcases st.wr p hp with h1 | h1
  ·exact .inl (Nat.le_trans h.kp.size h1)
  ·rw [hM] at h1
   obtain ⟨q, hq, e⟩ := List.mem_map.1 h1
   rw [← e]; exact h.wr q hq
 ·refine ⟨hk.os.trans h.kp.os, hk.tape.trans h.kp.tape, hk.output.trans h.kp.output, Nat.le_trans h.kp.size hk.size, fun q hq hm => (hk.block q (Nat.lt_of_lt_of_le hq h.kp.size) ?_).trans (h.kp.block q hq hm)⟩
  rw [hM]
  intro hq2
  obtain ⟨p, hp, rfl⟩ := List.mem_map.1 hq2
  rcases h.wr p hp with h1 | h1
  ·omega
  ·exact hm h1
 ·refine ⟨hk.os.trans h.kb.os, hk.tape.trans h.kb.tape, hk.output.trans h.kb.output, Nat.le_trans h.kb.size hk.size, fun q hq _ => (hk.block q (Nat.lt_of_lt_of_le hq h.kb.size) ?_).trans (h.kb.block q hq (by simp))⟩
  rw [hM]
  intro hq2
  obtain ⟨p, hp, rfl⟩ := List.mem_map.1 hq2
  have := h.ge p hp
  omega
 ·rcases st.wr p hp with h1 | h1
  ·exact Nat.le_trans h.kb.size h1
  ·rw [hM] at h1
   obtain ⟨q, hq, e⟩ := List.mem_map.1 h1
   rw [← e]; exact h.ge q hq

theorem Qkb {N : Nat} {wb : World} {c : Cx} {Iv : List Nat → SHeap → Prop} {xs : List {i : Nat // i < N}} {B n0 bx : Nat} {box : Obj} {W W' : World} (h : RInv wb c n0 Iv xs W) (hbx : ∀ k H', Iv k H' → (bx, box) ∈ H') (hk : Kp [] W W') : KeepsFrom B W W' ∧ KB [bx] W W' ∧ RInv wb c n0 Iv xs W' := by
 obtain ⟨hn0, H, hi, hs, hwr, hk0, hkb, hge, hc⟩ := h
 have hs' := hs.kp hk (by simp)
 exact ⟨⟨hk.size, fun k o _ h _ => (hk.block k (Array.getElem?_eq_some_iff.1 h).1 (by simp)).trans h⟩, fun q hq => by cases List.mem_singleton.1 hq; exact (hs'.blk _ (hbx _ _ hi)).trans (hs.blk _ (hbx _ _ hi)).symm,
  Nat.le_trans hn0 hk.size, H, hi, hs', hwr, hk0.trans (hk.mono (fun k hk' => by cases hk')), hkb.trans hk, hge, hc⟩

theorem St.heap {c : Cx} {F : SFrame} {H H' : SHeap} {a : Act} {w : World} (h : St c F H a w) (hh : HSub H' H) : St c F H' a w :=
 ⟨h.fr, h.kp, hh.hsat h.hs, fun p hp => h.wr p (hh.mem p hp)⟩

section
variable {c : Cx} {Q : Exit → Act → World → Prop} {F : SFrame} {H : SHeap} {g : Operand} {p1 p2 : Tmp} {assign body tail : Code} {gf : Nat} {lb : Array Value} {u v : Nat → Value} {N bx : Nat} {box : Obj} {fn : Func} {R : Ending → World → Prop}

def IterOf (P : Program) (gf : Nat) (lb : Array Value) (u v : Nat → Value) (N bx : Nat) (box : Obj) : Prop :=
 ∀ (n : Nat) (W : World), 1 ≤ n → W.heap[bx]? = some box → SeqStopsK Fence.wide n P gf lb (fun i : {i : Nat // i < N} => #[u i.1, v i.1]) (KB [bx]) (fun ys => ys.map (·.1) = List.range N) (fun _ => True) N W

theorem Qhe {wb : World} {od : List Od} (hm : c.P.follows .mixedOrders = true) {Iv : List Nat → SHeap → Prop} (hbx : ∀ k H', Iv k H' → (bx, box) ∈ H') {FA : Nat → SFrame} {ob : Option Obj} {B n0 l m : Nat} {pre : List {i : Nat // i < N}} {i : {i : Nat // i < N}} {a' : Act} {W1 : World} (hokb : okB c.P od body = true) (hl : ∃ r, W1.heap[l]? = some (.loop r)) (hI : RInv wb c n0 Iv pre W1) (hA : AsgX c.n n0 FA ob a' W1) (hn0 : wb.heap.size ≤ n0) (hn1 : c.w0.heap.size ≤ n0) (hlen : pre.length < N)
  (hd : ∀ o, ob = some o → ∀ k H', Iv k H' → ∀ p ∈ H', p.2 ≠ o)
  (hbody : ∀ b H' hM', Iv (pre.map (·.1)) H' → l ∉ keys (exH ob b ++ H') → Kp [] wb W1 → (∀ p ∈ exH ob b ++ H', wb.heap.size ≤ p.1) → JC ⟨c.P, c.n, W1, keys (exH ob b ++ H'), hM'⟩ (bodyEnd (Iv (pre.map (·.1) ++ [i.1])) ⟨c.P, c.n, W1, keys (exH ob b ++ H'), hM'⟩) (toB l m od body) (FA b) (exH ob b ++ H')) :
  body.wpIn (Fence.wide.inRound l) m c.P (ownPostG B (KB [bx]) (RInv wb c n0 Iv) (fun _ _ _ => False) (pre ++ [i]) W1) a' W1 := by
 obtain ⟨hsz, H0, hi, hR0⟩ := hI
 obtain ⟨b, hA, hx⟩ := hA
 have hR := hR0.ex hx hn0 hn1 (fun o ho => hd o ho _ _ hi)
 obtain ⟨r, hr⟩ := hl
 have hln : l ∉ keys (exH ob b ++ H0) := fun hm' => by
  obtain ⟨p, hp, rfl⟩ := List.mem_map.1 hm'
  have h1 := hR.hs.blk p hp
  rw [hr] at h1
  have h2 := hR.cells p hp
  rw [← Option.some.inj h1] at h2; cases h2
 have hM' := Qcl hR.hs
 refine wpIn_mono (Q1v (c := ⟨c.P, c.n, W1, keys (exH ob b ++ H0), hM'⟩) l m od hm body _ _ _ hokb ((hbody b H0 hM' hi hln hR.kb hR.ge).h _ _ ⟨hA, Kp.refl _ _, hR.hs, fun p hp => .inr (List.mem_map.2 ⟨p, hp, rfl⟩)⟩)) (fun e a w hq => ?_)
 cases e with
 | normal =>
  obtain ⟨F2, H2, hJ, hc2, st2⟩ := hq
  obtain ⟨h1, h2, h3⟩ := Qev (c2 := ⟨c.P, c.n, W1, keys (exH ob b ++ H0), hM'⟩) B bx box hR rfl st2 hc2 (List.mem_append_right _ (hbx _ _ hi)) (hbx _ _ hJ)
  exact ⟨h1, h2, Nat.le_trans hsz st2.kp.size, H2, by rw [List.map_append]; exact hJ, h3⟩
 | _ => exact hq.elim

theorem Q3g {od : List Od} (wb : World) (hwb : c.w0 = wb) (hm : c.P.follows .mixedOrders = true) (hM : c.M = []) (hg : ev F g = some (.func (.func gf) #[] lb)) (eg : ∀ args w, (callFunc gf args).run c.P w = .ok (.enter gf args) w)
  (it : IterOf c.P gf lb u v N bx box) (Iv : List Nat → SHeap → Prop) (hbx : ∀ k H', Iv k H' → (bx, box) ∈ H') (hcl : ∀ k H', Iv k H' → Cells H') (H0 : SHeap) (h0 : Iv [] H0) (hH0 : HSub H0 H) (FA : Nat → Nat → SFrame) (ob : Nat → Option Obj) (hd : ∀ i o, ob i = some o → ∀ k H', Iv k H' → ∀ p ∈ H', p.2 ≠ o)
  (hp1 : Nat.blt p1 c.n = true) (hp2 : Nat.blt p2 c.n = true) (hoka : okB c.P od assign = true) (hokb : okB c.P od body = true) (htl : tailOK tail = true) (hQ : ∀ a w, tail.wp c.P (bodyPostM Fence.wide 5 c.P fn R) a w → Q .normal a w)
  (hassign : ∀ l i W hW, JC ⟨c.P, c.n, W, [], hW⟩ (asgEnd c.n (FA i) (ob i) ⟨c.P, c.n, W, [], hW⟩) (toB l 3 od assign) ((p2, v i) :: (p1, u i) :: F) [])
  (hbody : ∀ l i pre b H' W1 hM', i < N → pre.length < N → Iv pre H' → (∃ r, W1.heap[l]? = some (.loop r)) → l ∉ keys (exH (ob i) b ++ H') → Kp [] wb W1 → (∀ p ∈ exH (ob i) b ++ H', wb.heap.size ≤ p.1) → JC ⟨c.P, c.n, W1, keys (exH (ob i) b ++ H'), hM'⟩ (bodyEnd (Iv (pre ++ [i])) ⟨c.P, c.n, W1, keys (exH (ob i) b ++ H'), hM'⟩) (toB l 3 od body) (FA i b) (exH (ob i) b ++ H'))
  (hdone : ∀ D H', Iv (List.range N) H' → wb.heap.size ≤ D → JC c (fun e a w => bodyPostM Fence.wide 5 c.P fn R e (ad [{ target := .collected D, args := #[] }] a) w) (toS od tail) F ((D, .deferred (some [])) :: H')) :
  JC c Q (.raw (.rangeFunc g #[p1, p2] assign body)) F H := by
 subst hwb
 refine ⟨fun a W st => ?_⟩
 obtain ⟨tm, df⟩ := a
 obtain rfl : df = [] := st.fr.defers
 have st0 := st.heap hH0
 have hkp : Kp [] c.w0 W := by have := st.kp; rwa [hM] at this
 have hI0 : RInv (N := N) c.w0 c W.heap.size Iv [] W := ⟨Nat.le_refl _, H0, h0, st0.hs, st0.wr, st.kp, hkp, fun p hp => (by
  rcases st0.wr p hp with h | h
  ·exact h
  ·rw [hM] at h; cases h), hcl _ _ h0⟩
 have hWs : c.w0.heap.size ≤ W.heap.size := st.kp.size
 have hbxW := st0.hs.blk _ (hbx _ _ h0)
 have hbxlt : bx < W.heap.size := (Array.getElem?_eq_some_iff.1 hbxW).1
 refine wpIn_wide.1 (wpIn_rangeFunc_ownH (F := Fence.wide) (n := 5) rfl (by omega) (gf := gf) (lb := lb) (st.fr.ev hg) trivial eg
  (it 4 W (by omega) hbxW) KB.trans (fun W' l o o' hl ho _ _ q hq => ?_) (Below.refl _ _) (fun _ => rfl)
  (RInv c.w0 c W.heap.size Iv) (fun _ _ _ => False) (Qe8 hWs hWs) (fun _ _ _ _ _ hs _ _ => hs) hI0 (fun i a W' => AsgX c.n W.heap.size (FA i.1) (ob i.1) a W') (fun _ _ => Qe9) ?assign ?body ?done ?stop)
 ·cases List.mem_singleton.1 hq
  exact World.putObj_heap_other (fun e => by omega)
 case assign =>
  intro l pre i W1 K hI hK
  have hW1 : W.heap.size ≤ W1.heap.size := hI.1
  rw [zip2]
  refine wpIn_mono (Q1v (c := ⟨c.P, c.n, W1, [], by simp⟩) l 3 od hm assign _ _ _ hoka ((hassign l i.1 W1 (by simp)).h _ _ ⟨?_, Kp.refl _ _, ⟨by simp, by simp⟩, fun p hp => by cases hp⟩)) (fun e a w hq => ?_)
  ·exact (st.fr.set' (u i.1) hp1).set' (v i.1) hp2
  ·cases e with
   | normal =>
    obtain ⟨h1, h2, h3⟩ := Qkb (B := W.heap.size) hI hbx hq.1
    exact hK _ _ h1 h2 h3 (hq.2.le hW1)
   | _ => exact hq.elim
 case body =>
  intro l pre i a' W1 hl hr hI hA hlen
  exact Qhe hm hbx hokb hr hI hA (Nat.le_trans hkp.size (Nat.le_refl _)) hWs hlen (fun o ho k H' hH' => hd i.1 o ho k H' hH') (fun b H' hM' hi hln hkb hge => hbody l i.1 _ b H' W1 hM' i.2 (by rw [List.length_map]; exact hlen) hi hr hln hkb hge)
 case done =>
  intro D ys W1 hD hys hI hDd
  obtain ⟨_, H', hi, hR⟩ := hI
  rw [hys] at hi
  have hD2 : c.w0.heap.size ≤ D := Nat.le_trans hWs hD
  have hDn : D ∉ H'.map (·.1) := fun hm => by
   obtain ⟨p, hp, rfl⟩ := List.mem_map.1 hm
   have h1 := hR.hs.blk p hp
   rw [hDd] at h1
   have h2 := hR.cells p hp
   rw [← Option.some.inj h1] at h2; cases h2
  refine hQ _ _ (Q3j (c := c) od [{ target := .collected D, args := #[] }] tail (fun e a w => bodyPostM Fence.wide 5 c.P fn R e (ad [{ target := .collected D, args := #[] }] a) w) _ htl (fun e a w h => h) { tmps := tm, defers := [] } W1 ((hdone D H' hi hD2).h _ _ ⟨st.fr, hR.kp, hR.hs.cons hDd hDn, fun p hp => ?_⟩))
  rcases List.mem_cons.1 hp with rfl | hp
  ·exact .inl hD2
  ·exact hR.wr p hp
 case stop =>
  intro D c pre W1 _ _ h _
  exact h.elim

theorem Qex {od : List Od} {l0 : Nat} (wb : World) (hm : c.P.follows .mixedOrders = true) (hl0 : ∃ r, c.w0.heap[l0]? = some (.loop r)) (hlM : l0 ∉ c.M) (hg : ev F g = some (.func (.func gf) #[] lb)) (eg : ∀ args w, (callFunc gf args).run c.P w = .ok (.enter gf args) w)
  (it : IterOf c.P gf lb u v N bx box) (hkb : Kp [] wb c.w0) (hMb : ∀ k ∈ c.M, wb.heap.size ≤ k) (Iv : List Nat → SHeap → Prop) (hbx : ∀ k H', Iv k H' → (bx, box) ∈ H') (hcl : ∀ k H', Iv k H' → Cells H') (H0 : SHeap) (h0 : Iv [] H0) (hH0 : HSub H0 H) (FA : Nat → Nat → SFrame) (ob : Nat → Option Obj) (hd : ∀ i o, ob i = some o → ∀ k H', Iv k H' → ∀ p ∈ H', p.2 ≠ o)
  (hp1 : Nat.blt p1 c.n = true) (hp2 : Nat.blt p2 c.n = true) (hoka : okB c.P od assign = true) (hokb : okB c.P od body = true)
  (hassign : ∀ l i W hW, JC ⟨c.P, c.n, W, [], hW⟩ (asgEnd c.n (FA i) (ob i) ⟨c.P, c.n, W, [], hW⟩) (toB l 1 od assign) ((p2, v i) :: (p1, u i) :: F) [])
  (hbody : ∀ l i pre b H' W1 hM', i < N → pre.length < N → Iv pre H' → l ∉ keys (exH (ob i) b ++ H') → Kp [] wb W1 → (∀ p ∈ exH (ob i) b ++ H', wb.heap.size ≤ p.1) → JC ⟨c.P, c.n, W1, keys (exH (ob i) b ++ H'), hM'⟩ (bodyEnd (Iv (pre ++ [i])) ⟨c.P, c.n, W1, keys (exH (ob i) b ++ H'), hM'⟩) (toB l 1 od body) (FA i b) (exH (ob i) b ++ H'))
  (hdone : ∀ H', Iv (List.range N) H' → JX c Q .normal F H') :
  JC c Q (.rawIn l0 3 (.rangeFunc g #[p1, p2] assign body)) F H := by
 refine ⟨fun a W st => ?_⟩
 obtain ⟨tm, df⟩ := a
 obtain rfl : df = [] := st.fr.defers
 have st0 := st.heap hH0
 obtain ⟨r0, hr0⟩ := hl0
 have hr1 : W.heap[l0]? = some (.loop r0) := (st.kp.block l0 (Array.getElem?_eq_some_iff.1 hr0).1 hlM).trans hr0
 have hkp : Kp [] wb W := ⟨st.kp.os.trans hkb.os, st.kp.tape.trans hkb.tape, st.kp.output.trans hkb.output, Nat.le_trans hkb.size st.kp.size, fun q hq _ => (st.kp.block q (Nat.lt_of_lt_of_le hq hkb.size) (fun h => by have := hMb q h; omega)).trans (hkb.block q hq (by simp))⟩
 have hI0 : RInv (N := N) wb c W.heap.size Iv [] W := ⟨Nat.le_refl _, H0, h0, st0.hs, st0.wr, st.kp, hkp, fun p hp => (by
  rcases st0.wr p hp with h | h
  ·exact Nat.le_trans hkb.size h
  ·exact hMb _ h), hcl _ _ h0⟩
 have hWs : c.w0.heap.size ≤ W.heap.size := st.kp.size
 have hbxW := st0.hs.blk _ (hbx _ _ h0)
 have hbxlt : bx < W.heap.size := (Array.getElem?_eq_some_iff.1 hbxW).1
 refine wpIn_rangeFunc_ownN (F := Fence.wide.inRound l0) (n := 3) rfl hr1 (by omega) (gf := gf) (lb := lb) (st.fr.ev hg) trivial eg
  (SeqStopsK.inRound l0 (it 2 W (by omega) hbxW)) KB.trans (fun W' l o o' hl ho _ _ q hq => ?_) (Below.refl _ _) (fun _ => rfl)
  (RInv wb c W.heap.size Iv) (fun _ _ _ => False) (Qe8 hkp.size hWs) (fun _ _ _ _ _ hs _ _ => hs) hI0 (fun i a W' => AsgX c.n W.heap.size (FA i.1) (ob i.1) a W') (fun _ _ => Qe9) ?assign ?body ?done ?stop
 ·cases List.mem_singleton.1 hq
  exact World.putObj_heap_other (fun e => by omega)
 case assign =>
  intro l pre i W1 K hI hK
  have hW1 : W.heap.size ≤ W1.heap.size := hI.1
  rw [zip2]
  refine wpIn_mono (Q1v (c := ⟨c.P, c.n, W1, [], by simp⟩) l 1 od hm assign _ _ _ hoka ((hassign l i.1 W1 (by simp)).h _ _ ⟨?_, Kp.refl _ _, ⟨by simp, by simp⟩, fun p hp => by cases hp⟩)) (fun e a w hq => ?_)
  ·exact (st.fr.set' (u i.1) hp1).set' (v i.1) hp2
  ·cases e with
   | normal =>
    obtain ⟨h1, h2, h3⟩ := Qkb (B := W.heap.size) hI hbx hq.1
    exact hK _ _ h1 h2 h3 (hq.2.le hW1)
   | _ => exact hq.elim
 case body =>
  intro l pre i a' W1 hl hr hI hA hlen
  exact Qhe hm hbx hokb hr hI hA hkp.size hWs hlen (fun o ho k H' hH' => hd i.1 o ho k H' hH') (fun b H' hM' hi hln hkb hge => hbody l i.1 _ b H' W1 hM' i.2 (by rw [List.length_map]; exact hlen) hi hln hkb hge)
 case done =>
  intro ys W1 hys hI
  obtain ⟨_, H', hi, hR⟩ := hI
  rw [hys] at hi
  exact (hdone H' hi).h _ _ ⟨st.fr, hR.kp, hR.hs, hR.wr⟩
 case stop =>
  intro c pre W1 _ h
  exact h.elim

theorem Q56 {D : Nat} (k : Nat) (hD : H[k]? = some (D, .deferred (some []))) (hge : c.w0.heap.size ≤ D) (hM : c.M = []) (h : JX c (endPost c.P fn.results R) .ret F (H.eraseIdx k)) :
  JX c (fun e a w => bodyPostM Fence.wide 5 c.P fn R e (ad [{ target := .collected D, args := #[] }] a) w) .ret F H := by
 refine ⟨fun a w st => ?_⟩
 have hK : w.heap[D]? = some (.deferred (some [])) := st.hs.blk _ (List.mem_of_getElem? hD)
 have hd2 : a.defers = [] := st.fr.defers
 have hk2 : Kp c.M c.w0 (w.putObj D (.deferred none)) := ⟨st.kp.os, st.kp.tape, st.kp.output, by simpa using st.kp.size, fun q hq hm => (World.putObj_heap_other (fun e => by subst e; omega)).trans (st.kp.block q hq hm)⟩
 have hkl : k < H.length := (List.getElem?_eq_some_iff.1 hD).1
 have hsub : HSub (H.eraseIdx k) H := ⟨[(D, .deferred (some []))], by
  have h1 := Q34 H k hkl
  have h2 : H[k] = (D, .deferred (some [])) := (List.getElem?_eq_some_iff.1 hD).2
  rw [h2] at h1
  exact h1.symm.trans (List.perm_append_comm (l₁ := [_]) (l₂ := H.eraseIdx k))⟩
 have st2 := st.heap hsub
 have hne : ∀ p ∈ H.eraseIdx k, p.1 ≠ D := fun p hp e => by
  have h1 := Q34 H k hkl
  have h2 : H[k] = (D, .deferred (some [])) := (List.getElem?_eq_some_iff.1 hD).2
  rw [h2] at h1
  have h3 := (h1.map (·.1)).nodup_iff.2 st.hs.nd
  rw [List.map_cons, List.nodup_cons] at h3
  exact h3.1 (List.mem_map.2 ⟨p, hp, e⟩)
 have st3 : St c F (H.eraseIdx k) a (w.putObj D (.deferred none)) := ⟨st.fr, hk2, ⟨st2.hs.nd, fun p hp => (World.putObj_heap_other (hne p hp)).trans (st2.hs.blk p hp)⟩, st2.wr⟩
 obtain ⟨_, v, hv, hR⟩ := h.h _ _ st3
 show LeavesInM Fence.wide 5 _ _ _ _ (a.defers ++ _) _ _
 rw [hd2]
 exact ⟨by simp, .inl ⟨D, _, rfl, run_takeDeferred hK, v, hv, hR⟩⟩
end

end Go.Proofs.YtdlmnloikakjpaaGreatDoor

