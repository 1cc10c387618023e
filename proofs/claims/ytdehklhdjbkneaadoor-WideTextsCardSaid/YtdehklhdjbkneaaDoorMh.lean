import Derived.Test.YtdehklhdjbkneaaDoorMg
import Derived.Test.YtdehklhdjbkneaaDoorMd
/- The reference model: From. Written by genR6.py. -/
namespace Go.Proofs.YtdehklhdjbkneaaDoor
open Go Go.RowKit
set_option linter.unusedSimpArgs false
set_option linter.unusedVariables false
set_option linter.unusedSectionVars false

theorem from_pow {m j : Nat} (h : m < 65536 ^ (4 - j)) (h0 : 0 < m) (hj : j ≤ 4) : j < 4 ∧ m / 65536 < 65536 ^ (4 - (j + 1)) := by
  have hj4 : j < 4 := by
    refine Decidable.byContradiction fun h1 => ?_
    obtain rfl : j = 4 := by omega
    simp at h
    omega
  refine ⟨hj4, ?_⟩
  rw [show 4 - j = 4 - (j + 1) + 1 by omega, Nat.pow_succ] at h
  exact Nat.div_lt_of_lt_mul (by rw [Nat.mul_comm]; exact h)

set_option maxHeartbeats 4000000 in
theorem c_FromR (w : World) (n : Int) (h1 : -9223372036854775808 ≤ n) (h2 : n < 9223372036854775808) :
    Calls Tryd.prog 35 #[iv n] w (Ret fun r w' => Kp [] w w' ∧ r = Wv n) := by
  have hm : n.natAbs ≤ 9223372036854775808 := by omega
  have hm2 : n.natAbs < 18446744073709551616 := by omega
  by_cases hn : n < 0
  · refine calls_of_S [] [] (by simp) [] Tryd.func35 rfl mixed (by kernel_rfl) Tryd.ntmps35 Tryd.results35 rfl ⟨by simp, by simp⟩ (by simp) ?_
    simp only [toS, textOps, toSOp, kindAt, kindOf, odAt, sopsAt, ordOf, zipF]
    (repeat' (first | refine JC.seq ?_ | refine JC.ops ?_ | refine JO.nil ?_ | refine JX.thenN ?_ | (apply r_move; exact rfl; exact rfl; exact rfl) | (apply r_assign; exact rfl; exact rfl; exact rfl) | (apply r_allocZ; exact rfl; exact rfl; exact rfl; intro _)))
    rename_i b2
    refine r_i64U (18446744073709551616 - n.natAbs) rfl rfl rfl (by rw [IntKind.wrap_u64]; omega) ?_
    (repeat' (first | refine JC.seq ?_ | refine JC.ops ?_ | refine JO.nil ?_ | refine JX.thenN ?_ | (apply r_move; exact rfl; exact rfl; exact rfl) | (apply r_assign; exact rfl; exact rfl; exact rfl) | (apply r_lss; exact rfl; exact rfl; exact rfl; exact rfl; all_goals intro hc; all_goals try (exfalso; omega)) | refine JC.condT rfl ?_))
    refine r_negU rfl rfl rfl (by omega) ?_
    rw [show (18446744073709551616 - (18446744073709551616 - n.natAbs)) % 18446744073709551616 = n.natAbs by omega]
    (repeat' (first | refine JC.seq ?_ | refine JO.nil ?_ | refine JX.thenN ?_ | (apply r_assign; exact rfl; exact rfl; exact rfl) | refine JC.block ?_))
    refine JC.loopH (ι := Nat × Value × SHeap × List Nat) ⟨fun z => [(4, uv z.1), (3, z.2.1), (2, .pointer (some ⟨b2, 0, none⟩)), (0, iv n)], fun z => (b2, .cells #[.bool false, .string ⟨#[]⟩] 27) :: (z.2.2.1 ++ []),
      fun z => z.2.2.2.length ≤ 4 ∧ z.1 < 65536 ^ (4 - z.2.2.2.length) ∧ z.1 < 18446744073709551616 ∧ OwnN z.2.2.1 z.2.1 z.2.2.2.length z.2.2.2 ∧ (∀ x ∈ z.2.2.2, x < B16) ∧ val B16 z.2.2.2 + B16 ^ z.2.2.2.length * z.1 = n.natAbs, fun z => z.1⟩
      (n.natAbs, _, [], []) ⟨Nat.zero_le _, by show n.natAbs < 65536 ^ 4; omega, hm2, OwnN.nil, fun _ h => absurd h List.not_mem_nil, by simp [val]⟩ (by repeat first | exact trivial | refine ⟨rfl, ?_⟩) (by (repeat' first | exact HSub.refl _ | exact HSub.nil _ | refine HSub.at 0 rfl ?_ | refine HSub.at 1 rfl ?_ | refine HSub.at 2 rfl ?_ | refine HSub.at 3 rfl ?_ | refine HSub.at 4 rfl ?_ | refine HSub.at 5 rfl ?_ | refine HSub.at 6 rfl ?_ | refine HSub.at 7 rfl ?_ | refine HSub.at 8 rfl ?_ | refine HSub.at 9 rfl ?_ | refine HSub.at 10 rfl ?_ | refine HSub.at 11 rfl ?_ | refine HSub.at 12 rfl ?_ | refine HSub.at 13 rfl ?_ | refine HSub.at 14 rfl ?_ | refine HSub.at 15 rfl ?_ | refine HSub.at 16 rfl ?_ | refine HSub.at 17 rfl ?_ | refine HSub.at 18 rfl ?_ | refine HSub.at 19 rfl ?_ | refine HSub.segH ?_ | refine HSub.skip ?_ | refine HSub.skipN ?_)) (fun z hz => ?_)
    obtain ⟨m, vo, N, zs⟩ := z
    obtain ⟨hl4, hmp, hm64, hO, hz, hval⟩ := hz
    dsimp only at hl4 hmp hm64 hO hz hval ⊢
    by_cases h0 : 0 < m
    · obtain ⟨hj4, hmp'⟩ := from_pow hmp h0 hl4
      (repeat' (first | refine JC.seq ?_ | refine JC.ops ?_ | refine JO.nil ?_ | refine JX.thenN ?_ | (apply r_move; exact rfl; exact rfl; exact rfl) | (apply r_gtr; exact rfl; exact rfl; exact rfl; exact rfl; all_goals intro hc; all_goals try (exfalso; omega)) | refine JC.skip ?_ | refine JC.condT rfl ?_ | refine JC.block ?_))
      refine r_remU (j := 65536) rfl rfl rfl rfl (by omega) ?_
      refine r_convK (k' := .i64) ((m % 65536 : Nat) : Int) rfl rfl rfl (by rw [IntKind.wrap_i64]; omega) ?_
      (repeat' (first | (apply r_build1; exact rfl; exact rfl; exact rfl; exact rfl; exact rfl; (repeat first | exact trivial | refine ⟨rfl, ?_⟩); decide; decide; intro _)))
      rename_i c2
      refine r_appendN (A := [_, _]) hO (own_lit c2 1 [m % 65536] _ rfl rfl (by decide)).rd (by (repeat' first | exact HSub.nil _ | exact HSub.hd | exact HSub.in0 | exact HSub.refl _ | refine HSub.skip ?_ | refine HSub.skipN ?_)) rfl trivial rfl rfl rfl rfl (by omega) (fun v' N' hO' => ?_)
      (repeat' (first | refine JC.ops ?_ | refine JO.nil ?_ | refine JX.thenN ?_ | (apply r_move; exact rfl; exact rfl; exact rfl) | (apply r_assign; exact rfl; exact rfl; exact rfl)))
      refine r_quoU (j := 65536) rfl rfl rfl rfl (by omega) ?_
      (repeat' (first | refine JO.nil ?_ | (apply r_assign; exact rfl; exact rfl; exact rfl) | refine JX.blockN ?_))
      refine JX.roundH (m / 65536, v', N', zs ++ [m % 65536]) ⟨by simp only [List.length_append, List.length_singleton]; omega, by simp only [List.length_append, List.length_singleton]; exact hmp', by dsimp only; omega, by simp only [List.length_append, List.length_singleton]; exact hO', snoc_lt hz (Nat.mod_lt _ (by decide)), ?_⟩ (by dsimp only; omega) (by repeat first | exact trivial | refine ⟨rfl, ?_⟩) (by (repeat' first | exact HSub.refl _ | exact HSub.nil _ | refine HSub.at 0 rfl ?_ | refine HSub.at 1 rfl ?_ | refine HSub.at 2 rfl ?_ | refine HSub.at 3 rfl ?_ | refine HSub.at 4 rfl ?_ | refine HSub.at 5 rfl ?_ | refine HSub.at 6 rfl ?_ | refine HSub.at 7 rfl ?_ | refine HSub.at 8 rfl ?_ | refine HSub.at 9 rfl ?_ | refine HSub.at 10 rfl ?_ | refine HSub.at 11 rfl ?_ | refine HSub.at 12 rfl ?_ | refine HSub.at 13 rfl ?_ | refine HSub.at 14 rfl ?_ | refine HSub.at 15 rfl ?_ | refine HSub.at 16 rfl ?_ | refine HSub.at 17 rfl ?_ | refine HSub.at 18 rfl ?_ | refine HSub.at 19 rfl ?_ | refine HSub.segH ?_ | refine HSub.skip ?_ | refine HSub.skipN ?_))
      dsimp only
      rw [val_snoc, List.length_append, List.length_singleton, Nat.pow_succ, ← hval, Nat.add_assoc, Nat.mul_assoc, ← Nat.mul_add, Nat.mod_add_div]
    · (repeat' (first | refine JC.seq ?_ | refine JC.ops ?_ | refine JO.nil ?_ | refine JX.thenN ?_ | (apply r_move; exact rfl; exact rfl; exact rfl) | (apply r_lss; exact rfl; exact rfl; exact rfl; exact rfl; all_goals intro hc; all_goals try (exfalso; omega)) | (apply r_gtr; exact rfl; exact rfl; exact rfl; exact rfl; all_goals intro hc; all_goals try (exfalso; omega)) | refine JX.thenE ?_ | refine JC.exit ?_ | refine JC.condF rfl ?_ | refine JX.blockE ?_))
      refine r_call0 trivial rfl rfl rfl (fun w hk hs => c_wideR w _ _ zs true (hO.rd.at hk hs (by (repeat' first | exact HSub.nil _ | exact HSub.hd | exact HSub.in0 | exact HSub.refl _ | refine HSub.skip ?_ | refine HSub.skipN ?_))) hz (by omega)) fun w v w' _ _ _ hR => ?_
      subst hR
      (repeat' (first | refine JO.nil ?_ | refine JX.thenN ?_ | (apply r_storeN; exact rfl; (first | exact trivial | exact ⟨rfl, rfl⟩); exact rfl; exact rfl; (first | exact at0 | exact at1 | exact at2 | exact at3 | exact at4 | exact at5 | exact at6 | exact at7 | exact at8 | exact at9); exact rfl; exact rfl; exact rfl) | (apply r_storeN; exact rfl; (first | exact trivial | exact ⟨rfl, rfl⟩); exact rfl; exact rfl; (first | exact at0 | exact at1 | exact at2 | exact at3 | exact at4 | exact at5 | exact at6 | exact at7 | exact at8 | exact at9); exact rfl; exact rfl; exact rfl) | refine JC.ret ?_))
      obtain rfl : m = 0 := by omega
      rw [Nat.mul_zero, Nat.add_zero] at hval
      exact JX.retC 0 rfl rfl rfl (fun a w' st => ⟨st.kp, by show Wv (sgn true (val B16 zs)) = _; rw [hval]; congr 1; simp only [sgn, if_true, Bool.false_eq_true, if_false]; omega⟩)
  · refine calls_of_S [] [] (by simp) [] Tryd.func35 rfl mixed (by kernel_rfl) Tryd.ntmps35 Tryd.results35 rfl ⟨by simp, by simp⟩ (by simp) ?_
    simp only [toS, textOps, toSOp, kindAt, kindOf, odAt, sopsAt, ordOf, zipF]
    (repeat' (first | refine JC.seq ?_ | refine JC.ops ?_ | refine JO.nil ?_ | refine JX.thenN ?_ | (apply r_move; exact rfl; exact rfl; exact rfl) | (apply r_assign; exact rfl; exact rfl; exact rfl) | (apply r_allocZ; exact rfl; exact rfl; exact rfl; intro _)))
    rename_i b2
    refine r_i64U n.natAbs rfl rfl rfl (by rw [IntKind.wrap_u64]; omega) ?_
    (repeat' (first | refine JC.seq ?_ | refine JC.ops ?_ | refine JO.nil ?_ | refine JX.thenN ?_ | (apply r_move; exact rfl; exact rfl; exact rfl) | (apply r_assign; exact rfl; exact rfl; exact rfl) | (apply r_lss; exact rfl; exact rfl; exact rfl; exact rfl; all_goals intro hc; all_goals try (exfalso; omega)) | refine JC.skip ?_ | refine JC.condF rfl ?_ | refine JC.block ?_))
    refine JC.loopH (ι := Nat × Value × SHeap × List Nat) ⟨fun z => [(4, uv z.1), (3, z.2.1), (2, .pointer (some ⟨b2, 0, none⟩)), (0, iv n)], fun z => (b2, .cells #[.bool false, .string ⟨#[]⟩] 27) :: (z.2.2.1 ++ []),
      fun z => z.2.2.2.length ≤ 4 ∧ z.1 < 65536 ^ (4 - z.2.2.2.length) ∧ z.1 < 18446744073709551616 ∧ OwnN z.2.2.1 z.2.1 z.2.2.2.length z.2.2.2 ∧ (∀ x ∈ z.2.2.2, x < B16) ∧ val B16 z.2.2.2 + B16 ^ z.2.2.2.length * z.1 = n.natAbs, fun z => z.1⟩
      (n.natAbs, _, [], []) ⟨Nat.zero_le _, by show n.natAbs < 65536 ^ 4; omega, hm2, OwnN.nil, fun _ h => absurd h List.not_mem_nil, by simp [val]⟩ (by repeat first | exact trivial | refine ⟨rfl, ?_⟩) (by (repeat' first | exact HSub.refl _ | exact HSub.nil _ | refine HSub.at 0 rfl ?_ | refine HSub.at 1 rfl ?_ | refine HSub.at 2 rfl ?_ | refine HSub.at 3 rfl ?_ | refine HSub.at 4 rfl ?_ | refine HSub.at 5 rfl ?_ | refine HSub.at 6 rfl ?_ | refine HSub.at 7 rfl ?_ | refine HSub.at 8 rfl ?_ | refine HSub.at 9 rfl ?_ | refine HSub.at 10 rfl ?_ | refine HSub.at 11 rfl ?_ | refine HSub.at 12 rfl ?_ | refine HSub.at 13 rfl ?_ | refine HSub.at 14 rfl ?_ | refine HSub.at 15 rfl ?_ | refine HSub.at 16 rfl ?_ | refine HSub.at 17 rfl ?_ | refine HSub.at 18 rfl ?_ | refine HSub.at 19 rfl ?_ | refine HSub.segH ?_ | refine HSub.skip ?_ | refine HSub.skipN ?_)) (fun z hz => ?_)
    obtain ⟨m, vo, N, zs⟩ := z
    obtain ⟨hl4, hmp, hm64, hO, hz, hval⟩ := hz
    dsimp only at hl4 hmp hm64 hO hz hval ⊢
    by_cases h0 : 0 < m
    · obtain ⟨hj4, hmp'⟩ := from_pow hmp h0 hl4
      (repeat' (first | refine JC.seq ?_ | refine JC.ops ?_ | refine JO.nil ?_ | refine JX.thenN ?_ | (apply r_move; exact rfl; exact rfl; exact rfl) | (apply r_gtr; exact rfl; exact rfl; exact rfl; exact rfl; all_goals intro hc; all_goals try (exfalso; omega)) | refine JC.skip ?_ | refine JC.condT rfl ?_ | refine JC.block ?_))
      refine r_remU (j := 65536) rfl rfl rfl rfl (by omega) ?_
      refine r_convK (k' := .i64) ((m % 65536 : Nat) : Int) rfl rfl rfl (by rw [IntKind.wrap_i64]; omega) ?_
      (repeat' (first | (apply r_build1; exact rfl; exact rfl; exact rfl; exact rfl; exact rfl; (repeat first | exact trivial | refine ⟨rfl, ?_⟩); decide; decide; intro _)))
      rename_i c2
      refine r_appendN (A := [_, _]) hO (own_lit c2 1 [m % 65536] _ rfl rfl (by decide)).rd (by (repeat' first | exact HSub.nil _ | exact HSub.hd | exact HSub.in0 | exact HSub.refl _ | refine HSub.skip ?_ | refine HSub.skipN ?_)) rfl trivial rfl rfl rfl rfl (by omega) (fun v' N' hO' => ?_)
      (repeat' (first | refine JC.ops ?_ | refine JO.nil ?_ | refine JX.thenN ?_ | (apply r_move; exact rfl; exact rfl; exact rfl) | (apply r_assign; exact rfl; exact rfl; exact rfl)))
      refine r_quoU (j := 65536) rfl rfl rfl rfl (by omega) ?_
      (repeat' (first | refine JO.nil ?_ | (apply r_assign; exact rfl; exact rfl; exact rfl) | refine JX.blockN ?_))
      refine JX.roundH (m / 65536, v', N', zs ++ [m % 65536]) ⟨by simp only [List.length_append, List.length_singleton]; omega, by simp only [List.length_append, List.length_singleton]; exact hmp', by dsimp only; omega, by simp only [List.length_append, List.length_singleton]; exact hO', snoc_lt hz (Nat.mod_lt _ (by decide)), ?_⟩ (by dsimp only; omega) (by repeat first | exact trivial | refine ⟨rfl, ?_⟩) (by (repeat' first | exact HSub.refl _ | exact HSub.nil _ | refine HSub.at 0 rfl ?_ | refine HSub.at 1 rfl ?_ | refine HSub.at 2 rfl ?_ | refine HSub.at 3 rfl ?_ | refine HSub.at 4 rfl ?_ | refine HSub.at 5 rfl ?_ | refine HSub.at 6 rfl ?_ | refine HSub.at 7 rfl ?_ | refine HSub.at 8 rfl ?_ | refine HSub.at 9 rfl ?_ | refine HSub.at 10 rfl ?_ | refine HSub.at 11 rfl ?_ | refine HSub.at 12 rfl ?_ | refine HSub.at 13 rfl ?_ | refine HSub.at 14 rfl ?_ | refine HSub.at 15 rfl ?_ | refine HSub.at 16 rfl ?_ | refine HSub.at 17 rfl ?_ | refine HSub.at 18 rfl ?_ | refine HSub.at 19 rfl ?_ | refine HSub.segH ?_ | refine HSub.skip ?_ | refine HSub.skipN ?_))
      dsimp only
      rw [val_snoc, List.length_append, List.length_singleton, Nat.pow_succ, ← hval, Nat.add_assoc, Nat.mul_assoc, ← Nat.mul_add, Nat.mod_add_div]
    · (repeat' (first | refine JC.seq ?_ | refine JC.ops ?_ | refine JO.nil ?_ | refine JX.thenN ?_ | (apply r_move; exact rfl; exact rfl; exact rfl) | (apply r_lss; exact rfl; exact rfl; exact rfl; exact rfl; all_goals intro hc; all_goals try (exfalso; omega)) | (apply r_gtr; exact rfl; exact rfl; exact rfl; exact rfl; all_goals intro hc; all_goals try (exfalso; omega)) | refine JX.thenE ?_ | refine JC.exit ?_ | refine JC.condF rfl ?_ | refine JX.blockE ?_))
      refine r_call0 trivial rfl rfl rfl (fun w hk hs => c_wideR w _ _ zs false (hO.rd.at hk hs (by (repeat' first | exact HSub.nil _ | exact HSub.hd | exact HSub.in0 | exact HSub.refl _ | refine HSub.skip ?_ | refine HSub.skipN ?_))) hz (by omega)) fun w v w' _ _ _ hR => ?_
      subst hR
      (repeat' (first | refine JO.nil ?_ | refine JX.thenN ?_ | (apply r_storeN; exact rfl; (first | exact trivial | exact ⟨rfl, rfl⟩); exact rfl; exact rfl; (first | exact at0 | exact at1 | exact at2 | exact at3 | exact at4 | exact at5 | exact at6 | exact at7 | exact at8 | exact at9); exact rfl; exact rfl; exact rfl) | (apply r_storeN; exact rfl; (first | exact trivial | exact ⟨rfl, rfl⟩); exact rfl; exact rfl; (first | exact at0 | exact at1 | exact at2 | exact at3 | exact at4 | exact at5 | exact at6 | exact at7 | exact at8 | exact at9); exact rfl; exact rfl; exact rfl) | refine JC.ret ?_))
      obtain rfl : m = 0 := by omega
      rw [Nat.mul_zero, Nat.add_zero] at hval
      exact JX.retC 0 rfl rfl rfl (fun a w' st => ⟨st.kp, by show Wv (sgn false (val B16 zs)) = _; rw [hval]; congr 1; simp only [sgn, if_true, Bool.false_eq_true, if_false]; omega⟩)

end Go.Proofs.YtdehklhdjbkneaaDoor

/- A number as an int, of wide and of the reference model. -/
namespace Go.Proofs.YtdehklhdjbkneaaDoor
open Go Go.RowKit
set_option linter.unusedSimpArgs false
set_option linter.unusedVariables false
set_option linter.unusedSectionVars false

/-- A number as an int. -/
def IRes (a : Int) : Value := if -9223372036854775808 ≤ a ∧ a < 9223372036854775808 then .tuple #[iv a, .bool true] else .tuple #[iv 0, .bool false]

theorem ires_big {p : Bool} {n : Nat} (h : 18446744073709551616 ≤ n) : IRes (sgn p n) = .tuple #[iv 0, .bool false] := by
  unfold IRes
  rw [if_neg]
  cases p <;> simp [sgn] <;> omega
theorem ires_neg {n : Nat} (h : n ≤ 9223372036854775808) : IRes (sgn true n) = .tuple #[iv (-(n : Int)), .bool true] := by
  unfold IRes
  rw [if_pos]
  · rfl
  · simp only [sgn, if_true]; omega
theorem ires_out {p : Bool} {n : Nat} (h : 9223372036854775808 ≤ n) (hp : p = true → 9223372036854775808 < n) : IRes (sgn p n) = .tuple #[iv 0, .bool false] := by
  unfold IRes
  rw [if_neg]
  cases p
  · simp [sgn]; omega
  · have := hp rfl
    simp [sgn]; omega
theorem ires_pos {n : Nat} (h : n < 9223372036854775808) : IRes (sgn false n) = .tuple #[nv n, .bool true] := by
  unfold IRes
  rw [if_pos]
  · rfl
  · simp only [sgn]; simp; omega

set_option maxRecDepth 20000 in
set_option maxHeartbeats 8000000 in
theorem c_IntR (w : World) (v : Value) (a : Int) (k : Nat) (hv : IsZ v a k) (hk : k ≤ 10000) :
    Calls Tryd.prog 34 #[v] w (Ret fun r w' => Kp [] w w' ∧ r = IRes a) := by
  obtain ⟨p, l, rfl, hl1, rfl⟩ := hv
  refine calls_of_S [] [] (by simp) [] Tryd.func34 rfl mixed (by kernel_rfl) Tryd.ntmps34 Tryd.results34 rfl ⟨by simp, by simp⟩ (by simp) ?_
  simp only [toS, textOps, toSOp, kindAt, kindOf, odAt, sopsAt, ordOf, zipF]
  (repeat' (first | refine JC.seq ?_ | refine JC.ops ?_ | refine JO.nil ?_ | refine JX.thenN ?_ | (apply r_assign; exact rfl; exact rfl; exact rfl) | (apply r_loadN; exact rfl; exact rfl; exact rfl; exact rfl; (first | exact at0 | exact at1 | exact at2 | exact at3 | exact at4 | exact at5 | exact at6 | exact at7 | exact at8 | exact at9); exact rfl) | (apply r_boxA; exact rfl; exact rfl; exact rfl; exact rfl; intro _)))
  rename_i b1
  refine r_callA (A := [_]) rfl trivial rfl rfl rfl (fun w hk hs => c_digits w p l (by omega)) fun w v w' _ _ _ hR => ?_
  obtain ⟨N1, zs, hN1, hO, hz, hval⟩ := hR
  refine ⟨N1, hN1, ?_⟩
  have hzl := words16_le hz hval hl1
  rw [← hval]
  by_cases h4 : 4 < zs.length
  · have hge := val_ge (b := B16) (by decide) hz.nrm (fun e => by subst e; simp at h4)
    have h2 : B16 ^ 4 ≤ B16 ^ (zs.length - 1) := Nat.pow_le_pow_right (by decide) (by omega)
    rw [ires_big (Nat.le_trans (show 18446744073709551616 ≤ B16 ^ 4 by decide) (Nat.le_trans h2 hge))]
    (repeat' (first | refine JC.seq ?_ | refine JC.ops ?_ | refine JO.nil ?_ | refine JX.thenN ?_ | (apply r_move; exact rfl; exact rfl; exact rfl) | (apply r_assign; exact rfl; exact rfl; exact rfl) | (apply r_lenN; exact rfl; exact rfl; exact rfl; (first | assumption | exact WN.rd (by assumption) rfl [] | exact OwnN.rd (by assumption))) | (apply r_gtr; exact rfl; exact rfl; exact rfl; exact rfl; all_goals intro hc; all_goals try (exfalso; omega)) | refine JX.thenR ?_ | refine JC.ret ?_ | refine JC.condT rfl ?_))
    exact JX.ret2 rfl rfl (fun a w' st => ⟨st.kp, rfl⟩)
  · have hbd : ∀ i, val B16 (zs.drop i) < 18446744073709551616 := fun i => by
      have h1 := val_lt (b := B16) (l := zs.drop i) fun x hx => hz.lt x (List.mem_of_mem_drop hx)
      have h2 : B16 ^ (zs.drop i).length ≤ B16 ^ 4 := Nat.pow_le_pow_right (by decide) (by simp; omega)
      exact Nat.lt_of_lt_of_le h1 (Nat.le_trans h2 (by decide))
    (repeat' (first | refine JC.seq ?_ | refine JC.ops ?_ | refine JO.nil ?_ | refine JX.thenN ?_ | (apply r_move; exact rfl; exact rfl; exact rfl) | (apply r_assign; exact rfl; exact rfl; exact rfl) | (apply r_lenN; exact rfl; exact rfl; exact rfl; (first | assumption | exact WN.rd (by assumption) rfl [] | exact OwnN.rd (by assumption))) | (apply r_sub; exact rfl; exact rfl; exact rfl; exact rfl; omega) | (apply r_gtr; exact rfl; exact rfl; exact rfl; exact rfl; all_goals intro hc; all_goals try (exfalso; omega)) | refine JC.skip ?_ | refine JC.condF rfl ?_ | refine JC.block ?_))
    refine JC.loopH (ι := Nat) ⟨fun z => [(6, iv ((z : Int) - 1)), (5, uv (val B16 (zs.drop z))), (4, v), (1, .pointer (some ⟨b1, 0, none⟩))], fun _ => (b1, .cells #[.bool p, sv l] 27) :: (N1 ++ []), fun z => z ≤ zs.length, fun z => z⟩ zs.length (Nat.le_refl _) (by
      refine ⟨rfl, ?_⟩
      refine ⟨by rw [val_drop_nil (Nat.le_refl _)]; rfl, ?_⟩
      repeat first | exact trivial | refine ⟨rfl, ?_⟩) (by (repeat' first | exact HSub.refl _ | exact HSub.nil _ | refine HSub.at 0 rfl ?_ | refine HSub.at 1 rfl ?_ | refine HSub.at 2 rfl ?_ | refine HSub.at 3 rfl ?_ | refine HSub.at 4 rfl ?_ | refine HSub.at 5 rfl ?_ | refine HSub.at 6 rfl ?_ | refine HSub.at 7 rfl ?_ | refine HSub.at 8 rfl ?_ | refine HSub.at 9 rfl ?_ | refine HSub.at 10 rfl ?_ | refine HSub.at 11 rfl ?_ | refine HSub.at 12 rfl ?_ | refine HSub.at 13 rfl ?_ | refine HSub.at 14 rfl ?_ | refine HSub.at 15 rfl ?_ | refine HSub.at 16 rfl ?_ | refine HSub.at 17 rfl ?_ | refine HSub.at 18 rfl ?_ | refine HSub.at 19 rfl ?_ | refine HSub.segH ?_ | refine HSub.skip ?_ | refine HSub.skipN ?_)) (fun m hm => ?_)
    dsimp only at hm ⊢
    rcases m with _ | i
    · rw [List.drop_zero]
      have hb0 := hbd 0
      rw [List.drop_zero] at hb0
      generalize val B16 zs = V at hb0 ⊢
      cases p with
      | true =>
        by_cases h63 : V ≤ 9223372036854775808
        · rw [ires_neg h63]
          (repeat' (first | refine JC.seq ?_ | refine JC.ops ?_ | refine JO.nil ?_ | refine JX.thenN ?_ | (apply r_move; exact rfl; exact rfl; exact rfl) | (apply r_fieldAddr; exact rfl; exact rfl; exact rfl) | (apply r_load; exact rfl; exact rfl; exact rfl; exact rfl; (first | exact at0 | exact at1 | exact at2 | exact at3 | exact at4 | exact at5 | exact at6 | exact at7 | exact at8 | exact at9); exact rfl) | (apply r_pickT; exact rfl; exact rfl; exact rfl; exact rfl) | (apply r_leq; exact rfl; exact rfl; exact rfl; exact rfl; all_goals intro hc; all_goals try (exfalso; omega)) | (apply r_geq; exact rfl; exact rfl; exact rfl; exact rfl; all_goals intro hc; all_goals try (exfalso; omega)) | refine JX.thenE ?_ | refine JC.exit ?_ | refine JC.condT rfl ?_ | refine JC.condF rfl ?_ | refine JX.blockE ?_))
          refine r_negU rfl rfl rfl (by omega) ?_
          refine r_convK (k' := .i64) (-((V : Nat) : Int)) rfl rfl rfl (by rw [IntKind.wrap_i64]; omega) ?_
          (repeat' (first | refine JO.nil ?_ | refine JX.thenN ?_ | (apply r_assign; exact rfl; exact rfl; exact rfl) | refine JX.thenR ?_ | refine JC.ret ?_))
          exact JX.ret2 rfl rfl (fun a w' st => ⟨st.kp, rfl⟩)
        · rw [ires_out (by omega) (fun _ => by omega)]
          (repeat' (first | refine JC.seq ?_ | refine JC.ops ?_ | refine JO.nil ?_ | refine JX.thenN ?_ | (apply r_move; exact rfl; exact rfl; exact rfl) | (apply r_fieldAddr; exact rfl; exact rfl; exact rfl) | (apply r_assign; exact rfl; exact rfl; exact rfl) | (apply r_load; exact rfl; exact rfl; exact rfl; exact rfl; (first | exact at0 | exact at1 | exact at2 | exact at3 | exact at4 | exact at5 | exact at6 | exact at7 | exact at8 | exact at9); exact rfl) | (apply r_pickT; exact rfl; exact rfl; exact rfl; exact rfl) | (apply r_leq; exact rfl; exact rfl; exact rfl; exact rfl; all_goals intro hc; all_goals try (exfalso; omega)) | (apply r_geq; exact rfl; exact rfl; exact rfl; exact rfl; all_goals intro hc; all_goals try (exfalso; omega)) | refine JX.thenE ?_ | refine JX.thenR ?_ | refine JC.skip ?_ | refine JC.exit ?_ | refine JC.ret ?_ | refine JC.condT rfl ?_ | refine JC.condF rfl ?_ | refine JX.blockE ?_))
          exact JX.ret2 rfl rfl (fun a w' st => ⟨st.kp, rfl⟩)
      | false =>
        by_cases h63 : 9223372036854775808 ≤ V
        · rw [ires_out h63 (fun h => by cases h)]
          (repeat' (first | refine JC.seq ?_ | refine JC.ops ?_ | refine JO.nil ?_ | refine JX.thenN ?_ | (apply r_move; exact rfl; exact rfl; exact rfl) | (apply r_fieldAddr; exact rfl; exact rfl; exact rfl) | (apply r_assign; exact rfl; exact rfl; exact rfl) | (apply r_load; exact rfl; exact rfl; exact rfl; exact rfl; (first | exact at0 | exact at1 | exact at2 | exact at3 | exact at4 | exact at5 | exact at6 | exact at7 | exact at8 | exact at9); exact rfl) | (apply r_pickF; exact rfl; exact rfl; exact rfl; exact rfl) | (apply r_geq; exact rfl; exact rfl; exact rfl; exact rfl; all_goals intro hc; all_goals try (exfalso; omega)) | refine JX.thenE ?_ | refine JX.thenR ?_ | refine JC.skip ?_ | refine JC.exit ?_ | refine JC.ret ?_ | refine JC.condT rfl ?_ | refine JC.condF rfl ?_ | refine JX.blockE ?_ | (apply r_skip; exact rfl; exact rfl; (first | (intro h; cases h; done) | (intro _; rfl)))))
          exact JX.ret2 rfl rfl (fun a w' st => ⟨st.kp, rfl⟩)
        · rw [ires_pos (by omega)]
          (repeat' (first | refine JC.seq ?_ | refine JC.ops ?_ | refine JO.nil ?_ | refine JX.thenN ?_ | (apply r_move; exact rfl; exact rfl; exact rfl) | (apply r_fieldAddr; exact rfl; exact rfl; exact rfl) | (apply r_assign; exact rfl; exact rfl; exact rfl) | (apply r_load; exact rfl; exact rfl; exact rfl; exact rfl; (first | exact at0 | exact at1 | exact at2 | exact at3 | exact at4 | exact at5 | exact at6 | exact at7 | exact at8 | exact at9); exact rfl) | (apply r_pickF; exact rfl; exact rfl; exact rfl; exact rfl) | (apply r_convN; exact rfl; exact rfl; exact rfl; omega) | (apply r_geq; exact rfl; exact rfl; exact rfl; exact rfl; all_goals intro hc; all_goals try (exfalso; omega)) | refine JX.thenE ?_ | refine JC.skip ?_ | refine JC.exit ?_ | refine JC.ret ?_ | refine JC.condF rfl ?_ | refine JX.blockE ?_ | (apply r_skip; exact rfl; exact rfl; (first | (intro h; cases h; done) | (intro _; rfl)))))
          exact JX.ret2 rfl rfl (fun a w' st => ⟨st.kp, rfl⟩)
    · have hiv : iv (((i + 1 : Nat) : Int) - 1) = nv i := by
        show iv _ = iv _
        congr 1
        omega
      rw [hiv]
      have hxi : zs.getD i 0 < 65536 := mem_getD_lt (b := B16) (by decide) hz.lt i
      have hxv : val B16 (zs.drop i) = zs.getD i 0 + 65536 * val B16 (zs.drop (i + 1)) := val_drop (show i < zs.length by omega)
      have hbi := hbd i
      have hbi1 := hbd (i + 1)
      have he : val B16 (zs.drop (i + 1)) * 65536 + zs.getD i 0 = val B16 (zs.drop i) := by omega
      have hx2 : val B16 (zs.drop (i + 1)) * 65536 < 18446744073709551616 := by omega
      (repeat' (first | refine JC.seq ?_ | refine JC.ops ?_ | refine JO.nil ?_ | refine JX.thenN ?_ | (apply r_move; exact rfl; exact rfl; exact rfl) | (apply r_geq; exact rfl; exact rfl; exact rfl; exact rfl; all_goals intro hc; all_goals try (exfalso; omega)) | refine JC.skip ?_ | refine JC.condT rfl ?_ | refine JC.block ?_))
      refine r_mulU (j := 65536) rfl rfl rfl rfl hx2 ?_
      generalize val B16 (zs.drop (i + 1)) * 65536 = P at he hx2 ⊢
      (repeat' (first | refine JC.ops ?_ | refine JO.nil ?_ | refine JX.thenN ?_ | (apply r_move; exact rfl; exact rfl; exact rfl) | (apply r_assign; exact rfl; exact rfl; exact rfl) | (apply r_idxN; exact rfl; exact rfl; exact rfl; exact rfl; (first | assumption | exact WN.rd (by assumption) rfl [] | exact OwnN.rd (by assumption)); (first | assumption | omega)) | (apply r_ldN; exact rfl; exact rfl; exact rfl; exact rfl; (first | assumption | exact WN.rd (by assumption) rfl [] | exact OwnN.rd (by assumption)); (repeat' first | exact HSub.nil _ | exact HSub.hd | exact HSub.in0 | exact HSub.refl _ | refine HSub.skip ?_ | refine HSub.skipN ?_); (first | assumption | omega)) | (apply r_sub; exact rfl; exact rfl; exact rfl; exact rfl; omega) | (apply r_toU64; exact rfl; exact rfl; exact rfl; (first | assumption | omega)) | (apply r_addU; exact rfl; exact rfl; exact rfl; exact rfl; (first | assumption | omega)) | refine JX.blockN ?_))
      rw [he]
      exact JX.roundH i (by dsimp only; omega) (by dsimp only; omega) (by repeat first | exact trivial | refine ⟨rfl, ?_⟩) (by (repeat' first | exact HSub.refl _ | exact HSub.nil _ | refine HSub.at 0 rfl ?_ | refine HSub.at 1 rfl ?_ | refine HSub.at 2 rfl ?_ | refine HSub.at 3 rfl ?_ | refine HSub.at 4 rfl ?_ | refine HSub.at 5 rfl ?_ | refine HSub.at 6 rfl ?_ | refine HSub.at 7 rfl ?_ | refine HSub.at 8 rfl ?_ | refine HSub.at 9 rfl ?_ | refine HSub.at 10 rfl ?_ | refine HSub.at 11 rfl ?_ | refine HSub.at 12 rfl ?_ | refine HSub.at 13 rfl ?_ | refine HSub.at 14 rfl ?_ | refine HSub.at 15 rfl ?_ | refine HSub.at 16 rfl ?_ | refine HSub.at 17 rfl ?_ | refine HSub.at 18 rfl ?_ | refine HSub.at 19 rfl ?_ | refine HSub.segH ?_ | refine HSub.skip ?_ | refine HSub.skipN ?_))

set_option maxHeartbeats 8000000 in
theorem c_Int (w : World) (v : Value) (a : Int) (k : Nat) (hv : IsZ v a k) (hk : k ≤ 10000) :
    Calls Tryd.prog 33 #[v] w (Ret fun r w' => Kp [] w w' ∧ r = IRes a) := by
  obtain ⟨p, l, rfl, hl1, rfl⟩ := hv
  refine calls_of_S [] [] (by simp) [] Tryd.func33 rfl mixed (by kernel_rfl) Tryd.ntmps33 Tryd.results33 rfl ⟨by simp, by simp⟩ (by simp) ?_
  simp only [toS, textOps, toSOp, kindAt, kindOf, odAt, sopsAt, ordOf, zipF]
  (repeat' (first | refine JC.seq ?_ | refine JC.ops ?_ | refine JO.nil ?_ | refine JX.thenN ?_ | (apply r_assign; exact rfl; exact rfl; exact rfl) | (apply r_loadN; exact rfl; exact rfl; exact rfl; exact rfl; (first | exact at0 | exact at1 | exact at2 | exact at3 | exact at4 | exact at5 | exact at6 | exact at7 | exact at8 | exact at9); exact rfl) | (apply r_boxA; exact rfl; exact rfl; exact rfl; exact rfl; intro _)))
  rename_i b1
  refine r_callA (A := [_]) rfl trivial rfl rfl rfl (fun w hk hs => c_abs w p l (by omega)) fun w v w' _ _ _ hR => ?_
  obtain ⟨N1, zs, hN1, hO, hz, hval⟩ := hR
  refine ⟨N1, hN1, ?_⟩
  have hzl := words_le hz hval hl1
  rw [← hval]
  by_cases h4 : 2 < zs.length
  · have hge := val_ge (b := W32) (by decide) hz.nrm (fun e => by subst e; simp at h4)
    have h2 : W32 ^ 2 ≤ W32 ^ (zs.length - 1) := Nat.pow_le_pow_right (by decide) (by omega)
    rw [ires_big (Nat.le_trans (show 18446744073709551616 ≤ W32 ^ 2 by decide) (Nat.le_trans h2 hge))]
    (repeat' (first | refine JC.seq ?_ | refine JC.ops ?_ | refine JO.nil ?_ | refine JX.thenN ?_ | (apply r_move; exact rfl; exact rfl; exact rfl) | (apply r_assign; exact rfl; exact rfl; exact rfl) | (apply r_lenU; exact rfl; exact rfl; exact rfl; (first | assumption | exact WU.rd (by assumption) rfl [] | exact OwnU.rd (by assumption))) | (apply r_gtr; exact rfl; exact rfl; exact rfl; exact rfl; all_goals intro hc; all_goals try (exfalso; omega)) | refine JX.thenR ?_ | refine JC.ret ?_ | refine JC.condT rfl ?_))
    exact JX.ret2 rfl rfl (fun a w' st => ⟨st.kp, rfl⟩)
  · have hV : val W32 zs < 18446744073709551616 := by
      have h1 := val_lt (b := W32) hz.lt
      have h2 : W32 ^ zs.length ≤ W32 ^ 2 := Nat.pow_le_pow_right (by decide) (by omega)
      exact Nat.lt_of_lt_of_le h1 (Nat.le_trans h2 (by decide))
    (repeat' (first | refine JC.seq ?_ | refine JC.ops ?_ | refine JO.nil ?_ | refine JX.thenN ?_ | (apply r_move; exact rfl; exact rfl; exact rfl) | (apply r_assign; exact rfl; exact rfl; exact rfl) | (apply r_lenU; exact rfl; exact rfl; exact rfl; (first | assumption | exact WU.rd (by assumption) rfl [] | exact OwnU.rd (by assumption))) | (apply r_gtr; exact rfl; exact rfl; exact rfl; exact rfl; all_goals intro hc; all_goals try (exfalso; omega)) | refine JC.skip ?_ | refine JC.condF rfl ?_ | refine JC.block ?_))
    refine JC.loopH (ι := Nat) ⟨fun z => [(15, nv z), (14, nv zs.length), (13, v), (5, uv (val W32 (zs.take z))), (4, v), (1, .pointer (some ⟨b1, 0, none⟩))], fun _ => (b1, .cells #[.bool p, sv l] 27) :: (N1 ++ []), fun z => z ≤ zs.length, fun z => zs.length - z⟩ 0 (Nat.zero_le _) (by repeat first | exact trivial | refine ⟨rfl, ?_⟩) (by (repeat' first | exact HSub.refl _ | exact HSub.nil _ | refine HSub.at 0 rfl ?_ | refine HSub.at 1 rfl ?_ | refine HSub.at 2 rfl ?_ | refine HSub.at 3 rfl ?_ | refine HSub.at 4 rfl ?_ | refine HSub.at 5 rfl ?_ | refine HSub.at 6 rfl ?_ | refine HSub.at 7 rfl ?_ | refine HSub.at 8 rfl ?_ | refine HSub.at 9 rfl ?_ | refine HSub.at 10 rfl ?_ | refine HSub.at 11 rfl ?_ | refine HSub.at 12 rfl ?_ | refine HSub.at 13 rfl ?_ | refine HSub.at 14 rfl ?_ | refine HSub.at 15 rfl ?_ | refine HSub.at 16 rfl ?_ | refine HSub.at 17 rfl ?_ | refine HSub.at 18 rfl ?_ | refine HSub.at 19 rfl ?_ | refine HSub.segH ?_ | refine HSub.skip ?_ | refine HSub.skipN ?_)) (fun i hi => ?_)
    dsimp only at hi ⊢
    by_cases hin : i < zs.length
    · have hxi : zs.getD i 0 < 4294967296 := mem_getD_lt (b := W32) (by decide) hz.lt i
      have hvt := val_take (b := W32) zs i
      have hi01 : i = 0 ∨ i = 1 := by omega
      rcases hi01 with rfl | rfl
      · (repeat' (first | refine JC.seq ?_ | refine JC.ops ?_ | refine JO.nil ?_ | refine JX.thenN ?_ | (apply r_move; exact rfl; exact rfl; exact rfl) | (apply r_assign; exact rfl; exact rfl; exact rfl) | (apply r_mulN (i := 32); exact rfl; exact rfl; exact rfl; exact rfl; (first | assumption | omega)) | (apply r_idxU; exact rfl; exact rfl; exact rfl; exact rfl; (first | assumption | exact WU.rd (by assumption) rfl [] | exact OwnU.rd (by assumption)); (first | assumption | omega)) | (apply r_ldU; exact rfl; exact rfl; exact rfl; exact rfl; (first | assumption | exact WU.rd (by assumption) rfl [] | exact OwnU.rd (by assumption)); (repeat' first | exact HSub.nil _ | exact HSub.hd | exact HSub.in0 | exact HSub.refl _ | refine HSub.skip ?_ | refine HSub.skipN ?_); (first | assumption | omega)) | (apply r_shlU; exact rfl; exact rfl; exact rfl; exact rfl; (first | assumption | omega)) | (apply r_lss; exact rfl; exact rfl; exact rfl; exact rfl; all_goals intro hc; all_goals try (exfalso; omega)) | refine JC.skip ?_ | refine JC.condT rfl ?_ | refine JC.block ?_))
        refine r_orV (val W32 (zs.take (0 + 1))) rfl rfl rfl rfl ⟨by rw [List.take_zero]; decide, Nat.mod_lt _ (by decide)⟩ (by rw [hvt, List.take_zero, show val W32 [] = 0 from rfl, Nat.zero_or, Nat.zero_add]; show zs.getD 0 0 * 1 % 18446744073709551616 = 1 * zs.getD 0 0; omega) ?_
        (repeat' (first | refine JC.ops ?_ | refine JO.nil ?_ | refine JX.thenN ?_ | (apply r_move; exact rfl; exact rfl; exact rfl) | (apply r_assign; exact rfl; exact rfl; exact rfl) | (apply r_add1; exact rfl; exact rfl; exact rfl; exact rfl; omega) | refine JX.blockN ?_))
        exact JX.roundH 1 (by show 1 ≤ zs.length; omega) (by show zs.length - 1 < zs.length - 0; omega) (by repeat first | exact trivial | refine ⟨rfl, ?_⟩) (by (repeat' first | exact HSub.refl _ | exact HSub.nil _ | refine HSub.at 0 rfl ?_ | refine HSub.at 1 rfl ?_ | refine HSub.at 2 rfl ?_ | refine HSub.at 3 rfl ?_ | refine HSub.at 4 rfl ?_ | refine HSub.at 5 rfl ?_ | refine HSub.at 6 rfl ?_ | refine HSub.at 7 rfl ?_ | refine HSub.at 8 rfl ?_ | refine HSub.at 9 rfl ?_ | refine HSub.at 10 rfl ?_ | refine HSub.at 11 rfl ?_ | refine HSub.at 12 rfl ?_ | refine HSub.at 13 rfl ?_ | refine HSub.at 14 rfl ?_ | refine HSub.at 15 rfl ?_ | refine HSub.at 16 rfl ?_ | refine HSub.at 17 rfl ?_ | refine HSub.at 18 rfl ?_ | refine HSub.at 19 rfl ?_ | refine HSub.segH ?_ | refine HSub.skip ?_ | refine HSub.skipN ?_))
      · have h0 : val W32 (zs.take 1) < 4294967296 := by
          have h1 := val_lt (b := W32) (l := zs.take 1) fun x hx => hz.lt x (List.mem_of_mem_take hx)
          have h2 : W32 ^ (zs.take 1).length ≤ W32 ^ 1 := Nat.pow_le_pow_right (by decide) (by simp; omega)
          exact Nat.lt_of_lt_of_le h1 (Nat.le_trans h2 (by decide))
        (repeat' (first | refine JC.seq ?_ | refine JC.ops ?_ | refine JO.nil ?_ | refine JX.thenN ?_ | (apply r_move; exact rfl; exact rfl; exact rfl) | (apply r_assign; exact rfl; exact rfl; exact rfl) | (apply r_mulN (i := 32); exact rfl; exact rfl; exact rfl; exact rfl; (first | assumption | omega)) | (apply r_shl32; exact rfl; exact rfl; exact rfl; exact rfl; (first | assumption | omega)) | (apply r_idxU; exact rfl; exact rfl; exact rfl; exact rfl; (first | assumption | exact WU.rd (by assumption) rfl [] | exact OwnU.rd (by assumption)); (first | assumption | omega)) | (apply r_ldU; exact rfl; exact rfl; exact rfl; exact rfl; (first | assumption | exact WU.rd (by assumption) rfl [] | exact OwnU.rd (by assumption)); (repeat' first | exact HSub.nil _ | exact HSub.hd | exact HSub.in0 | exact HSub.refl _ | refine HSub.skip ?_ | refine HSub.skipN ?_); (first | assumption | omega)) | (apply r_lss; exact rfl; exact rfl; exact rfl; exact rfl; all_goals intro hc; all_goals try (exfalso; omega)) | refine JC.skip ?_ | refine JC.condT rfl ?_ | refine JC.block ?_))
        refine r_orV (val W32 (zs.take (1 + 1))) rfl rfl rfl rfl (by omega) ?_ ?_
        · have h1 := Nat.two_pow_add_eq_or_of_lt (i := 32) h0 (zs.getD 1 0)
          rw [hvt, Nat.or_comm, Nat.mul_comm (zs.getD 1 0) 4294967296, Nat.add_comm]
          exact h1.symm
        (repeat' (first | refine JC.ops ?_ | refine JO.nil ?_ | refine JX.thenN ?_ | (apply r_move; exact rfl; exact rfl; exact rfl) | (apply r_assign; exact rfl; exact rfl; exact rfl) | (apply r_add1; exact rfl; exact rfl; exact rfl; exact rfl; omega) | refine JX.blockN ?_))
        exact JX.roundH 2 (by show 2 ≤ zs.length; omega) (by show zs.length - 2 < zs.length - 1; omega) (by repeat first | exact trivial | refine ⟨rfl, ?_⟩) (by (repeat' first | exact HSub.refl _ | exact HSub.nil _ | refine HSub.at 0 rfl ?_ | refine HSub.at 1 rfl ?_ | refine HSub.at 2 rfl ?_ | refine HSub.at 3 rfl ?_ | refine HSub.at 4 rfl ?_ | refine HSub.at 5 rfl ?_ | refine HSub.at 6 rfl ?_ | refine HSub.at 7 rfl ?_ | refine HSub.at 8 rfl ?_ | refine HSub.at 9 rfl ?_ | refine HSub.at 10 rfl ?_ | refine HSub.at 11 rfl ?_ | refine HSub.at 12 rfl ?_ | refine HSub.at 13 rfl ?_ | refine HSub.at 14 rfl ?_ | refine HSub.at 15 rfl ?_ | refine HSub.at 16 rfl ?_ | refine HSub.at 17 rfl ?_ | refine HSub.at 18 rfl ?_ | refine HSub.at 19 rfl ?_ | refine HSub.segH ?_ | refine HSub.skip ?_ | refine HSub.skipN ?_))
    · rw [show zs.take i = zs from List.take_of_length_le (by omega)]
      generalize val W32 zs = V at hV ⊢
      cases p with
      | true =>
        by_cases h63 : V ≤ 9223372036854775808
        · rw [ires_neg h63]
          (repeat' (first | refine JC.seq ?_ | refine JC.ops ?_ | refine JO.nil ?_ | refine JX.thenN ?_ | (apply r_move; exact rfl; exact rfl; exact rfl) | (apply r_fieldAddr; exact rfl; exact rfl; exact rfl) | (apply r_assign; exact rfl; exact rfl; exact rfl) | (apply r_load; exact rfl; exact rfl; exact rfl; exact rfl; (first | exact at0 | exact at1 | exact at2 | exact at3 | exact at4 | exact at5 | exact at6 | exact at7 | exact at8 | exact at9); exact rfl) | (apply r_pickT; exact rfl; exact rfl; exact rfl; exact rfl) | (apply r_lss; exact rfl; exact rfl; exact rfl; exact rfl; all_goals intro hc; all_goals try (exfalso; omega)) | (apply r_leq; exact rfl; exact rfl; exact rfl; exact rfl; all_goals intro hc; all_goals try (exfalso; omega)) | refine JX.thenE ?_ | refine JC.exit ?_ | refine JC.condT rfl ?_ | refine JC.condF rfl ?_ | refine JC.block ?_ | refine JX.blockE ?_))
          refine r_negU rfl rfl rfl (by omega) ?_
          refine r_convK (k' := .i64) (-((V : Nat) : Int)) rfl rfl rfl (by rw [IntKind.wrap_i64]; omega) ?_
          (repeat' (first | refine JO.nil ?_ | refine JX.thenN ?_ | (apply r_assign; exact rfl; exact rfl; exact rfl) | refine JX.thenR ?_ | refine JC.ret ?_ | refine JX.blockR ?_))
          exact JX.ret2 rfl rfl (fun a w' st => ⟨st.kp, rfl⟩)
        · rw [ires_out (by omega) (fun _ => by omega)]
          (repeat' (first | refine JC.seq ?_ | refine JC.ops ?_ | refine JO.nil ?_ | refine JX.thenN ?_ | (apply r_move; exact rfl; exact rfl; exact rfl) | (apply r_fieldAddr; exact rfl; exact rfl; exact rfl) | (apply r_assign; exact rfl; exact rfl; exact rfl) | (apply r_load; exact rfl; exact rfl; exact rfl; exact rfl; (first | exact at0 | exact at1 | exact at2 | exact at3 | exact at4 | exact at5 | exact at6 | exact at7 | exact at8 | exact at9); exact rfl) | (apply r_pickT; exact rfl; exact rfl; exact rfl; exact rfl) | (apply r_lss; exact rfl; exact rfl; exact rfl; exact rfl; all_goals intro hc; all_goals try (exfalso; omega)) | (apply r_leq; exact rfl; exact rfl; exact rfl; exact rfl; all_goals intro hc; all_goals try (exfalso; omega)) | (apply r_geq; exact rfl; exact rfl; exact rfl; exact rfl; all_goals intro hc; all_goals try (exfalso; omega)) | refine JX.thenE ?_ | refine JX.thenR ?_ | refine JC.exit ?_ | refine JC.ret ?_ | refine JC.condT rfl ?_ | refine JC.condF rfl ?_ | refine JC.block ?_ | refine JX.blockR ?_ | refine JX.blockE ?_))
          exact JX.ret2 rfl rfl (fun a w' st => ⟨st.kp, rfl⟩)
      | false =>
        by_cases h63 : 9223372036854775808 ≤ V
        · rw [ires_out h63 (fun h => by cases h)]
          (repeat' (first | refine JC.seq ?_ | refine JC.ops ?_ | refine JO.nil ?_ | refine JX.thenN ?_ | (apply r_move; exact rfl; exact rfl; exact rfl) | (apply r_fieldAddr; exact rfl; exact rfl; exact rfl) | (apply r_assign; exact rfl; exact rfl; exact rfl) | (apply r_load; exact rfl; exact rfl; exact rfl; exact rfl; (first | exact at0 | exact at1 | exact at2 | exact at3 | exact at4 | exact at5 | exact at6 | exact at7 | exact at8 | exact at9); exact rfl) | (apply r_pickF; exact rfl; exact rfl; exact rfl; exact rfl) | (apply r_lss; exact rfl; exact rfl; exact rfl; exact rfl; all_goals intro hc; all_goals try (exfalso; omega)) | (apply r_geq; exact rfl; exact rfl; exact rfl; exact rfl; all_goals intro hc; all_goals try (exfalso; omega)) | refine JX.thenE ?_ | refine JX.thenR ?_ | refine JC.exit ?_ | refine JC.ret ?_ | refine JC.condT rfl ?_ | refine JC.condF rfl ?_ | refine JC.block ?_ | refine JX.blockR ?_ | refine JX.blockE ?_ | (apply r_skip; exact rfl; exact rfl; (first | (intro h; cases h; done) | (intro _; rfl)))))
          exact JX.ret2 rfl rfl (fun a w' st => ⟨st.kp, rfl⟩)
        · rw [ires_pos (by omega)]
          (repeat' (first | refine JC.seq ?_ | refine JC.ops ?_ | refine JO.nil ?_ | refine JX.thenN ?_ | (apply r_move; exact rfl; exact rfl; exact rfl) | (apply r_fieldAddr; exact rfl; exact rfl; exact rfl) | (apply r_assign; exact rfl; exact rfl; exact rfl) | (apply r_load; exact rfl; exact rfl; exact rfl; exact rfl; (first | exact at0 | exact at1 | exact at2 | exact at3 | exact at4 | exact at5 | exact at6 | exact at7 | exact at8 | exact at9); exact rfl) | (apply r_pickF; exact rfl; exact rfl; exact rfl; exact rfl) | (apply r_convN; exact rfl; exact rfl; exact rfl; omega) | (apply r_lss; exact rfl; exact rfl; exact rfl; exact rfl; all_goals intro hc; all_goals try (exfalso; omega)) | (apply r_geq; exact rfl; exact rfl; exact rfl; exact rfl; all_goals intro hc; all_goals try (exfalso; omega)) | refine JX.thenE ?_ | refine JC.skip ?_ | refine JC.exit ?_ | refine JC.ret ?_ | refine JC.condF rfl ?_ | refine JC.block ?_ | refine JX.blockN ?_ | refine JX.blockE ?_ | (apply r_skip; exact rfl; exact rfl; (first | (intro h; cases h; done) | (intro _; rfl)))))
          exact JX.ret2 rfl rfl (fun a w' st => ⟨st.kp, rfl⟩)

end Go.Proofs.YtdehklhdjbkneaaDoor

