/- The quotient and the remainder of words. -/
import Derived.Test.YtdehklhdjbkneaaDoorExZ
import Derived.Test.YtdehklhdjbkneaaDoorWidK
import Derived.Test.YtdehklhdjbkneaaDoorWidM
import Derived.Test.YtdehklhdjbkneaaDoorWidN
namespace Go.Proofs.YtdehklhdjbkneaaDoor
open Go Go.RowKit
set_option linter.unusedSimpArgs false
set_option linter.unusedVariables false
set_option linter.unusedSectionVars false

/-- What div gives: the quotient is new; the remainder is new, or the dividend itself. -/
structure GivesD (v : Value) (xs ys : List Nat) (w : World) (r : Value) (w' : World) : Prop where
  ex : ∃ N1 N2 v1 v2 zs rs, r = .tuple #[v1, v2] ∧ New (N1 ++ N2) w w' ∧ OwnU N1 v1 zs.length zs ∧ (OwnU N2 v2 rs.length rs ∨ (N2 = [] ∧ v2 = v ∧ rs = xs)) ∧ Dig W32 zs ∧ Dig W32 rs ∧ val W32 xs = val W32 zs * val W32 ys + val W32 rs ∧ val W32 rs < val W32 ys

theorem val_len1 {b : Nat} {ys : List Nat} (h : ys.length = 1) : val b ys = ys.getD 0 0 := by
  match ys, h with
  | [y], _ => simp [val]

theorem kn_inv {A P z V D W Z T U : Nat} (hU : U = z + V * D) (h : A + P * U + V * (P * W * Z) = T) : A + P * z + V * (P * (D + W * Z)) = T := by
  subst hU
  rw [← h]
  simp only [Nat.mul_add, Nat.mul_assoc, Nat.mul_left_comm P V D]
  omega

set_option maxHeartbeats 16000000 in
theorem c_div (w : World) (v u : Value) (n k : Nat) (xs ys : List Nat) (hv : WU w v n xs) (hu : WU w u k ys) (hx : Dig W32 xs) (hy : Dig W32 ys) (h0 : 0 < val W32 ys) (hn : n ≤ 100000) (hk : k ≤ 100000) :
    Calls Tryd.prog 52 #[v, u] w (Ret fun r w' => Kp [] w w' ∧ GivesD v xs ys w r w') := by
  have hlx := hv.len
  have hly := hu.len
  have hk0 : 0 < k := by
    rcases Nat.eq_zero_or_pos k with h | h
    · subst h
      rw [List.eq_nil_of_length_eq_zero hly] at h0
      exact absurd h0 (Nat.lt_irrefl 0)
    · exact h
  refine calls_of_S [⟨11, 1, [], []⟩, ⟨16, 1, [], []⟩, ⟨17, 8, [], []⟩] [] (by simp) [] Tryd.func52 rfl mixed (by kernel_rfl) Tryd.ntmps52 Tryd.results52 rfl ⟨by simp, by simp⟩ (by simp) ?_
  simp only [toS, textOps, toSOp, kindAt, kindOf, odAt, sopsAt, ordOf, zipF]
  (repeat' (first | refine JC.seq ?_ | refine JC.ops ?_ | refine JO.nil ?_ | refine JX.thenN ?_ | (apply r_move; exact rfl; exact rfl; exact rfl) | (apply r_assign; exact rfl; exact rfl; exact rfl)))
  refine r_call0 trivial rfl rfl rfl (fun w hk' hs => c_cmp w _ _ _ _ _ _ (hv.mono hk') (hu.mono hk') hx hy (by omega) (by omega)) fun w v w' _ _ _ hR => ?_
  subst hR
  by_cases hlt : val W32 xs < val W32 ys
  · have hneg := cmpV_neg.2 hlt
    (repeat' (first | refine JC.seq ?_ | refine JC.ops ?_ | refine JO.nil ?_ | refine JX.thenN ?_ | (apply r_move; exact rfl; exact rfl; exact rfl) | (apply r_assign; exact rfl; exact rfl; exact rfl) | (apply r_lss; exact rfl; exact rfl; exact rfl; exact rfl; all_goals intro hc; all_goals try (exfalso; omega)) | refine JX.thenR ?_ | refine JC.ret ?_ | refine JC.condT rfl ?_))
    exact JX.ret2 rfl rfl (fun a w' st => ⟨st.kp, ⟨[], [], _, _, [], xs, rfl, New.nil _ _, OwnU.nil, .inr ⟨rfl, rfl, rfl⟩, Dig.nil _, hx, by simp [val], hlt⟩⟩)
  have hneg : ¬ cmpV (val W32 xs) (val W32 ys) < 0 := fun h => hlt (cmpV_neg.1 h)
  have hkn : k ≤ n := by
    refine Decidable.byContradiction fun h => hlt ?_
    exact len_cmp (by decide) hx hy (by omega)
  by_cases hk1 : k = 1
  · subst hk1
    have hd1 : ys.getD 0 0 < 4294967296 := mem_getD_lt (b := W32) (by decide) hy.lt 0
    have hvy := val_len1 (b := W32) hly
    rw [hvy] at h0
    (repeat' (first | refine JC.seq ?_ | refine JC.ops ?_ | refine JO.nil ?_ | refine JX.thenN ?_ | (apply r_move; exact rfl; exact rfl; exact rfl) | (apply r_idxU; exact rfl; exact rfl; exact rfl; exact rfl; (first | assumption | exact WU.rd (by assumption) rfl [] | exact OwnU.rd (by assumption)); (first | assumption | omega)) | (apply r_ldU; exact rfl; exact rfl; exact rfl; exact rfl; (first | assumption | exact WU.rd (by assumption) rfl [] | exact OwnU.rd (by assumption)); (repeat' first | exact HSub.nil _ | exact HSub.hd | exact HSub.in0 | exact HSub.refl _ | refine HSub.skip ?_ | refine HSub.skipN ?_); (first | assumption | omega)) | (apply r_lenU; exact rfl; exact rfl; exact rfl; (first | assumption | exact WU.rd (by assumption) rfl [] | exact OwnU.rd (by assumption))) | (apply r_lss; exact rfl; exact rfl; exact rfl; exact rfl; all_goals intro hc; all_goals try (exfalso; omega)) | (apply r_eql; exact rfl; exact rfl; exact rfl; exact rfl; all_goals intro hc; all_goals try (exfalso; omega)) | refine JC.skip ?_ | refine JC.condT rfl ?_ | refine JC.condF rfl ?_))
    refine r_callA (A := []) rfl trivial rfl rfl rfl (fun w hk hs => c_small w _ _ _ _ (hv.mono hk) hx.lt h0 hd1 (by omega)) fun w v w' _ _ _ hR => ?_
    obtain ⟨v1, N1, zs, rfl, hN1, hO1, hz1, hval1⟩ := hR
    refine ⟨N1, hN1, ?_⟩
    (repeat' (first | refine JC.seq ?_ | refine JC.ops ?_ | refine JO.nil ?_ | refine JX.thenN ?_ | (apply r_move; exact rfl; exact rfl; exact rfl) | (apply r_assign; exact rfl; exact rfl; exact rfl) | (apply r_extract; exact rfl; exact rfl; exact rfl; exact rfl) | (apply r_build1; exact rfl; exact rfl; exact rfl; exact rfl; exact rfl; (repeat first | exact trivial | refine ⟨rfl, ?_⟩); decide; decide; intro _)))
    rename_i b3
    have hO3 : OwnU [(b3, .cells ⟨[uv (val W32 xs % ys.getD 0 0)]⟩ 68)] (.slice (some ⟨b3, 0, none⟩) 1 1) 1 [val W32 xs % ys.getD 0 0] := own_litU b3 1 [val W32 xs % ys.getD 0 0] _ rfl rfl (by omega)
    refine r_call0 trivial rfl rfl rfl (fun w hk hs => c_norm w _ _ _ _ (hO3.rd.at hk hs (by (repeat' first | exact HSub.nil _ | exact HSub.hd | exact HSub.in0 | exact HSub.refl _ | refine HSub.skip ?_ | refine HSub.skipN ?_))) (by omega)) fun w v w' _ _ _ hR => ?_
    obtain ⟨k3, hk3, rfl, hn3⟩ := hR
    have hO3' := hO3.hd hk3
    rw [← hn3] at hO3'
    have hl3 : (nrm [val W32 xs % ys.getD 0 0]).length = k3 := hO3'.len
    have hmod := Nat.mod_lt (val W32 xs) h0
    (repeat' (first | refine JO.nil ?_ | refine JX.thenN ?_ | (apply r_assign; exact rfl; exact rfl; exact rfl) | refine JX.thenR ?_ | refine JC.ret ?_))
    refine JX.ret2 rfl rfl (fun a w' st => ⟨st.kp, ⟨N1, _, _, _, zs, nrm [val W32 xs % ys.getD 0 0], rfl, st.newOf (N := N1 ++ [(b3, .cells ⟨[uv (val W32 xs % ys.getD 0 0)]⟩ 68)]) rfl ?_, hO1, .inl (by rw [hl3]; exact hO3'), hz1, Dig.of fun x hx' => ?_, ?_, ?_⟩⟩)
    · refine ⟨[], ?_⟩
      simp only [List.append_nil, List.nil_append]
      exact List.perm_append_comm (l₁ := [_])
    · rw [List.mem_singleton] at hx'
      rw [hx']
      show _ < 4294967296
      omega
    · rw [hvy, val_nrm_one, hval1, Nat.mul_comm]
      exact (Nat.div_add_mod _ _).symm
    · rw [hvy, val_nrm_one]; exact hmod
  have hne : ys ≠ [] := fun e => by subst e; simp at hly; omega
  have htlt : ys.getD (k - 1) 0 < 4294967296 := mem_getD_lt (b := W32) (by decide) hy.lt (k - 1)
  have ht0 : 0 < ys.getD (k - 1) 0 := by
    refine Nat.pos_of_ne_zero fun e => ?_
    have h1 := val_ge (b := W32) (by decide) hy.nrm hne
    rw [hly] at h1
    have h2 := val_cut W32 ys (k - 1) (by omega)
    rw [val_drop (by omega), e, val_drop_nil (by omega)] at h2
    have h3 := val_take_lt hy.lt (k := k - 1) (by omega)
    simp only [Nat.mul_zero, Nat.add_zero] at h2
    omega
  (repeat' (first | refine JC.seq ?_ | refine JC.ops ?_ | refine JO.nil ?_ | refine JX.thenN ?_ | (apply r_move; exact rfl; exact rfl; exact rfl) | (apply r_assign; exact rfl; exact rfl; exact rfl) | (apply r_lenU; exact rfl; exact rfl; exact rfl; (first | assumption | exact WU.rd (by assumption) rfl [] | exact OwnU.rd (by assumption))) | (apply r_lss; exact rfl; exact rfl; exact rfl; exact rfl; all_goals intro hc; all_goals try (exfalso; omega)) | (apply r_eql; exact rfl; exact rfl; exact rfl; exact rfl; all_goals intro hc; all_goals try (exfalso; omega)) | refine JC.skip ?_ | refine JC.condF rfl ?_ | refine JC.block ?_))
  refine JC.loopH (ι := Nat) ⟨fun s => [(8, nv s), (0, v), (1, u)], fun _ => [], fun s => s ≤ 31 ∧ ys.getD (k - 1) 0 * 2 ^ s < 4294967296, fun s => 32 - s⟩ 0 ⟨by omega, by simpa using htlt⟩ (by repeat first | exact trivial | refine ⟨rfl, ?_⟩) (by (first | exact HSub.refl _ | (repeat' first | exact HSub.nil _ | exact HSub.refl _ | refine HSub.at 0 rfl ?_ | refine HSub.at 1 rfl ?_ | refine HSub.at 2 rfl ?_ | refine HSub.at 3 rfl ?_ | refine HSub.at 4 rfl ?_ | refine HSub.at 5 rfl ?_ | refine HSub.at 6 rfl ?_ | refine HSub.at 7 rfl ?_))) (fun s hs => ?_)
  obtain ⟨hs31, hts⟩ := hs
  dsimp only at hs31 hts ⊢
  by_cases htop : ys.getD (k - 1) 0 * 2 ^ s / 2 ^ 31 = 0
  · have hsm : ys.getD (k - 1) 0 * 2 ^ s < 2147483648 := by
      have := (Nat.div_eq_zero_iff).1 htop
      omega
    have hs30 : s + 1 ≤ 31 := by
      refine Decidable.byContradiction fun h => ?_
      obtain rfl : s = 31 := by omega
      have := Nat.mul_le_mul_right (2 ^ 31) ht0
      omega
    (repeat' (first | refine JC.seq ?_ | refine JC.ops ?_ | (apply r_move; exact rfl; exact rfl; exact rfl) | (apply r_sub1; exact rfl; exact rfl; exact rfl; exact rfl; omega) | (apply r_idxU; exact rfl; exact rfl; exact rfl; exact rfl; (first | assumption | exact WU.rd (by assumption) rfl [] | exact OwnU.rd (by assumption)); (first | assumption | omega)) | (apply r_ldU; exact rfl; exact rfl; exact rfl; exact rfl; (first | assumption | exact WU.rd (by assumption) rfl [] | exact OwnU.rd (by assumption)); (repeat' first | exact HSub.nil _ | exact HSub.hd | exact HSub.in0 | exact HSub.refl _ | refine HSub.skip ?_ | refine HSub.skipN ?_); (first | assumption | omega)) | (apply r_lenU; exact rfl; exact rfl; exact rfl; (first | assumption | exact WU.rd (by assumption) rfl [] | exact OwnU.rd (by assumption))) | (apply r_shlU; exact rfl; exact rfl; exact rfl; exact rfl; (first | assumption | omega))))
    rw [Nat.mod_eq_of_lt (show ys.getD (k - 1) 0 * 2 ^ s < 18446744073709551616 by omega)]
    refine r_shrU (j := 31) rfl rfl rfl rfl (by omega) ?_
    rw [htop]
    (repeat' (first | refine JC.ops ?_ | refine JO.nil ?_ | refine JX.thenN ?_ | (apply r_move; exact rfl; exact rfl; exact rfl) | (apply r_assign; exact rfl; exact rfl; exact rfl) | (apply r_add1; exact rfl; exact rfl; exact rfl; exact rfl; omega) | (apply r_eql; exact rfl; exact rfl; exact rfl; exact rfl; all_goals intro hc; all_goals try (exfalso; omega)) | refine JC.skip ?_ | refine JC.condT rfl ?_ | refine JC.block ?_ | refine JX.blockN ?_))
    exact JX.roundH (s + 1) ⟨hs30, by rw [Nat.pow_succ, ← Nat.mul_assoc]; omega⟩ (by dsimp only; omega) (by repeat first | exact trivial | refine ⟨rfl, ?_⟩) (by (first | exact HSub.refl _ | (repeat' first | exact HSub.nil _ | exact HSub.refl _ | refine HSub.at 0 rfl ?_ | refine HSub.at 1 rfl ?_ | refine HSub.at 2 rfl ?_ | refine HSub.at 3 rfl ?_ | refine HSub.at 4 rfl ?_ | refine HSub.at 5 rfl ?_ | refine HSub.at 6 rfl ?_ | refine HSub.at 7 rfl ?_)))
  (repeat' (first | refine JC.seq ?_ | refine JC.ops ?_ | (apply r_move; exact rfl; exact rfl; exact rfl) | (apply r_sub1; exact rfl; exact rfl; exact rfl; exact rfl; omega) | (apply r_idxU; exact rfl; exact rfl; exact rfl; exact rfl; (first | assumption | exact WU.rd (by assumption) rfl [] | exact OwnU.rd (by assumption)); (first | assumption | omega)) | (apply r_ldU; exact rfl; exact rfl; exact rfl; exact rfl; (first | assumption | exact WU.rd (by assumption) rfl [] | exact OwnU.rd (by assumption)); (repeat' first | exact HSub.nil _ | exact HSub.hd | exact HSub.in0 | exact HSub.refl _ | refine HSub.skip ?_ | refine HSub.skipN ?_); (first | assumption | omega)) | (apply r_lenU; exact rfl; exact rfl; exact rfl; (first | assumption | exact WU.rd (by assumption) rfl [] | exact OwnU.rd (by assumption))) | (apply r_shlU; exact rfl; exact rfl; exact rfl; exact rfl; (first | assumption | omega))))
  rw [Nat.mod_eq_of_lt (show ys.getD (k - 1) 0 * 2 ^ s < 18446744073709551616 by omega)]
  refine r_shrU (j := 31) rfl rfl rfl rfl (by omega) ?_
  (repeat' (first | refine JC.seq ?_ | refine JC.ops ?_ | refine JO.nil ?_ | refine JX.thenN ?_ | (apply r_move; exact rfl; exact rfl; exact rfl) | (apply r_eql; exact rfl; exact rfl; exact rfl; exact rfl; all_goals intro hc; all_goals try (exfalso; omega)) | refine JX.thenE ?_ | refine JC.exit ?_ | refine JC.condF rfl ?_ | refine JX.blockE ?_))
  refine r_callA (A := []) rfl trivial rfl rfl rfl (fun w hk hs => c_shift w _ _ _ _ (hv.mono hk) hx.lt hs31 (by omega)) fun w v w' _ _ _ hR => ?_
  obtain ⟨Nu, us0, hNu, hOu, hu0, hutop, hval0⟩ := hR
  obtain ⟨bu, capu, restu, rfl, rfl, hcu, hru, hmu⟩ := hOu.blk (by omega)
  refine ⟨_, hNu, ?_⟩
  (repeat' (first | (apply r_move; exact rfl; exact rfl; exact rfl)))
  refine r_callA (A := [_]) rfl trivial rfl rfl rfl (fun w hk' hs => c_shift w _ _ _ _ (hu.mono hk') hy.lt hs31 (by omega)) fun w v w' _ _ _ hR => ?_
  obtain ⟨Nv, vs0, hNv, hOv, hv0, _, hvalv⟩ := hR
  obtain ⟨bv, capv, restv, rfl, rfl, hcv, hrv, hmv⟩ := hOv.blk (by omega)
  refine ⟨_, hNv, ?_⟩
  skip
  refine r_call0 trivial rfl rfl rfl (fun w hk hs => c_norm w _ _ _ _ (hOv.rd.at hk hs (by (repeat' first | exact HSub.nil _ | exact HSub.hd | exact HSub.in0 | exact HSub.refl _ | refine HSub.skip ?_ | refine HSub.skipN ?_))) (by omega)) fun w v w' _ _ _ hR => ?_
  obtain ⟨kv, hkv, rfl, hnv⟩ := hR
  have hOv1 := hOv.hd hkv
  rw [← hnv] at hOv1
  have hDv : Dig W32 (nrm vs0) := Dig.of hv0
  have hVv : val W32 (nrm vs0) = 2 ^ s * val W32 ys := by rw [val_nrm, hvalv]
  obtain ⟨hlv, hVge⟩ := shift_len hs31 hly hk0 hy hts hDv hVv
  obtain rfl : kv = k := by rw [← hlv]; exact hOv1.len.symm
  have hlu0 := hOu.len
  have hV0 : 0 < val W32 (nrm vs0) := by rw [hVv]; exact Nat.mul_pos (Nat.pow_pos (by decide)) h0
  have hbig := shift_top hu0 hlu0 (by omega) hkn hutop hVge
  generalize nrm vs0 = vs at hnv hOv1 hDv hVv hlv hVge hV0 hbig
  clear hvalv hnv
  (repeat' (first | refine JC.seq ?_ | refine JC.ops ?_ | refine JO.nil ?_ | refine JX.thenN ?_ | (apply r_move; exact rfl; exact rfl; exact rfl) | (apply r_assign; exact rfl; exact rfl; exact rfl) | (apply r_len; exact rfl; exact rfl; exact rfl) | (apply r_subN; exact rfl; exact rfl; exact rfl; exact rfl; omega)))
  refine r_make (n := n + 1 - kv) rfl rfl rfl rfl rfl (by omega) (by omega) (fun bq => ?_)
  have hOq := own_zerosU bq (n + 1 - kv) (by simp only [maxLen]; omega)
  have htv : vs.getD (kv - 1) 0 < 4294967296 := mem_getD_lt (b := W32) (by decide) hDv.lt (kv - 1)
  have hsv : vs.getD (kv - 2) 0 < 4294967296 := mem_getD_lt (b := W32) (by decide) hDv.lt (kv - 2)
  have htv0 : 0 < vs.getD (kv - 1) 0 := by
    refine Nat.pos_of_ne_zero fun e => ?_
    have h2 := val_cut W32 vs (kv - 1) (by omega)
    rw [val_drop (by omega), e, val_drop_nil (by omega)] at h2
    have h3 := val_take_lt hDv.lt (k := kv - 1) (by omega)
    simp only [Nat.mul_zero, Nat.add_zero] at h2
    have := Nat.le_mul_of_pos_left (W32 ^ (kv - 1)) (Nat.pow_pos (n := s) (show 0 < 2 by decide))
    have hVge' : 2 ^ s * W32 ^ (kv - 1) ≤ val W32 vs := hVge
    omega
  (repeat' (first | refine JC.seq ?_ | refine JC.ops ?_ | refine JC.opsD ?_ | refine JO.nil ?_ | refine JX.thenN ?_ | (apply r_move; exact rfl; exact rfl; exact rfl) | (apply r_assign; exact rfl; exact rfl; exact rfl) | (apply r_len; exact rfl; exact rfl; exact rfl) | (apply r_sub1; exact rfl; exact rfl; exact rfl; exact rfl; omega) | (apply r_sub2; exact rfl; exact rfl; exact rfl; exact rfl; omega) | (apply r_idxU; exact rfl; exact rfl; exact rfl; exact rfl; (first | assumption | exact WU.rd (by assumption) rfl [] | exact OwnU.rd (by assumption)); (first | assumption | omega)) | (apply r_ldU; exact rfl; exact rfl; exact rfl; exact rfl; (first | assumption | exact WU.rd (by assumption) rfl [] | exact OwnU.rd (by assumption)); (repeat' first | exact HSub.nil _ | exact HSub.hd | exact HSub.in0 | exact HSub.refl _ | refine HSub.skip ?_ | refine HSub.skipN ?_); (first | assumption | omega)) | refine JC.block ?_))
  rw [show (Value.int IntKind.i64 ((n + 1 - kv - 1 : Nat) : Int)) = iv (((n + 1 - kv : Nat) : Int) - 1) from by congr 1; omega]
  have hvs : vs.length = kv := hlv
  refine JC.loopH (ι := Nat × List Nat × SHeap × List Nat) ⟨fun z => [(14, iv ((z.1 : Int) - 1)), (13, uv (vs.getD (kv - 2) 0)), (12, uv (vs.getD (kv - 1) 0)), (11, .slice (some ⟨bq, 0, none⟩) (n + 1 - kv) (n + 1 - kv)), (10, .slice (some ⟨bv, 0, none⟩) kv capv), (9, .slice (some ⟨bu, 0, none⟩) (n + 1) capu), (8, nv s)],
    fun z => (bu, .cells (rowCU z.2.1 restu) 68 (0, 0)) :: (bv, .cells (rowCU vs0 restv) 68 (0, 0)) :: (z.2.2.1 ++ []),
    fun z => z.1 ≤ n + 1 - kv ∧ z.2.1.length = n + 1 ∧ (∀ x ∈ z.2.1, x < W32) ∧ OwnU z.2.2.1 (.slice (some ⟨bq, 0, none⟩) (n + 1 - kv) (n + 1 - kv)) (n + 1 - kv) z.2.2.2 ∧ (∀ x ∈ z.2.2.2, x < W32) ∧ val W32 (z.2.1.drop z.1) < val W32 vs ∧ val W32 z.2.1 + val W32 vs * (W32 ^ z.1 * val W32 (z.2.2.2.drop z.1)) = 2 ^ s * val W32 xs, fun z => z.1⟩
    (n + 1 - kv, us0, _, _) ⟨Nat.le_refl _, hlu0, hu0, hOq, fun x hx => by obtain ⟨a, _, rfl⟩ := List.mem_map.1 hx; decide, hbig, by
      show val W32 us0 + val W32 vs * (W32 ^ (n + 1 - kv) * val W32 ((tab (n + 1 - kv) fun _ => 0).drop (n + 1 - kv))) = _
      rw [val_drop_nil (by simp [tab]), Nat.mul_zero, Nat.mul_zero, Nat.add_zero, hval0]⟩ (by repeat first | exact trivial | refine ⟨rfl, ?_⟩) (by exact HSub.at 1 rfl (HSub.at 1 rfl (HSub.at 0 rfl (HSub.nil _)))) (fun z hz => ?_)
  clear hOu hOq hlu0 hu0 hutop hval0 hbig hNu
  obtain ⟨j, us, Nq, qs⟩ := z
  obtain ⟨hj, hlu, hu0, hOq, hqs, hdr, hval⟩ := hz
  dsimp only at hj hlu hu0 hOq hqs hdr hval ⊢
  have hOu : OwnU [(bu, .cells (rowCU us restu) 68 (0, 0))] (.slice (some ⟨bu, 0, none⟩) (n + 1) capu) (n + 1) us := OwnU.ofNamed hlu hcu hru hmu
  have hlq := hOq.len
  rcases j with _ | i
  · (repeat' (first | refine JC.seq ?_ | refine JC.ops ?_ | refine JO.nil ?_ | refine JX.thenN ?_ | (apply r_move; exact rfl; exact rfl; exact rfl) | (apply r_geq; exact rfl; exact rfl; exact rfl; exact rfl; all_goals intro hc; all_goals try (exfalso; omega)) | refine JX.thenE ?_ | refine JC.exit ?_ | refine JC.condF rfl ?_ | refine JX.blockE ?_))
    refine r_call0 trivial rfl rfl rfl (fun w hk hs => c_norm w _ _ _ _ (hOq.rd.at hk hs (by (repeat' first | exact HSub.nil _ | exact HSub.hd | exact HSub.in0 | exact HSub.refl _ | refine HSub.skip ?_ | refine HSub.skipN ?_))) (by omega)) fun w v w' _ _ _ hR => ?_
    obtain ⟨kq, hkq, rfl, hnq⟩ := hR
    have hOq' := hOq.hd hkq
    rw [← hnq] at hOq'
    have hql : (nrm qs).length = kq := hOq'.len
    (repeat' (first | (apply r_move; exact rfl; exact rfl; exact rfl)))
    refine r_call0 trivial rfl rfl rfl (fun w hk hs => c_norm w _ _ _ _ (hOu.rd.at hk hs (by (repeat' first | exact HSub.nil _ | exact HSub.hd | exact HSub.in0 | exact HSub.refl _ | refine HSub.skip ?_ | refine HSub.skipN ?_))) (by omega)) fun w v w' _ _ _ hR => ?_
    obtain ⟨ku, hku, rfl, hnu⟩ := hR
    have hOu' := hOu.hd hku
    rw [← hnu] at hOu'
    have hDu : Dig W32 (nrm us) := Dig.of hu0
    (repeat' (first | (apply r_move; exact rfl; exact rfl; exact rfl)))
    refine r_callA (A := [_, _]) rfl trivial rfl rfl rfl (fun w hk hs => c_unshift w _ _ _ _ (hOu'.rd.at hk hs (by (repeat' first | exact HSub.nil _ | exact HSub.hd | exact HSub.in0 | exact HSub.refl _ | refine HSub.skip ?_ | refine HSub.skipN ?_))) hDu.lt hs31 (by omega)) fun w v w' _ _ _ hR => ?_
    obtain ⟨Nr, rs, hNr, hOr, hr, hvr⟩ := hR
    refine ⟨Nr, hNr, ?_⟩
    rw [val_nrm] at hvr
    simp only [List.drop_zero, Nat.pow_zero, Nat.one_mul] at hdr hval
    rw [hVv] at hval hdr
    have hfin := div_final (Nat.pow_pos (by decide)) hval hdr
    (repeat' (first | refine JO.nil ?_ | refine JX.thenN ?_ | (apply r_assign; exact rfl; exact rfl; exact rfl) | refine JC.ret ?_))
    exact JX.ret2 rfl rfl (fun a w' st => ⟨st.kp, ⟨Nq, Nr, _, _, nrm qs, rs, rfl, st.newOf rfl (by
      refine HSub.trans ?_ (HSub.skip (HSub.skip (HSub.refl _)))
      exact ⟨[], by simpa using List.perm_append_comm⟩), by rw [hql]; exact hOq', .inl hOr, Dig.of hqs, hr, by rw [val_nrm, hvr]; exact hfin.1, by rw [hvr]; exact hfin.2⟩⟩)
  have hiv : iv (((i + 1 : Nat) : Int) - 1) = nv i := by
    show iv _ = iv _
    congr 1
    omega
  rw [hiv]
  have hst := kn_step (W := W32) hu0 hDv.lt hlv (by omega) (show i + kv < us.length by omega) hdr
  have ha : us.getD (i + kv) 0 < 4294967296 := mem_getD_lt (b := W32) (by decide) hu0 _
  have hb : us.getD (i + kv - 1) 0 < 4294967296 := mem_getD_lt (b := W32) (by decide) hu0 _
  have hcc : us.getD (i + kv - 2) 0 < 4294967296 := mem_getD_lt (b := W32) (by decide) hu0 _
  (repeat' (first | refine JC.seq ?_ | refine JC.ops ?_ | refine JC.opsD ?_ | refine JO.nil ?_ | refine JX.thenN ?_ | (apply r_move; exact rfl; exact rfl; exact rfl) | (apply r_assign; exact rfl; exact rfl; exact rfl) | (apply r_len; exact rfl; exact rfl; exact rfl) | (apply r_addN; exact rfl; exact rfl; exact rfl; exact rfl; omega) | (apply r_sub1; exact rfl; exact rfl; exact rfl; exact rfl; omega) | (apply r_shl32; exact rfl; exact rfl; exact rfl; exact rfl; (first | assumption | omega)) | (apply r_or32; exact rfl; exact rfl; exact rfl; exact rfl; (first | assumption | omega | exact ⟨by assumption, by assumption⟩)) | (apply r_idxU; exact rfl; exact rfl; exact rfl; exact rfl; (first | assumption | exact WU.rd (by assumption) rfl [] | exact OwnU.rd (by assumption)); (first | assumption | omega)) | (apply r_ldU; exact rfl; exact rfl; exact rfl; exact rfl; (first | assumption | exact WU.rd (by assumption) rfl [] | exact OwnU.rd (by assumption)); (repeat' first | exact HSub.nil _ | exact HSub.hd | exact HSub.in0 | exact HSub.refl _ | refine HSub.skip ?_ | refine HSub.skipN ?_); (first | assumption | omega)) | (apply r_quoU; exact rfl; exact rfl; exact rfl; exact rfl; (first | assumption | omega)) | (apply r_remU; exact rfl; exact rfl; exact rfl; exact rfl; (first | assumption | omega)) | (apply r_geq; exact rfl; exact rfl; exact rfl; exact rfl; all_goals intro hc; all_goals try (exfalso; omega)) | refine JC.skip ?_ | refine JC.condT rfl ?_ | refine JC.block ?_))
  obtain ⟨hUlt, ⟨lv, hlv1, hVeq⟩, ⟨lu, hlu1, hUeq⟩, hhead, htail⟩ := hst
  have hq0 := kn_start htv0 hVeq hUeq hcc hlu1
  refine JC.loopH (ι := Nat × Nat) ⟨fun y => [(17, uv y.1), (18, uv y.2), (15, nv (i + kv)), (14, nv i), (13, uv (vs.getD (kv - 2) 0)), (12, uv (vs.getD (kv - 1) 0)), (11, .slice (some ⟨bq, 0, none⟩) (n + 1 - kv) (n + 1 - kv)), (10, .slice (some ⟨bv, 0, none⟩) kv capv), (9, .slice (some ⟨bu, 0, none⟩) (n + 1) capu), (8, nv s)],
    fun _ => (bu, .cells (rowCU us restu) 68 (0, 0)) :: (bv, .cells (rowCU vs0 restv) 68 (0, 0)) :: (Nq ++ []),
    fun y => us.getD (i + kv) 0 * 4294967296 + us.getD (i + kv - 1) 0 = y.1 * vs.getD (kv - 1) 0 + y.2 ∧ val W32 (us.drop i) / val W32 vs ≤ y.1, fun y => y.1⟩
    ((us.getD (i + kv) 0 * 4294967296 + us.getD (i + kv - 1) 0) / vs.getD (kv - 1) 0, (us.getD (i + kv) 0 * 4294967296 + us.getD (i + kv - 1) 0) % vs.getD (kv - 1) 0) ⟨by dsimp only; rw [Nat.mul_comm _ (vs.getD (kv - 1) 0)]; exact (Nat.div_add_mod _ _).symm, hq0⟩ (by repeat first | exact trivial | refine ⟨rfl, ?_⟩) (by (first | exact HSub.refl _ | (repeat' first | exact HSub.nil _ | exact HSub.refl _ | refine HSub.at 0 rfl ?_ | refine HSub.at 1 rfl ?_ | refine HSub.at 2 rfl ?_ | refine HSub.at 3 rfl ?_ | refine HSub.at 4 rfl ?_ | refine HSub.at 5 rfl ?_ | refine HSub.at 6 rfl ?_ | refine HSub.at 7 rfl ?_))) (fun y hyy => ?_)
  obtain ⟨G, R⟩ := y
  obtain ⟨hGR, hqG⟩ := hyy
  dsimp only at hGR hqG ⊢
  have hGle : G ≤ G * vs.getD (kv - 1) 0 := Nat.le_mul_of_pos_right _ htv0
  have hqW : val W32 (us.drop i) / val W32 vs < 4294967296 := Nat.div_lt_of_lt_mul hUlt
  have hdecr : ∀ g r, g * vs.getD (kv - 1) 0 + r = G * vs.getD (kv - 1) 0 + R → g + 1 = G → r = R + vs.getD (kv - 1) 0 := by
    intro g r h1 h2
    rw [← h2, Nat.add_mul, Nat.one_mul] at h1
    omega
  have hround : 1 ≤ G → us.getD (i + kv) 0 * 4294967296 + us.getD (i + kv - 1) 0 = (G - 1) * vs.getD (kv - 1) 0 + (R + vs.getD (kv - 1) 0) := by
    intro h1
    have : G * vs.getD (kv - 1) 0 = (G - 1) * vs.getD (kv - 1) 0 + vs.getD (kv - 1) 0 := by
      conv => lhs; rw [show G = G - 1 + 1 by omega, Nat.add_mul, Nat.one_mul]
    omega
  by_cases hg : 4294967295 < G
  · (repeat' (first | refine JC.seq ?_ | refine JC.ops ?_ | refine JO.nil ?_ | refine JX.thenN ?_ | (apply r_move; exact rfl; exact rfl; exact rfl) | (apply r_assign; exact rfl; exact rfl; exact rfl) | (apply r_pickT; exact rfl; exact rfl; exact rfl; exact rfl) | (apply r_addU; exact rfl; exact rfl; exact rfl; exact rfl; (first | assumption | omega)) | (apply r_decU; exact rfl; exact rfl; exact rfl; exact rfl; (first | assumption | omega)) | (apply r_gtr; exact rfl; exact rfl; exact rfl; exact rfl; all_goals intro hc; all_goals try (exfalso; omega)) | refine JC.skip ?_ | refine JC.condT rfl ?_ | refine JC.block ?_ | refine JX.blockN ?_ | (apply r_skip; exact rfl; exact rfl; (first | (intro h; cases h; done) | (intro _; rfl)))))
    exact JX.roundH (G - 1, R + vs.getD (kv - 1) 0) ⟨hround (by omega), by dsimp only; omega⟩ (by dsimp only; omega) (by repeat first | exact trivial | refine ⟨rfl, ?_⟩) (by (first | exact HSub.refl _ | (repeat' first | exact HSub.nil _ | exact HSub.refl _ | refine HSub.at 0 rfl ?_ | refine HSub.at 1 rfl ?_ | refine HSub.at 2 rfl ?_ | refine HSub.at 3 rfl ?_ | refine HSub.at 4 rfl ?_ | refine HSub.at 5 rfl ?_ | refine HSub.at 6 rfl ?_ | refine HSub.at 7 rfl ?_)))
  have hgs := mul_bound (show G < 4294967296 by omega) hsv
  have hout : G * (vs.getD (kv - 1) 0 * W32 + vs.getD (kv - 2) 0) ≤ (us.getD (i + kv) 0 * W32 + us.getD (i + kv - 1) 0) * W32 + us.getD (i + kv - 2) 0 ∨ (R ≤ 4294967295 ∧ R * 4294967296 + us.getD (i + kv - 2) 0 < G * vs.getD (kv - 2) 0) := by
    by_cases h : R ≤ 4294967295 ∧ R * 4294967296 + us.getD (i + kv - 2) 0 < G * vs.getD (kv - 2) 0
    · exact .inr h
    · refine .inl (kn_out hGR (by show G < 4294967296; omega) hsv ?_)
      show 4294967296 ≤ R ∨ G * vs.getD (kv - 2) 0 ≤ R * 4294967296 + us.getD (i + kv - 2) 0
      omega
  by_cases hdec : R ≤ 4294967295 ∧ R * 4294967296 + us.getD (i + kv - 2) 0 < G * vs.getD (kv - 2) 0
  · obtain ⟨hR1, hR2⟩ := hdec
    have hG1 : 1 ≤ G := by
      rcases Nat.eq_zero_or_pos G with h | h
      · subst h; rw [Nat.zero_mul] at hR2; omega
      · exact h
    have hqlt : val W32 (us.drop i) / val W32 vs < G := by
      refine kn_dec (V2 := vs.getD (kv - 1) 0 * 4294967296 + vs.getD (kv - 2) 0) (U3 := (us.getD (i + kv) 0 * 4294967296 + us.getD (i + kv - 1) 0) * 4294967296 + us.getD (i + kv - 2) 0) hVeq hUeq hlu1 ?_
      rw [hGR, Nat.mul_add, Nat.add_mul, Nat.mul_assoc G]
      omega
    (repeat' (first | refine JC.seq ?_ | refine JC.ops ?_ | refine JO.nil ?_ | refine JX.thenN ?_ | (apply r_move; exact rfl; exact rfl; exact rfl) | (apply r_assign; exact rfl; exact rfl; exact rfl) | (apply r_sub2; exact rfl; exact rfl; exact rfl; exact rfl; omega) | (apply r_pickT; exact rfl; exact rfl; exact rfl; exact rfl) | (apply r_pickF; exact rfl; exact rfl; exact rfl; exact rfl) | (apply r_shl32; exact rfl; exact rfl; exact rfl; exact rfl; (first | assumption | omega)) | (apply r_or32; exact rfl; exact rfl; exact rfl; exact rfl; (first | assumption | omega | exact ⟨by assumption, by assumption⟩)) | (apply r_idxU; exact rfl; exact rfl; exact rfl; exact rfl; (first | assumption | exact WU.rd (by assumption) rfl [] | exact OwnU.rd (by assumption)); (first | assumption | omega)) | (apply r_ldU; exact rfl; exact rfl; exact rfl; exact rfl; (first | assumption | exact WU.rd (by assumption) rfl [] | exact OwnU.rd (by assumption)); (repeat' first | exact HSub.nil _ | exact HSub.hd | exact HSub.in0 | exact HSub.refl _ | refine HSub.skip ?_ | refine HSub.skipN ?_); (first | assumption | omega)) | (apply r_addU; exact rfl; exact rfl; exact rfl; exact rfl; (first | assumption | omega)) | (apply r_mulU; exact rfl; exact rfl; exact rfl; exact rfl; (first | assumption | omega)) | (apply r_decU; exact rfl; exact rfl; exact rfl; exact rfl; (first | assumption | omega)) | (apply r_leq; exact rfl; exact rfl; exact rfl; exact rfl; all_goals intro hc; all_goals try (exfalso; omega)) | (apply r_gtr; exact rfl; exact rfl; exact rfl; exact rfl; all_goals intro hc; all_goals try (exfalso; omega)) | refine JC.skip ?_ | refine JC.condT rfl ?_ | refine JC.block ?_ | refine JX.blockN ?_))
    exact JX.roundH (G - 1, R + vs.getD (kv - 1) 0) ⟨hround hG1, by dsimp only; omega⟩ (by dsimp only; omega) (by repeat first | exact trivial | refine ⟨rfl, ?_⟩) (by (first | exact HSub.refl _ | (repeat' first | exact HSub.nil _ | exact HSub.refl _ | refine HSub.at 0 rfl ?_ | refine HSub.at 1 rfl ?_ | refine HSub.at 2 rfl ?_ | refine HSub.at 3 rfl ?_ | refine HSub.at 4 rfl ?_ | refine HSub.at 5 rfl ?_ | refine HSub.at 6 rfl ?_ | refine HSub.at 7 rfl ?_)))
  have hout1 := hout.resolve_right hdec
  have hV2 : 4294967296 ≤ vs.getD (kv - 1) 0 * W32 + vs.getD (kv - 2) 0 := by
    have h1 : 1 * 4294967296 ≤ vs.getD (kv - 1) 0 * 4294967296 := Nat.mul_le_mul_right _ htv0
    exact Nat.le_trans (by omega) (Nat.le_add_right _ _)
  have hGq := kn_end (g := G) hVeq hlv1 (Nat.lt_of_lt_of_le (by decide) hV2) hUeq hout1 (Nat.le_trans (by omega) (Nat.le_succ_of_le hV2))
  by_cases hRm : R ≤ 4294967295
  · have hR2 : ¬ R * 4294967296 + us.getD (i + kv - 2) 0 < G * vs.getD (kv - 2) 0 := fun h => hdec ⟨hRm, h⟩
    (repeat' (first | refine JC.seq ?_ | refine JC.ops ?_ | refine JO.nil ?_ | refine JX.thenN ?_ | (apply r_move; exact rfl; exact rfl; exact rfl) | (apply r_sub2; exact rfl; exact rfl; exact rfl; exact rfl; omega) | (apply r_pickT; exact rfl; exact rfl; exact rfl; exact rfl) | (apply r_pickF; exact rfl; exact rfl; exact rfl; exact rfl) | (apply r_shl32; exact rfl; exact rfl; exact rfl; exact rfl; (first | assumption | omega)) | (apply r_or32; exact rfl; exact rfl; exact rfl; exact rfl; (first | assumption | omega | exact ⟨by assumption, by assumption⟩)) | (apply r_idxU; exact rfl; exact rfl; exact rfl; exact rfl; (first | assumption | exact WU.rd (by assumption) rfl [] | exact OwnU.rd (by assumption)); (first | assumption | omega)) | (apply r_ldU; exact rfl; exact rfl; exact rfl; exact rfl; (first | assumption | exact WU.rd (by assumption) rfl [] | exact OwnU.rd (by assumption)); (repeat' first | exact HSub.nil _ | exact HSub.hd | exact HSub.in0 | exact HSub.refl _ | refine HSub.skip ?_ | refine HSub.skipN ?_); (first | assumption | omega)) | (apply r_mulU; exact rfl; exact rfl; exact rfl; exact rfl; (first | assumption | omega)) | (apply r_leq; exact rfl; exact rfl; exact rfl; exact rfl; all_goals intro hc; all_goals try (exfalso; omega)) | (apply r_gtr; exact rfl; exact rfl; exact rfl; exact rfl; all_goals intro hc; all_goals try (exfalso; omega)) | refine JX.thenE ?_ | refine JC.exit ?_ | refine JC.condF rfl ?_ | refine JX.blockE ?_))
    refine r_tail (o' := i) rfl rfl rfl rfl (Nat.zero_add _) (by omega) (by omega) ?_
    (repeat' (first | (apply r_move; exact rfl; exact rfl; exact rfl)))
    refine r_call0 trivial rfl rfl rfl (fun w hk hs => by
      have hw := WU.ofBlk (o := i) (k := n + 1 - i) (cc := capu - i) (hs_at hs 0 rfl) (by omega) (by omega)
      rw [List.take_of_length_le (by simp; omega)] at hw
      exact c_less w bu i (n + 1 - i) (capu - i) kv G (us.drop i) vs _ hw (hOv1.rd.at hk hs (by (repeat' first | exact HSub.nil _ | exact HSub.hd | exact HSub.in0 | exact HSub.refl _ | refine HSub.skip ?_ | refine HSub.skipN ?_))) (by omega) (fun x hx => hu0 x (List.mem_of_mem_drop hx)) hDv.lt (by omega) (by omega)) fun w v w' _ _ _ hR => ?_
    subst hR
    rw [hhead]
    by_cases hl : val W32 (us.drop i) < val W32 vs * G
    · rw [decide_eq_true hl]
      have hD : G - 1 = val W32 (us.drop i) / val W32 vs := by
        have h1 := Nat.div_lt_of_lt_mul hl
        generalize val W32 (us.drop i) / val W32 vs = q at *
        omega
      have hG1 : 1 ≤ G := by
        have h1 := Nat.div_lt_of_lt_mul hl
        generalize val W32 (us.drop i) / val W32 vs = q at *
        omega
      have hDlt : G - 1 < 4294967296 := by omega
      (repeat' (first | refine JC.seq ?_ | refine JC.ops ?_ | refine JO.nil ?_ | refine JX.thenN ?_ | (apply r_move; exact rfl; exact rfl; exact rfl) | (apply r_assign; exact rfl; exact rfl; exact rfl) | (apply r_decU; exact rfl; exact rfl; exact rfl; exact rfl; (first | assumption | omega)) | refine JC.condT rfl ?_))
      refine r_tail (o' := i) rfl rfl rfl rfl (Nat.zero_add _) (by omega) (by omega) ?_
      (repeat' (first | (apply r_move; exact rfl; exact rfl; exact rfl)))
      refine r_callO (A := []) (N := [_]) (B := (bv, .cells (rowCU vs0 restv) 68 (0, 0)) :: (Nq ++ [])) rfl trivial rfl rfl rfl (fun w hk hs => by
        have c := c_take w bu i capu kv (G - 1) capv us vs _ restu (hs_at hs 0 rfl) (by omega) (hOv1.rd.at hk hs (by (repeat' first | exact HSub.nil _ | exact HSub.hd | exact HSub.in0 | exact HSub.refl _ | refine HSub.skip ?_ | refine HSub.skipN ?_))) (fun _ => by simpa using (hs_ne hs 1 0 rfl rfl (by decide))) (by omega) hu0 hDv.lt hDlt (by omega) (by rw [hhead, hD]; exact Nat.mul_div_le _ _) (by omega)
        rw [hlu] at c
        exact c) fun w v w' _ _ _ hR => ?_
      obtain ⟨zs, hzl, hz, hvz, hbl⟩ := hR
      refine ⟨[(bu, .cells (rowCU (put i (kv + 1) zs us) restu) 68 (0, 0))], rfl, fun p hp => by cases List.mem_singleton.1 hp; exact hbl, ?_⟩
      (repeat' (first | refine JC.ops ?_ | refine JO.nil ?_ | refine JX.thenN ?_ | (apply r_move; exact rfl; exact rfl; exact rfl) | (apply r_idxU; exact rfl; exact rfl; exact rfl; exact rfl; (first | assumption | exact WU.rd (by assumption) rfl [] | exact OwnU.rd (by assumption)); (first | assumption | omega))))
      refine r_stU (A := [_, _]) hOq rfl rfl trivial rfl rfl (by omega) (fun Nq' hOq' => ?_)
      (repeat' (first | refine JC.ops ?_ | refine JO.nil ?_ | refine JX.thenN ?_ | (apply r_move; exact rfl; exact rfl; exact rfl) | (apply r_assign; exact rfl; exact rfl; exact rfl) | (apply r_sub; exact rfl; exact rfl; exact rfl; exact rfl; omega) | refine JX.blockN ?_))
      have hput := val_put (b := W32) (zs := zs) (show i + (kv + 1) ≤ us.length by omega) htail
      rw [hhead] at hvz
      refine JX.roundH (i, put i (kv + 1) zs us, Nq', _) ⟨by dsimp only; omega, by dsimp only; rw [put_len (by omega) hzl]; exact hlu, put_lt (by decide) hu0 hz.lt, hOq', set_lt hqs hDlt, ?_, ?_⟩ (by dsimp only; omega) (by repeat first | exact trivial | refine ⟨rfl, ?_⟩) (by (first | exact HSub.refl _ | (repeat' first | exact HSub.nil _ | exact HSub.refl _ | refine HSub.at 0 rfl ?_ | refine HSub.at 1 rfl ?_ | refine HSub.at 2 rfl ?_ | refine HSub.at 3 rfl ?_ | refine HSub.at 4 rfl ?_ | refine HSub.at 5 rfl ?_ | refine HSub.at 6 rfl ?_ | refine HSub.at 7 rfl ?_)))
      · dsimp only
        rw [hput]
        rw [hD] at hvz
        have hm := Nat.mod_lt (val W32 (us.drop i)) hV0
        have hdm := Nat.div_add_mod (val W32 (us.drop i)) (val W32 vs)
        omega
      · dsimp only
        have e1 := val_cut W32 (put i (kv + 1) zs us) i (by rw [put_len (by omega) hzl]; omega)
        rw [put_take (by omega), hput] at e1
        rw [e1, val_drop (l := qs.set i _) (by simp; omega), getD_set_self (by omega), drop_set]
        have e2 := val_cut W32 us i (by omega)
        rw [e2, Nat.pow_succ] at hval
        exact kn_inv hvz.symm hval
    · rw [decide_eq_false hl]
      have hD : G = val W32 (us.drop i) / val W32 vs := by
        have h1 : G ≤ val W32 (us.drop i) / val W32 vs := (Nat.le_div_iff_mul_le hV0).2 (by rw [Nat.mul_comm]; omega)
        exact Nat.le_antisymm h1 hqG
      have hDlt : G < 4294967296 := by omega
      (repeat' (first | refine JC.seq ?_ | refine JC.ops ?_ | refine JO.nil ?_ | refine JX.thenN ?_ | (apply r_move; exact rfl; exact rfl; exact rfl) | refine JC.skip ?_ | refine JC.condF rfl ?_))
      refine r_tail (o' := i) rfl rfl rfl rfl (Nat.zero_add _) (by omega) (by omega) ?_
      (repeat' (first | (apply r_move; exact rfl; exact rfl; exact rfl)))
      refine r_callO (A := []) (N := [_]) (B := (bv, .cells (rowCU vs0 restv) 68 (0, 0)) :: (Nq ++ [])) rfl trivial rfl rfl rfl (fun w hk hs => by
        have c := c_take w bu i capu kv (G) capv us vs _ restu (hs_at hs 0 rfl) (by omega) (hOv1.rd.at hk hs (by (repeat' first | exact HSub.nil _ | exact HSub.hd | exact HSub.in0 | exact HSub.refl _ | refine HSub.skip ?_ | refine HSub.skipN ?_))) (fun _ => by simpa using (hs_ne hs 1 0 rfl rfl (by decide))) (by omega) hu0 hDv.lt hDlt (by omega) (by rw [hhead, hD]; exact Nat.mul_div_le _ _) (by omega)
        rw [hlu] at c
        exact c) fun w v w' _ _ _ hR => ?_
      obtain ⟨zs, hzl, hz, hvz, hbl⟩ := hR
      refine ⟨[(bu, .cells (rowCU (put i (kv + 1) zs us) restu) 68 (0, 0))], rfl, fun p hp => by cases List.mem_singleton.1 hp; exact hbl, ?_⟩
      (repeat' (first | refine JC.ops ?_ | refine JO.nil ?_ | refine JX.thenN ?_ | (apply r_move; exact rfl; exact rfl; exact rfl) | (apply r_idxU; exact rfl; exact rfl; exact rfl; exact rfl; (first | assumption | exact WU.rd (by assumption) rfl [] | exact OwnU.rd (by assumption)); (first | assumption | omega))))
      refine r_stU (A := [_, _]) hOq rfl rfl trivial rfl rfl (by omega) (fun Nq' hOq' => ?_)
      (repeat' (first | refine JC.ops ?_ | refine JO.nil ?_ | refine JX.thenN ?_ | (apply r_move; exact rfl; exact rfl; exact rfl) | (apply r_assign; exact rfl; exact rfl; exact rfl) | (apply r_sub; exact rfl; exact rfl; exact rfl; exact rfl; omega) | refine JX.blockN ?_))
      have hput := val_put (b := W32) (zs := zs) (show i + (kv + 1) ≤ us.length by omega) htail
      rw [hhead] at hvz
      refine JX.roundH (i, put i (kv + 1) zs us, Nq', _) ⟨by dsimp only; omega, by dsimp only; rw [put_len (by omega) hzl]; exact hlu, put_lt (by decide) hu0 hz.lt, hOq', set_lt hqs hDlt, ?_, ?_⟩ (by dsimp only; omega) (by repeat first | exact trivial | refine ⟨rfl, ?_⟩) (by (first | exact HSub.refl _ | (repeat' first | exact HSub.nil _ | exact HSub.refl _ | refine HSub.at 0 rfl ?_ | refine HSub.at 1 rfl ?_ | refine HSub.at 2 rfl ?_ | refine HSub.at 3 rfl ?_ | refine HSub.at 4 rfl ?_ | refine HSub.at 5 rfl ?_ | refine HSub.at 6 rfl ?_ | refine HSub.at 7 rfl ?_)))
      · dsimp only
        rw [hput]
        rw [hD] at hvz
        have hm := Nat.mod_lt (val W32 (us.drop i)) hV0
        have hdm := Nat.div_add_mod (val W32 (us.drop i)) (val W32 vs)
        omega
      · dsimp only
        have e1 := val_cut W32 (put i (kv + 1) zs us) i (by rw [put_len (by omega) hzl]; omega)
        rw [put_take (by omega), hput] at e1
        rw [e1, val_drop (l := qs.set i _) (by simp; omega), getD_set_self (by omega), drop_set]
        have e2 := val_cut W32 us i (by omega)
        rw [e2, Nat.pow_succ] at hval
        exact kn_inv hvz.symm hval
  · (repeat' (first | refine JC.seq ?_ | refine JC.ops ?_ | refine JO.nil ?_ | refine JX.thenN ?_ | (apply r_move; exact rfl; exact rfl; exact rfl) | (apply r_pickF; exact rfl; exact rfl; exact rfl; exact rfl) | (apply r_leq; exact rfl; exact rfl; exact rfl; exact rfl; all_goals intro hc; all_goals try (exfalso; omega)) | (apply r_gtr; exact rfl; exact rfl; exact rfl; exact rfl; all_goals intro hc; all_goals try (exfalso; omega)) | refine JX.thenE ?_ | refine JC.exit ?_ | refine JC.condF rfl ?_ | refine JX.blockE ?_ | (apply r_skip; exact rfl; exact rfl; (first | (intro h; cases h; done) | (intro _; rfl)))))
    refine r_tail (o' := i) rfl rfl rfl rfl (Nat.zero_add _) (by omega) (by omega) ?_
    (repeat' (first | (apply r_move; exact rfl; exact rfl; exact rfl)))
    refine r_call0 trivial rfl rfl rfl (fun w hk hs => by
      have hw := WU.ofBlk (o := i) (k := n + 1 - i) (cc := capu - i) (hs_at hs 0 rfl) (by omega) (by omega)
      rw [List.take_of_length_le (by simp; omega)] at hw
      exact c_less w bu i (n + 1 - i) (capu - i) kv G (us.drop i) vs _ hw (hOv1.rd.at hk hs (by (repeat' first | exact HSub.nil _ | exact HSub.hd | exact HSub.in0 | exact HSub.refl _ | refine HSub.skip ?_ | refine HSub.skipN ?_))) (by omega) (fun x hx => hu0 x (List.mem_of_mem_drop hx)) hDv.lt (by omega) (by omega)) fun w v w' _ _ _ hR => ?_
    subst hR
    rw [hhead]
    by_cases hl : val W32 (us.drop i) < val W32 vs * G
    · rw [decide_eq_true hl]
      have hD : G - 1 = val W32 (us.drop i) / val W32 vs := by
        have h1 := Nat.div_lt_of_lt_mul hl
        generalize val W32 (us.drop i) / val W32 vs = q at *
        omega
      have hG1 : 1 ≤ G := by
        have h1 := Nat.div_lt_of_lt_mul hl
        generalize val W32 (us.drop i) / val W32 vs = q at *
        omega
      have hDlt : G - 1 < 4294967296 := by omega
      (repeat' (first | refine JC.seq ?_ | refine JC.ops ?_ | refine JO.nil ?_ | refine JX.thenN ?_ | (apply r_move; exact rfl; exact rfl; exact rfl) | (apply r_assign; exact rfl; exact rfl; exact rfl) | (apply r_decU; exact rfl; exact rfl; exact rfl; exact rfl; (first | assumption | omega)) | refine JC.condT rfl ?_))
      refine r_tail (o' := i) rfl rfl rfl rfl (Nat.zero_add _) (by omega) (by omega) ?_
      (repeat' (first | (apply r_move; exact rfl; exact rfl; exact rfl)))
      refine r_callO (A := []) (N := [_]) (B := (bv, .cells (rowCU vs0 restv) 68 (0, 0)) :: (Nq ++ [])) rfl trivial rfl rfl rfl (fun w hk hs => by
        have c := c_take w bu i capu kv (G - 1) capv us vs _ restu (hs_at hs 0 rfl) (by omega) (hOv1.rd.at hk hs (by (repeat' first | exact HSub.nil _ | exact HSub.hd | exact HSub.in0 | exact HSub.refl _ | refine HSub.skip ?_ | refine HSub.skipN ?_))) (fun _ => by simpa using (hs_ne hs 1 0 rfl rfl (by decide))) (by omega) hu0 hDv.lt hDlt (by omega) (by rw [hhead, hD]; exact Nat.mul_div_le _ _) (by omega)
        rw [hlu] at c
        exact c) fun w v w' _ _ _ hR => ?_
      obtain ⟨zs, hzl, hz, hvz, hbl⟩ := hR
      refine ⟨[(bu, .cells (rowCU (put i (kv + 1) zs us) restu) 68 (0, 0))], rfl, fun p hp => by cases List.mem_singleton.1 hp; exact hbl, ?_⟩
      (repeat' (first | refine JC.ops ?_ | refine JO.nil ?_ | refine JX.thenN ?_ | (apply r_move; exact rfl; exact rfl; exact rfl) | (apply r_idxU; exact rfl; exact rfl; exact rfl; exact rfl; (first | assumption | exact WU.rd (by assumption) rfl [] | exact OwnU.rd (by assumption)); (first | assumption | omega))))
      refine r_stU (A := [_, _]) hOq rfl rfl trivial rfl rfl (by omega) (fun Nq' hOq' => ?_)
      (repeat' (first | refine JC.ops ?_ | refine JO.nil ?_ | refine JX.thenN ?_ | (apply r_move; exact rfl; exact rfl; exact rfl) | (apply r_assign; exact rfl; exact rfl; exact rfl) | (apply r_sub; exact rfl; exact rfl; exact rfl; exact rfl; omega) | refine JX.blockN ?_))
      have hput := val_put (b := W32) (zs := zs) (show i + (kv + 1) ≤ us.length by omega) htail
      rw [hhead] at hvz
      refine JX.roundH (i, put i (kv + 1) zs us, Nq', _) ⟨by dsimp only; omega, by dsimp only; rw [put_len (by omega) hzl]; exact hlu, put_lt (by decide) hu0 hz.lt, hOq', set_lt hqs hDlt, ?_, ?_⟩ (by dsimp only; omega) (by repeat first | exact trivial | refine ⟨rfl, ?_⟩) (by (first | exact HSub.refl _ | (repeat' first | exact HSub.nil _ | exact HSub.refl _ | refine HSub.at 0 rfl ?_ | refine HSub.at 1 rfl ?_ | refine HSub.at 2 rfl ?_ | refine HSub.at 3 rfl ?_ | refine HSub.at 4 rfl ?_ | refine HSub.at 5 rfl ?_ | refine HSub.at 6 rfl ?_ | refine HSub.at 7 rfl ?_)))
      · dsimp only
        rw [hput]
        rw [hD] at hvz
        have hm := Nat.mod_lt (val W32 (us.drop i)) hV0
        have hdm := Nat.div_add_mod (val W32 (us.drop i)) (val W32 vs)
        omega
      · dsimp only
        have e1 := val_cut W32 (put i (kv + 1) zs us) i (by rw [put_len (by omega) hzl]; omega)
        rw [put_take (by omega), hput] at e1
        rw [e1, val_drop (l := qs.set i _) (by simp; omega), getD_set_self (by omega), drop_set]
        have e2 := val_cut W32 us i (by omega)
        rw [e2, Nat.pow_succ] at hval
        exact kn_inv hvz.symm hval
    · rw [decide_eq_false hl]
      have hD : G = val W32 (us.drop i) / val W32 vs := by
        have h1 : G ≤ val W32 (us.drop i) / val W32 vs := (Nat.le_div_iff_mul_le hV0).2 (by rw [Nat.mul_comm]; omega)
        exact Nat.le_antisymm h1 hqG
      have hDlt : G < 4294967296 := by omega
      (repeat' (first | refine JC.seq ?_ | refine JC.ops ?_ | refine JO.nil ?_ | refine JX.thenN ?_ | (apply r_move; exact rfl; exact rfl; exact rfl) | refine JC.skip ?_ | refine JC.condF rfl ?_))
      refine r_tail (o' := i) rfl rfl rfl rfl (Nat.zero_add _) (by omega) (by omega) ?_
      (repeat' (first | (apply r_move; exact rfl; exact rfl; exact rfl)))
      refine r_callO (A := []) (N := [_]) (B := (bv, .cells (rowCU vs0 restv) 68 (0, 0)) :: (Nq ++ [])) rfl trivial rfl rfl rfl (fun w hk hs => by
        have c := c_take w bu i capu kv (G) capv us vs _ restu (hs_at hs 0 rfl) (by omega) (hOv1.rd.at hk hs (by (repeat' first | exact HSub.nil _ | exact HSub.hd | exact HSub.in0 | exact HSub.refl _ | refine HSub.skip ?_ | refine HSub.skipN ?_))) (fun _ => by simpa using (hs_ne hs 1 0 rfl rfl (by decide))) (by omega) hu0 hDv.lt hDlt (by omega) (by rw [hhead, hD]; exact Nat.mul_div_le _ _) (by omega)
        rw [hlu] at c
        exact c) fun w v w' _ _ _ hR => ?_
      obtain ⟨zs, hzl, hz, hvz, hbl⟩ := hR
      refine ⟨[(bu, .cells (rowCU (put i (kv + 1) zs us) restu) 68 (0, 0))], rfl, fun p hp => by cases List.mem_singleton.1 hp; exact hbl, ?_⟩
      (repeat' (first | refine JC.ops ?_ | refine JO.nil ?_ | refine JX.thenN ?_ | (apply r_move; exact rfl; exact rfl; exact rfl) | (apply r_idxU; exact rfl; exact rfl; exact rfl; exact rfl; (first | assumption | exact WU.rd (by assumption) rfl [] | exact OwnU.rd (by assumption)); (first | assumption | omega))))
      refine r_stU (A := [_, _]) hOq rfl rfl trivial rfl rfl (by omega) (fun Nq' hOq' => ?_)
      (repeat' (first | refine JC.ops ?_ | refine JO.nil ?_ | refine JX.thenN ?_ | (apply r_move; exact rfl; exact rfl; exact rfl) | (apply r_assign; exact rfl; exact rfl; exact rfl) | (apply r_sub; exact rfl; exact rfl; exact rfl; exact rfl; omega) | refine JX.blockN ?_))
      have hput := val_put (b := W32) (zs := zs) (show i + (kv + 1) ≤ us.length by omega) htail
      rw [hhead] at hvz
      refine JX.roundH (i, put i (kv + 1) zs us, Nq', _) ⟨by dsimp only; omega, by dsimp only; rw [put_len (by omega) hzl]; exact hlu, put_lt (by decide) hu0 hz.lt, hOq', set_lt hqs hDlt, ?_, ?_⟩ (by dsimp only; omega) (by repeat first | exact trivial | refine ⟨rfl, ?_⟩) (by (first | exact HSub.refl _ | (repeat' first | exact HSub.nil _ | exact HSub.refl _ | refine HSub.at 0 rfl ?_ | refine HSub.at 1 rfl ?_ | refine HSub.at 2 rfl ?_ | refine HSub.at 3 rfl ?_ | refine HSub.at 4 rfl ?_ | refine HSub.at 5 rfl ?_ | refine HSub.at 6 rfl ?_ | refine HSub.at 7 rfl ?_)))
      · dsimp only
        rw [hput]
        rw [hD] at hvz
        have hm := Nat.mod_lt (val W32 (us.drop i)) hV0
        have hdm := Nat.div_add_mod (val W32 (us.drop i)) (val W32 vs)
        omega
      · dsimp only
        have e1 := val_cut W32 (put i (kv + 1) zs us) i (by rw [put_len (by omega) hzl]; omega)
        rw [put_take (by omega), hput] at e1
        rw [e1, val_drop (l := qs.set i _) (by simp; omega), getD_set_self (by omega), drop_set]
        have e2 := val_cut W32 us i (by omega)
        rw [e2, Nat.pow_succ] at hval
        exact kn_inv hvz.symm hval

end Go.Proofs.YtdehklhdjbkneaaDoor
